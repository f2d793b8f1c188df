/- Merged: Dense, DenPl. -/
import Derived.Test.YtookgoidlnlckaaDoorGapCostP13
import Derived.Test.YtookgoidlnlckaaDoorGapCostP19
namespace Go.Proofs.YtookgoidlnlckaaDoor
set_option maxRecDepth 100000
set_option maxHeartbeats 40000000
set_option linter.unusedVariables false
set_option linter.unusedSimpArgs false
section
open Go.RowKit
theorem full_arith {A W P F F' D x m d : Int} (hA : 0 ≤ A) (hW : 0 ≤ W) (hP : 1 ≤ P) (hD : 0 ≤ D) (hd : 1 ≤ d) (h1 : m * A ≤ W * P * F') (hF : F = F' + D * d) (hAD : A ≤ D * W) (hx : x * P ≤ m + P - 1) : x * A ≤ W * F := by
 have e1 : (x * P) * A ≤ (m + P - 1) * A := Int.mul_le_mul_of_nonneg_right hx hA
 have e2 : (m + P - 1) * A = m * A + P * A - A := by rw [Int.sub_mul, Int.add_mul, Int.one_mul]
 have e3 : P * A ≤ P * (D * W) := Int.mul_le_mul_of_nonneg_left hAD xo
 have e4 : D * W ≤ D * W * d := by
  have := Int.mul_le_mul_of_nonneg_left hd (Int.mul_nonneg hD hW)
  rwa [Int.mul_one] at this
 have e5 : P * (D * W) ≤ P * (D * W * d) := Int.mul_le_mul_of_nonneg_left e4 xo
 have e6 : W * P * F' + P * (D * W * d) = P * (W * F) := by
  rw [hF, Int.mul_add, Int.mul_add, Int.mul_comm W P, Int.mul_assoc, Int.mul_comm D W, Int.mul_assoc W D d]
 have e7 : (x * P) * A = P * (x * A) := by rw [Int.mul_comm x P, Int.mul_assoc]
 exact Int.le_of_mul_le_mul_left (a := P) xo xo
theorem spr_arith {A W P G G' x m : Int} (hA : 0 ≤ A) (hW : 0 ≤ W) (hP : 1 ≤ P) (h1 : W * P * G' ≤ (m + 1) * A) (hG : G ≤ G') (hx : m + 1 ≤ (x + 1) * P) : W * G ≤ (x + 1) * A := by
 have e1 : (m + 1) * A ≤ ((x + 1) * P) * A := Int.mul_le_mul_of_nonneg_right hx hA
 have e2 : W * P * G ≤ W * P * G' := Int.mul_le_mul_of_nonneg_left hG (Int.mul_nonneg hW xo)
 have e3 : W * P * G = P * (W * G) := by rw [Int.mul_comm W P, Int.mul_assoc]
 have e4 : ((x + 1) * P) * A = P * ((x + 1) * A) := by rw [Int.mul_comm (x + 1) P, Int.mul_assoc]
 exact Int.le_of_mul_le_mul_left (a := P) xo xo
theorem wdC_add (c : Cfg) (j d : Nat) : wdC c (j + d) = wdC c j * ((2 ^ d : Nat) : Int) := by
 rw [wdC, wdC, Int.pow_add, Int.mul_assoc]
 push_cast
 rfl
theorem CapC.bal {c : Cfg} {size : Int} {a H : Nat} (k : CapC c size a H) : c.den * H ≤ (c.lh - c.rh) * c.seg := by
 have hm := k.may
 simp only [cfMay, Bool.and_eq_true, decide_eq_true_eq] at hm
 obtain ⟨hd, hb⟩ := hm
 obtain ⟨d0, d1, d2, d3, d4, d5, d6, d7, d8, d9, d10, d11, d12, d13, d14, d15, d16, d17⟩ := cfHead_num hd
 obtain ⟨H', e, hb2, -⟩ := cap_nat hd k.seg (n := c.most) xo xo
 have hle := (powB_iff.1 k.cap).2.1
 have e2 : htC c (taks c c.most) = H' := by
  rw [htC, e, k.seg, Int.natCast_mul, Int.mul_ediv_cancel_left _ (by have := Nat.two_pow_pos a; omega), Int.toNat_natCast, Nat.log2_two_pow]
 have hHH : H ≤ H' := by
  rw [k.all, e] at hle
  have h3 : 2 ^ a * 2 ^ H ≤ 2 ^ a * 2 ^ H' := xo
  exact (Nat.pow_le_pow_iff_right (a := 2) xo).1 (Nat.le_of_mul_le_mul_left h3 (Nat.two_pow_pos a))
 rw [e2] at hb
 have := Int.mul_le_mul_of_nonneg_left (show (H : Int) ≤ H' by omega) (show 0 ≤ c.den by omega)
 omega
theorem full_share {c : Cfg} {size : Int} {a H j d m x : Nat} (k : CapC c size a H) (hj : j + d ≤ H) (hd : 1 ≤ d) (hf : fulB c H (j + d) m = true) (hx : x * 2 ^ d < m + 2 ^ d) : fulB c H j x = true := by
 obtain ⟨d0, d1, d2, d3, d4, d5, d6, d7, d8, d9, d10, d11, d12, d13, d14, d15, d16, d17⟩ := cfHead_num (cfMay_head k.may)
 unfold fulB at hf ⊢
 rw [if_neg xo, decide_eq_true_eq] at hf ⊢
 obtain ⟨-, w4, -, -⟩ := k.wd (h := j) xo
 have hws : c.seg ≤ wdC c j := by
  have h1 : (1 : Int) ≤ 2 ^ j := by
   have := Nat.two_pow_pos j
   have e : (2 : Int) ^ j = ((2 ^ j : Nat) : Int) := by push_cast; rfl
   rw [e]; omega
  have := Int.mul_le_mul_of_nonneg_left h1 (show 0 ≤ c.seg by omega)
  rw [Int.mul_one] at this
  exact this
 have hb := k.bal
 have hp := Nat.two_pow_pos d
 have hA : 0 ≤ (H : Int) * c.den := Int.mul_nonneg xo xo
 rw [Int.mul_assoc]
 rw [Int.mul_assoc, wdC_add] at hf
 refine full_arith (P := ((2 ^ d : Nat) : Int)) (D := c.lh - c.rh) (d := d) (m := m) hA xo xo xo xo hf ?_ ?_ ?_
 · have e : ((j + d : Nat) : Int) = (j : Int) + d := by push_cast; rfl
   rw [e]
   have e1 : c.lh * ((H : Int) - (j + d)) = c.lh * ((H : Int) - j) - c.lh * d := by rw [← Int.mul_sub]; congr 1; omega
   have e2 : c.rh * ((j : Int) + d) = c.rh * j + c.rh * d := Int.mul_add ..
   have e3 : (c.lh - c.rh) * (d : Int) = c.lh * d - c.rh * d := Int.sub_mul ..
   omega
 · have h5 : (c.lh - c.rh) * c.seg ≤ (c.lh - c.rh) * wdC c j := Int.mul_le_mul_of_nonneg_left hws xo
   rw [Int.mul_comm (H : Int)]
   omega
 · have e : ((x * 2 ^ d : Nat) : Int) = (x : Int) * ((2 ^ d : Nat) : Int) := by push_cast; rfl
   omega
def sprN (c : Cfg) (H h : Nat) (n : Int) : Prop := wdC c h * (c.ll * ((H : Int) - h) + c.rl * h) ≤ (n + 1) * H * c.den
theorem sprB_or {c : Cfg} {size : Int} {H h : Nat} {n : Int} : sprB c size H h n = true ↔ size = c.least ∨ sprN c H h n := by
 unfold sprB sprN
 rw [Bool.or_eq_true, decide_eq_true_eq, decide_eq_true_eq]
theorem spr_share {c : Cfg} {size : Int} {a H j d m x : Nat} (k : CapC c size a H) (hj : j + d ≤ H) (hf : sprN c H (j + d) m) (hx : m < (x + 1) * 2 ^ d) : sprN c H j x := by
 obtain ⟨d0, d1, d2, d3, d4, d5, d6, d7, d8, d9, d10, d11, d12, d13, d14, d15, d16, d17⟩ := cfHead_num (cfMay_head k.may)
 obtain ⟨-, w4, -, -⟩ := k.wd (h := j) xo
 unfold sprN at hf ⊢
 have hp := Nat.two_pow_pos d
 have hA : 0 ≤ (H : Int) * c.den := Int.mul_nonneg xo xo
 rw [Int.mul_assoc]
 rw [wdC_add, Int.mul_assoc (_ + 1)] at hf
 refine spr_arith (P := ((2 ^ d : Nat) : Int)) (m := m) hA xo xo hf ?_ ?_
 · have e : ((j + d : Nat) : Int) = (j : Int) + d := by push_cast; rfl
   rw [e]
   have e1 : c.ll * ((H : Int) - (j + d)) = c.ll * ((H : Int) - j) - c.ll * d := by rw [← Int.mul_sub]; congr 1; omega
   have e2 : c.rl * ((j : Int) + d) = c.rl * j + c.rl * d := Int.mul_add ..
   have e3 : c.ll * (d : Int) ≤ c.rl * d := Int.mul_le_mul_of_nonneg_right xo xo
   omega
 · have e : (((x + 1) * 2 ^ d : Nat) : Int) = ((x : Int) + 1) * ((2 ^ d : Nat) : Int) := by push_cast; rfl
   omega
theorem sprN_more {c : Cfg} {H h : Nat} {n m : Int} (hd : 0 ≤ c.den) (h1 : n ≤ m) (hn : sprN c H h n) : sprN c H h m := by
 unfold sprN at hn ⊢
 have e1 : (n + 1) * (H : Int) ≤ (m + 1) * (H : Int) := Int.mul_le_mul_of_nonneg_right xo xo
 have := Int.mul_le_mul_of_nonneg_right e1 hd
 omega
theorem fulB_less {c : Cfg} {H h : Nat} {n m : Int} (hd : 0 ≤ c.den) (h1 : m ≤ n) (hn : fulB c H h n = true) : fulB c H h m = true := by
 unfold fulB at hn ⊢
 split at hn
 · rename_i hz
   rw [if_pos hz, decide_eq_true_eq]
   rw [decide_eq_true_eq] at hn
   have := Int.mul_le_mul_of_nonneg_right h1 hd
   omega
 · rename_i hz
   rw [if_neg hz, decide_eq_true_eq]
   rw [decide_eq_true_eq] at hn
   have e1 : m * (H : Int) ≤ n * (H : Int) := Int.mul_le_mul_of_nonneg_right h1 xo
   have := Int.mul_le_mul_of_nonneg_right e1 hd
   omega
end
section
open Go.RowKit
def okW (c : Cfg) (n : Int) (H h : Nat) (x : Int) : Prop := fulB c H h x = true ∧ sprB c n H h x = true
def cntH (ws : List Int) (a h i : Nat) : Nat := cntW ws (i * 2 ^ (a + h)) ((i + 1) * 2 ^ (a + h))
def denW (c : Cfg) (n : Int) (a H : Nat) (ws : List Int) : Prop := ∀ h, h ≤ H → ∀ i, i < 2 ^ (H - h) → okW c n H h (cntH ws a h i)
theorem seg_pow (a h i : Nat) : i * 2 ^ (a + h) = i * 2 ^ h * 2 ^ a := by rw [Nat.pow_add, Nat.mul_comm (2 ^ a), Nat.mul_assoc]
theorem denB_iff {c : Cfg} {s : SlC} {a H lw n : Nat} (g : SlGd s (2 ^ a) lw n (2 ^ H)) : denB c s H = true ↔ denW c s.ks.length a H s.ws := by
 have e : ∀ h, h ≤ H → ∀ i, i < 2 ^ (H - h) → sumC s.cs (i * 2 ^ h) ((i + 1) * 2 ^ h) = (cntH s.ws a h i : Int) := by
  intro h hh i hi
  have hb : (i + 1) * 2 ^ h ≤ 2 ^ H := by
   have : (i + 1) * 2 ^ h ≤ 2 ^ (H - h) * 2 ^ h := Nat.mul_le_mul_right _ hi
   rwa [← Nat.pow_add, Nat.sub_add_cancel hh] at this
  rw [sumC_cnt2 g (Nat.mul_le_mul_right _ xo) hb, cntH, seg_pow, seg_pow]
 have ed : ∀ h, h ≤ H → s.cs.length / 2 ^ h = 2 ^ (H - h) := by
  intro h hh
  rw [g.elc, Nat.pow_div hh xo]
 unfold denB denW rowB winB okW
 simp only [List.all_eq_true, List.mem_range, Bool.and_eq_true]
 constructor
 · intro q h hh i hi
   have := q h xo i (by rw [ed h hh]; exact hi)
   rwa [e h hh i hi] at this
 · intro q h hh i hi
   have hh' : h ≤ H := xo
   rw [ed h hh'] at hi
   rw [e h hh' i hi]
   exact q h hh' i hi
theorem wnd_wide {a h j at_ : Nat} (hj : h ≤ j) : wnd a j at_ * 2 ^ (a + j) ≤ wnd a h at_ * 2 ^ (a + h) ∧ (wnd a h at_ + 1) * 2 ^ (a + h) ≤ (wnd a j at_ + 1) * 2 ^ (a + j) := by
 have e : 2 ^ (a + j) = 2 ^ (j - h) * 2 ^ (a + h) := by rw [← Nat.pow_add]; congr 1; omega
 have e2 : wnd a j at_ = wnd a h at_ / 2 ^ (j - h) := by
  unfold wnd
  rw [e, Nat.mul_comm, Nat.div_div_eq_div_mul]
 have hp := Nat.two_pow_pos (j - h)
 have h1 := Nat.lt_div_mul_add hp (a := wnd a h at_)
 constructor
 · rw [e, e2, ← Nat.mul_assoc]
   exact Nat.mul_le_mul_right _ (Nat.div_mul_le_self _ _)
 · rw [e, e2, ← Nat.mul_assoc]
   refine Nat.mul_le_mul_right _ ?_
   rw [Nat.succ_mul]
   exact h1
theorem win_apart {w i i' : Nat} (h : i ≠ i') : (i + 1) * w ≤ i' * w ∨ (i' + 1) * w ≤ i * w := by
 rcases Nat.lt_or_ge i i' with q | q
 · exact .inl (Nat.mul_le_mul_right _ q)
 · exact .inr (Nat.mul_le_mul_right _ xo)
theorem ok_share {c : Cfg} {size : Int} {a H j h m x : Nat} (k : CapC c size a H) (hjh : j < h) (hh : h ≤ H) (ok : okW c size H h (m : Int)) (h1 : x * 2 ^ (h - j) < m + 2 ^ (h - j)) (h2 : m < (x + 1) * 2 ^ (h - j)) : okW c size H j (x : Int) := by
 have e : j + (h - j) = h := xo
 obtain ⟨o1, o2⟩ := ok
 rw [← e] at o1 o2
 refine ⟨full_share k xo xo o1 h1, ?_⟩
 rw [sprB_or] at o2 ⊢
 rcases o2 with o2 | o2
 · exact .inl o2
 · exact .inr (spr_share k xo o2 h2)
theorem den_sp {c : Cfg} {z : SlC} {a H lw n at_ h : Nat} (k : CapC c n a H) (g : SlGd z (2 ^ a) lw n (2 ^ H)) (hh : h ≤ H) (hat : at_ < n) {L : List (Int × Int)} (hL : L.length ≤ 2 ^ (a + h))
    (hout : ∀ j, j ≤ H → ∀ i, i < 2 ^ (H - j) → i ≠ wnd a j at_ → okW c n H j (cntH z.ws a j i))
    (hup : ∀ j, h ≤ j → j ≤ H → ∀ x : Nat, x + cntH z.ws a h (wnd a h at_) = cntH z.ws a j (wnd a j at_) + L.length → okW c n H j (x : Int)) :
    denW c n a H (spC z (wnd a h at_ * 2 ^ (a + h)) ((wnd a h at_ + 1) * 2 ^ (a + h)) L).ws := by
 have hn : n = 2 ^ a * 2 ^ H := by have := k.all; omega
 obtain ⟨b1, b2, b3, b4⟩ := wnd_bd (a := a) (at_ := at_) hh (by rw [← hn]; exact hat)
 have hlo : wnd a h at_ * 2 ^ (a + h) ≤ (wnd a h at_ + 1) * 2 ^ (a + h) := Nat.mul_le_mul_right _ xo
 have hhi : (wnd a h at_ + 1) * 2 ^ (a + h) ≤ n := by rw [hn]; exact b4
 have hw : (wnd a h at_ + 1) * 2 ^ (a + h) - wnd a h at_ * 2 ^ (a + h) = 2 ^ (a + h) := by rw [Nat.succ_mul]; omega
 have hLw : L.length ≤ (wnd a h at_ + 1) * 2 ^ (a + h) - wnd a h at_ * 2 ^ (a + h) := by rw [hw]; exact hL
 intro j hj i hi
 obtain ⟨-, c2, c3, -⟩ := wnd_bd (a := a) (at_ := at_) hj (by rw [← hn]; exact hat)
 have hdis : (i + 1) * 2 ^ (a + j) ≤ wnd a h at_ * 2 ^ (a + h) ∨ (wnd a h at_ + 1) * 2 ^ (a + h) ≤ i * 2 ^ (a + j) → okW c n H j (cntH (spC z (wnd a h at_ * 2 ^ (a + h)) ((wnd a h at_ + 1) * 2 ^ (a + h)) L).ws a j i) := by
  intro hd
  have e := cnt_out g hlo hhi hLw hd
  unfold cntH
  rw [e]
  refine hout j hj i hi fun e => ?_
  rw [e] at hd
  omega
 rcases Nat.lt_or_ge j h with q | q
 · have eP : 2 ^ (a + h) = 2 ^ (h - j) * 2 ^ (a + j) := by rw [← Nat.pow_add]; congr 1; omega
   have hP := Nat.two_pow_pos (h - j)
   have hwj := Nat.two_pow_pos (a + j)
   rcases Nat.lt_trichotomy (i / 2 ^ (h - j)) (wnd a h at_) with r | r | r
   · have h1 : i < wnd a h at_ * 2 ^ (h - j) := (Nat.div_lt_iff_lt_mul hP).1 r
     refine hdis (.inl ?_)
     rw [eP, ← Nat.mul_assoc]
     exact Nat.mul_le_mul_right _ h1
   · obtain ⟨x, ex, x1, x2⟩ := cnt_part (lo := wnd a h at_ * 2 ^ (a + h)) (w := 2 ^ (a + j)) (P := 2 ^ (h - j)) (q := i % 2 ^ (h - j)) g (by rw [← eP, ← Nat.succ_mul]; exact hhi) (by rw [← eP]; exact hL) hwj hP (Nat.mod_lt _ hP)
     have ei : i * 2 ^ (a + j) = wnd a h at_ * 2 ^ (a + h) + i % 2 ^ (h - j) * 2 ^ (a + j) := by
      rw [eP, ← r, ← Nat.mul_assoc, ← Nat.add_mul, Nat.mul_comm (i / _), Nat.div_add_mod]
     have ei2 : (i + 1) * 2 ^ (a + j) = wnd a h at_ * 2 ^ (a + h) + (i % 2 ^ (h - j) + 1) * 2 ^ (a + j) := by
      rw [Nat.succ_mul, ei, Nat.succ_mul, Nat.add_assoc]
     have hs : (wnd a h at_ + 1) * 2 ^ (a + h) = wnd a h at_ * 2 ^ (a + h) + 2 ^ (h - j) * 2 ^ (a + j) := by rw [Nat.succ_mul, ← eP]
     have hm := hup h (Nat.le_refl _) hh L.length xo
     unfold cntH
     rw [ei, ei2, hs, ex]
     exact ok_share k q hh hm x1 x2
   · have h1 : (wnd a h at_ + 1) * 2 ^ (h - j) ≤ i := (Nat.le_div_iff_mul_le hP).1 r
     refine hdis (.inr ?_)
     rw [eP, ← Nat.mul_assoc]
     exact Nat.mul_le_mul_right _ h1
 · obtain ⟨w1, w2⟩ := wnd_wide (a := a) (at_ := at_) q
   by_cases e : i = wnd a j at_
   · subst e
     refine hup j q hj _ ?_
     unfold cntH
     have t1 := cntW_add (spC z (wnd a h at_ * 2 ^ (a + h)) ((wnd a h at_ + 1) * 2 ^ (a + h)) L).ws w1 (Nat.le_trans hlo w2)
     have t2 := cntW_add (spC z (wnd a h at_ * 2 ^ (a + h)) ((wnd a h at_ + 1) * 2 ^ (a + h)) L).ws hlo w2
     have u1 := cntW_add z.ws w1 (Nat.le_trans hlo w2)
     have u2 := cntW_add z.ws hlo w2
     have v1 := cnt_out g hlo hhi hLw (x := wnd a j at_ * 2 ^ (a + j)) (y := wnd a h at_ * 2 ^ (a + h)) (.inl (Nat.le_refl _))
     have v2 := cnt_out g hlo hhi hLw (x := (wnd a h at_ + 1) * 2 ^ (a + h)) (y := (wnd a j at_ + 1) * 2 ^ (a + j)) (.inr (Nat.le_refl _))
     have v3 := cnt_all g hlo hhi hLw
     omega
   · rcases win_apart (w := 2 ^ (a + j)) e with r | r
     · exact hdis (.inl (Nat.le_trans r w1))
     · exact hdis (.inr (Nat.le_trans w2 r))
theorem gapN_mk {c : Cfg} {z : SlC} {a H n : Nat} (k : CapC c n a H) (g : SlGd z (2 ^ a) ((n + 63) / 64) n (2 ^ H)) : GapN c z a H := by
 have hm := gd_may g (pwB_two a) (pwB_two H) rfl
 have hn : n = 2 ^ a * 2 ^ H := by have := k.all; omega
 have hm' := hm
 simp only [slMay, Bool.and_eq_true] at hm'
 exact ⟨by rw [g.elk]; exact k, g.seg, by rw [g.elk, hn], by rw [g.elv, hn], g.elc, cntB_bd g.seg hm'.2, hm⟩
theorem gapE_den {c : Cfg} {z : SlC} {a H n : Nat} (k : CapC c n a H) (g : SlGd z (2 ^ a) ((n + 63) / 64) n (2 ^ H)) (hmany : (cntW z.ws 0 n : Int) ≤ c.most) (hd : denW c n a H z.ws) : gapE c z = 0 := by
 have kn := gapN_mk k g
 have hs : sumC z.cs 0 z.cs.length = (cntW z.ws 0 n : Int) := by
  have := sum_many kn g.u
  rwa [manyC, g.elk] at this
 rw [gapE_may kn (by rw [g.seg, k.seg]) (by rw [hs]; exact hmany), if_pos]
 rw [denB_iff g, g.elk]
 exact hd
theorem ok_more {c : Cfg} {size : Int} {a H h : Nat} (k : CapC c size a H) {x y : Int} (hf : fulB c H h y = true) (ok : okW c size H h x) (hxy : x ≤ y) : okW c size H h y := by
 obtain ⟨d0, d1, d2, d3, d4, d5, d6, d7, d8, d9, d10, d11, d12, d13, d14, d15, d16, d17⟩ := cfHead_num (cfMay_head k.may)
 refine ⟨hf, ?_⟩
 have o := ok.2
 rw [sprB_or] at o ⊢
 rcases o with o | o
 · exact .inl o
 · exact .inr (sprN_more xo hxy o)
theorem ok_less {c : Cfg} {size : Int} {a H h : Nat} (k : CapC c size a H) {x y : Int} (hs : sprB c size H h y = true) (ok : okW c size H h x) (hxy : y ≤ x) : okW c size H h y := by
 obtain ⟨d0, d1, d2, d3, d4, d5, d6, d7, d8, d9, d10, d11, d12, d13, d14, d15, d16, d17⟩ := cfHead_num (cfMay_head k.may)
 exact ⟨fulB_less xo hxy ok.1, hs⟩
theorem cntH_in {c : Cfg} {s : SlC} {a H h at_ : Nat} (k : GapN c s a H) (hu : U64s s.ws) (hh : h ≤ H) (hat : at_ < s.ks.length) : inH s a h at_ = (cntH s.ws a h (wnd a h at_) : Int) := in_cnt k hu hh hat
theorem wnd_lt {a H h at_ : Nat} (hh : h ≤ H) (hat : at_ < 2 ^ a * 2 ^ H) : wnd a h at_ < 2 ^ (H - h) := by
 have e1 : 2 ^ a * 2 ^ H = 2 ^ (H - h) * 2 ^ (a + h) := by rw [← Nat.pow_add, ← Nat.pow_add]; congr 1; omega
 unfold wnd
 rw [Nat.div_lt_iff_lt_mul (Nat.two_pow_pos _), ← e1]; exact hat
theorem many_sp {z : SlC} {S lw n lc lo hi : Nat} (g : SlGd z S lw n lc) (hlo : lo ≤ hi) (hhi : hi ≤ n) {L : List (Int × Int)} (hL : L.length ≤ hi - lo) : cntW (spC z lo hi L).ws 0 n + cntW z.ws lo hi = cntW z.ws 0 n + L.length := by
 have t1 := cntW_add (spC z lo hi L).ws (a := 0) (b := lo) (d := n) xo xo
 have t2 := cntW_add (spC z lo hi L).ws (a := lo) (b := hi) (d := n) hlo hhi
 have u1 := cntW_add z.ws (a := 0) (b := lo) (d := n) xo xo
 have u2 := cntW_add z.ws (a := lo) (b := hi) (d := n) hlo hhi
 have v1 := cnt_out g hlo hhi hL (x := 0) (y := lo) (.inl (Nat.le_refl _))
 have v2 := cnt_out g hlo hhi hL (x := hi) (y := n) (.inr (Nat.le_refl _))
 have v3 := cnt_all g hlo hhi hL
 omega
theorem put_den {c : Cfg} {s : SlC} {a H : Nat} (k : GapN c s a H) (hu : U64s s.ws) (hd : denB c s H = true) (hmost : (manyC s : Int) < c.most) {at_ h : Nat} (hat : at_ < s.ks.length) (eh : topI (ovB c s a H at_) (H + 1) + 1 = h) (hh : h ≤ H) {L : List (Int × Int)} (hL : L.length = cntH s.ws a h (wnd a h at_) + 1) (hL2 : L.length ≤ 2 ^ (a + h)) :
    gapE c (spC s (wnd a h at_ * 2 ^ (a + h)) ((wnd a h at_ + 1) * 2 ^ (a + h)) L) = 0 := by
 obtain ⟨g, -⟩ := gapN_gd k hu
 have hn := k.nk
 obtain ⟨-, -, -, b4⟩ := wnd_bd (a := a) (at_ := at_) hh (by rw [← hn]; exact hat)
 have hlo : wnd a h at_ * 2 ^ (a + h) ≤ (wnd a h at_ + 1) * 2 ^ (a + h) := Nat.mul_le_mul_right _ xo
 have hhi : (wnd a h at_ + 1) * 2 ^ (a + h) ≤ s.ks.length := by rw [hn]; exact b4
 have hw : (wnd a h at_ + 1) * 2 ^ (a + h) - wnd a h at_ * 2 ^ (a + h) = 2 ^ (a + h) := by rw [Nat.succ_mul]; omega
 rw [denB_iff g] at hd
 have hov : ∀ j, h ≤ j → j ≤ H → fulB c H j (inH s a j at_ + 1) = true := by
  intro j h1 h2
  have : ovB c s a H at_ j = false := by
   rcases topI_cases (ovB c s a H at_) (H + 1) with ⟨e, hn⟩ | ⟨q, hq, e, hp, hn⟩
   · exact hn j xo
   · exact hn j xo xo
  unfold ovB at this
  rwa [Bool.not_eq_false'] at this
 refine gapE_den k.cap (g.sp hlo hhi (by rw [hw]; exact hL2)) ?_ (den_sp k.cap g hh hat hL2 (fun j hj i hi _ => hd j hj i hi) fun j h1 h2 x hx => ?_)
 · have := many_sp g hlo hhi (L := L) (by rw [hw]; exact hL2)
   unfold manyC at hmost
   unfold cntH at hL
   omega
 · have hf := hov j h1 h2
   rw [cntH_in k hu h2 hat] at hf
   have hx2 : x = cntH s.ws a j (wnd a j at_) + 1 := xo
   rw [hx2]
   exact ok_more k.cap (by push_cast; exact hf) (hd j h2 _ (wnd_lt h2 (by rw [← hn]; exact hat))) (by push_cast; omega)
theorem cnt_tk {c : SlC} {S lw n lc : Nat} (h : SlGd c S lw n lc) {i : Nat} (hi : i < n) (hb : bitW c.ws i = true) (x y : Nat) : cntW c.ws x y = cntW (tkC c i).ws x y + if x ≤ i ∧ i < y then 1 else 0 :=
  cntW_clr h.u (by rw [h.elw]; have := h.wn; omega) hb x y
theorem take_in {c : Cfg} {s : SlC} {a H : Nat} (k : GapN c s a H) (hu : U64s s.ws) {at_ : Nat} (hat : at_ < s.ks.length) (hb : bitW s.ws at_ = true) :
    GapN c (tkC s at_) a H ∧ SlGd (tkC s at_) (2 ^ a) ((s.ks.length + 63) / 64) s.ks.length (2 ^ H) ∧ (tkC s at_).ks.length = s.ks.length ∧
    (∀ j, j ≤ H → ∀ i, i ≠ wnd a j at_ → cntH (tkC s at_).ws a j i = cntH s.ws a j i) ∧ (∀ j, j ≤ H → cntH (tkC s at_).ws a j (wnd a j at_) + 1 = cntH s.ws a j (wnd a j at_)) ∧ manyC (tkC s at_) + 1 = manyC s := by
 obtain ⟨g, -⟩ := gapN_gd k hu
 have gt := g.tk hat
 have hn := k.nk
 refine ⟨gapN_mk k.cap gt, gt, gt.elk, fun j hj i hi => ?_, fun j hj => ?_, ?_⟩
 · obtain ⟨-, c2, c3, -⟩ := wnd_bd (a := a) (at_ := at_) hj (by rw [← hn]; exact hat)
   have := cnt_tk g hat hb (i * 2 ^ (a + j)) ((i + 1) * 2 ^ (a + j))
   rw [if_neg (by rcases win_apart (w := 2 ^ (a + j)) hi with r | r <;> omega)] at this
   exact this.symm
 · obtain ⟨-, c2, c3, -⟩ := wnd_bd (a := a) (at_ := at_) hj (by rw [← hn]; exact hat)
   have := cnt_tk g hat hb (wnd a j at_ * 2 ^ (a + j)) ((wnd a j at_ + 1) * 2 ^ (a + j))
   rw [if_pos ⟨c2, c3⟩] at this
   exact this.symm
 · have := cnt_tk g hat hb 0 s.ks.length
   rw [if_pos ⟨by omega, hat⟩] at this
   unfold manyC
   rw [gt.elk]
   exact this.symm
theorem take_den {c : Cfg} {s : SlC} {a H : Nat} (k : GapN c s a H) (hu : U64s s.ws) (hd : denB c s H = true) (hmost : (manyC s : Int) ≤ c.most) {at_ : Nat} (hat : at_ < s.ks.length) (hb : bitW s.ws at_ = true) :
    (topI (unfB c (tkC s at_) a H at_) (H + 1) = -1 → gapE c (tkC s at_) = 0) ∧
    (∀ h : Nat, topI (unfB c (tkC s at_) a H at_) (H + 1) + 1 = h → h ≤ H → ∀ L : List (Int × Int), L.length = cntH (tkC s at_).ws a h (wnd a h at_) → L.length ≤ 2 ^ (a + h) →
      gapE c (spC (tkC s at_) (wnd a h at_ * 2 ^ (a + h)) ((wnd a h at_ + 1) * 2 ^ (a + h)) L) = 0) := by
 obtain ⟨g, -⟩ := gapN_gd k hu
 have hn := k.nk
 obtain ⟨kt, gt, ekt, t1, t2, t3⟩ := take_in k hu hat hb
 rw [denB_iff g] at hd
 have hsp : ∀ j, j ≤ H → topI (unfB c (tkC s at_) a H at_) (H + 1) < (j : Int) → okW c s.ks.length H j (cntH (tkC s at_).ws a j (wnd a j at_)) := by
  intro j hj htop
  have : unfB c (tkC s at_) a H at_ j = false := by
   rcases topI_cases (unfB c (tkC s at_) a H at_) (H + 1) with ⟨e, hn⟩ | ⟨q, hq, e, hp, hn⟩
   · exact hn j xo
   · exact hn j xo xo
  unfold unfB at this
  rw [Bool.not_eq_false', cntH_in kt gt.u hj (by rw [ekt]; exact hat), ekt] at this
  have h2 := t2 j hj
  exact ok_less k.cap this (hd j hj _ (wnd_lt hj (by rw [← hn]; exact hat))) xo
 have hout : ∀ j, j ≤ H → ∀ i, i < 2 ^ (H - j) → i ≠ wnd a j at_ → okW c s.ks.length H j (cntH (tkC s at_).ws a j i) := by
  intro j hj i hi hne
  rw [t1 j hj i hne]
  exact hd j hj i hi
 have hmm : (cntW (tkC s at_).ws 0 s.ks.length : Int) ≤ c.most := by
  unfold manyC at hmost t3
  rw [ekt] at t3
  omega
 constructor
 · intro e
   refine gapE_den k.cap gt hmm fun j hj i hi => ?_
   by_cases q : i = wnd a j at_
   · rw [q]; exact hsp j hj xo
   · exact hout j hj i hi q
 · intro h eh hh L hL hL2
   obtain ⟨-, -, -, b4⟩ := wnd_bd (a := a) (at_ := at_) hh (by rw [← hn]; exact hat)
   have hlo : wnd a h at_ * 2 ^ (a + h) ≤ (wnd a h at_ + 1) * 2 ^ (a + h) := Nat.mul_le_mul_right _ xo
   have hhi : (wnd a h at_ + 1) * 2 ^ (a + h) ≤ s.ks.length := by rw [hn]; exact b4
   have hw : (wnd a h at_ + 1) * 2 ^ (a + h) - wnd a h at_ * 2 ^ (a + h) = 2 ^ (a + h) := by rw [Nat.succ_mul]; omega
   refine gapE_den k.cap (gt.sp hlo hhi (by rw [hw]; exact hL2)) ?_ (den_sp k.cap gt hh hat hL2 hout fun j h1 h2 x hx => ?_)
   · have := many_sp gt hlo hhi (L := L) (by rw [hw]; exact hL2)
     unfold cntH at hL
     omega
   · have hx2 : x = cntH (tkC s at_).ws a j (wnd a j at_) := xo
     rw [hx2]
     exact hsp j h2 xo
end
end Go.Proofs.YtookgoidlnlckaaDoor

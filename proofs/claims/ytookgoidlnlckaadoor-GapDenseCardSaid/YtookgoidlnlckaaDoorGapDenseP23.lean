/- Merged: LoadW, Ref05, Ref09, Ref09C, GapLd, PutPl, TakPl, OrdPl. -/
import Derived.Test.YtookgoidlnlckaaDoorGapDenseP15
import Derived.Test.YtookgoidlnlckaaDoorGapDenseP3
import Derived.Deep.CutRange
import Derived.Test.YtookgoidlnlckaaDoorGapDenseP8
import Derived.Test.YtookgoidlnlckaaDoorGapDenseP11
import Derived.Test.YtookgoidlnlckaaDoorGapDenseP12
import Derived.Test.YtookgoidlnlckaaDoorGapDenseP22
import Derived.Test.YtookgoidlnlckaaDoorGapDenseP20
import Derived.Test.YtookgoidlnlckaaDoorGapDenseP19
namespace Go.Proofs.YtookgoidlnlckaaDoor
set_option maxRecDepth 100000
set_option maxHeartbeats 4000000
set_option linter.unusedVariables false
set_option linter.unusedSimpArgs false
section
open Go.RowKit Go.Shelf
attribute [local go_sem] Oper.semAt_some
theorem gapLoad_err (w : World) (c : Cfg) (seg : Int) (wa ka va ca : Option Addr) (wc kc vc cc lw n lv lc : Nat) (laid : Int) (m : Nat) (la : Option Addr) (pl : Nat) (e : Int) (he : e ≠ 0)
    (CK : Hid (∀ W, Below w.heap.size w W → Calls Tryd.prog 18 #[.agg #[.int .u8 c.tag, .int .i64 c.most, .int .i64 c.seg, .int .i64 c.least, .int .i64 c.den, .int .i64 c.ll, .int .i64 c.rl, .int .i64 c.rh, .int .i64 c.lh], .agg #[.int .i64 seg, .slice wa lw wc, .slice ka n kc, .slice va lv vc, .slice ca lc cc, .int .u64 laid]] W (AnsB W (.int .i64 e)))) :
    Calls Tryd.prog 17 #[.agg #[.int .u8 c.tag, .int .i64 c.most, .int .i64 c.seg, .int .i64 c.least, .int .i64 c.den, .int .i64 c.ll, .int .i64 c.rl, .int .i64 c.rh, .int .i64 c.lh], .agg #[.int .i64 seg, .slice wa lw wc, .slice ka n kc, .slice va lv vc, .slice ca lc cc, .int .u64 laid], .slice la m pl] w (FreshSl2 w ⟨0, [], [], [], [], 0⟩ (.int .i64 e)) := by
 have ge : (e != 0) = true := by simpa using he
 clear he
 go_enter Tryd.func17, Tryd.ntmps17
 go_wp2_with fail
 refine (CK.out _ xbel).mono ?_
 rintro e w1 ⟨rfl, hb1⟩
 have hz_w1 := hb1.size
 try simp only [World.size_alloc, World.size_setCell] at hz_w1
 have hh := bc9 hb1 (au9 (au9 (al9 (b := w.heap.size) (by simp))))
 obtain ⟨c_t0, c_t1, c_t2, c_t3, c_t4, c_t5, c_t6, c_t7, c_t8⟩ := hh
 have z_t := blt hb1 (auz (auz (alz (b := w.heap.size) (by simp))))
 have hh := bc6 hb1 (au6 (al6 (b := w.heap.size + 1) (by simp)))
 obtain ⟨c_s0, c_s1, c_s2, c_s3, c_s4, c_s5⟩ := hh
 have z_s := blt hb1 (auz (alz (b := w.heap.size + 1) (by simp)))
 have hh := bc6 hb1 (al6 (b := w.heap.size + 1 + 1) (by simp))
 obtain ⟨c_r0, c_r1, c_r2, c_r3, c_r4, c_r5⟩ := hh
 have hh := bf6 hb1 (alz (b := w.heap.size + 1 + 1) (by simp)) (alf6 (b := w.heap.size + 1 + 1) (by simp))
 obtain ⟨f_r0, f_r1, f_r2, f_r3, f_r4, f_r5⟩ := hh
 have z_r := blt hb1 (alz (b := w.heap.size + 1 + 1) (by simp))
 have hB1 : Below w.heap.size w w1 := xbel
 have HB1 := hid hB1
 clear hb1 hB1
 go_wp2
 refine bodyPost_ret (results_ct rfl rfl (run_loadVar_many _ Tryd.underlying29 rfl xk (six_set c_r0 c_r1 c_r2 c_r3 c_r4 c_r5))) rfl ⟨_, _, _, _, rfl, World.ownsRow_nil _ _ _ _, World.ownsRow_nil _ _ _ _, World.ownsRow_nil _ _ _ _, World.ownsRow_nil _ _ _ _, ?_⟩
 exact (((((HB1.out.setCell (by dsimp only; omega) _).setCell (by dsimp only; omega) _).setCell (by dsimp only; omega) _).setCell (by dsimp only; omega) _).setCell (by dsimp only; omega) _).setCell (by dsimp only; omega) _
theorem gapLoad_many (w : World) (c : Cfg) (seg : Int) (wa ka va ca : Option Addr) (wc kc vc cc lw n lv lc : Nat) (laid : Int) (m : Nat) (la : Option Addr) (pl : Nat) (hm : c.most < m)
    (CK : Hid (∀ W, Below w.heap.size w W → Calls Tryd.prog 18 #[.agg #[.int .u8 c.tag, .int .i64 c.most, .int .i64 c.seg, .int .i64 c.least, .int .i64 c.den, .int .i64 c.ll, .int .i64 c.rl, .int .i64 c.rh, .int .i64 c.lh], .agg #[.int .i64 seg, .slice wa lw wc, .slice ka n kc, .slice va lv vc, .slice ca lc cc, .int .u64 laid]] W (AnsB W (.int .i64 0)))) :
    Calls Tryd.prog 17 #[.agg #[.int .u8 c.tag, .int .i64 c.most, .int .i64 c.seg, .int .i64 c.least, .int .i64 c.den, .int .i64 c.ll, .int .i64 c.rl, .int .i64 c.rh, .int .i64 c.lh], .agg #[.int .i64 seg, .slice wa lw wc, .slice ka n kc, .slice va lv vc, .slice ca lc cc, .int .u64 laid], .slice la m pl] w (FreshSl2 w ⟨0, [], [], [], [], 0⟩ (.int .i64 9)) := by
 have ge : decide (c.most < (m : Int)) = true := by simpa using hm
 clear hm
 go_enter Tryd.func17, Tryd.ntmps17
 go_wp2_with fail
 refine (CK.out _ xbel).mono ?_
 rintro e w1 ⟨rfl, hb1⟩
 have hz_w1 := hb1.size
 try simp only [World.size_alloc, World.size_setCell] at hz_w1
 have hh := bc9 hb1 (au9 (au9 (al9 (b := w.heap.size) (by simp))))
 obtain ⟨c_t0, c_t1, c_t2, c_t3, c_t4, c_t5, c_t6, c_t7, c_t8⟩ := hh
 have z_t := blt hb1 (auz (auz (alz (b := w.heap.size) (by simp))))
 have hh := bc6 hb1 (au6 (al6 (b := w.heap.size + 1) (by simp)))
 obtain ⟨c_s0, c_s1, c_s2, c_s3, c_s4, c_s5⟩ := hh
 have z_s := blt hb1 (auz (alz (b := w.heap.size + 1) (by simp)))
 have hh := bc6 hb1 (al6 (b := w.heap.size + 1 + 1) (by simp))
 obtain ⟨c_r0, c_r1, c_r2, c_r3, c_r4, c_r5⟩ := hh
 have hh := bf6 hb1 (alz (b := w.heap.size + 1 + 1) (by simp)) (alf6 (b := w.heap.size + 1 + 1) (by simp))
 obtain ⟨f_r0, f_r1, f_r2, f_r3, f_r4, f_r5⟩ := hh
 have z_r := blt hb1 (alz (b := w.heap.size + 1 + 1) (by simp))
 have hB1 : Below w.heap.size w w1 := xbel
 have HB1 := hid hB1
 clear hb1 hB1
 go_wp2
 refine bodyPost_ret (results_ct rfl rfl (run_loadVar_many _ Tryd.underlying29 rfl xk (six_set c_r0 c_r1 c_r2 c_r3 c_r4 c_r5))) rfl ⟨_, _, _, _, rfl, World.ownsRow_nil _ _ _ _, World.ownsRow_nil _ _ _ _, World.ownsRow_nil _ _ _ _, World.ownsRow_nil _ _ _ _, ?_⟩
 exact (((((HB1.out.setCell (by dsimp only; omega) _).setCell (by dsimp only; omega) _).setCell (by dsimp only; omega) _).setCell (by dsimp only; omega) _).setCell (by dsimp only; omega) _).setCell (by dsimp only; omega) _
theorem gapLoad_in (w : World) (c : Cfg) (seg : Int) (wa ka va ca : Option Addr) (wc kc vc cc lw n lv lc : Nat) (laid : Int) (size m : Nat) (la : Option Addr) (pl : Nat) (d : SlC) (hm : (m : Int) ≤ c.most)
    (CK : Hid (∀ W, Below w.heap.size w W → Calls Tryd.prog 18 #[.agg #[.int .u8 c.tag, .int .i64 c.most, .int .i64 c.seg, .int .i64 c.least, .int .i64 c.den, .int .i64 c.ll, .int .i64 c.rl, .int .i64 c.rh, .int .i64 c.lh], .agg #[.int .i64 seg, .slice wa lw wc, .slice ka n kc, .slice va lv vc, .slice ca lc cc, .int .u64 laid]] W (AnsB W (.int .i64 0))))
    (CP : Hid (∀ W, Below w.heap.size w W → Calls Tryd.prog 28 #[.agg #[.int .u8 c.tag, .int .i64 c.most, .int .i64 c.seg, .int .i64 c.least, .int .i64 c.den, .int .i64 c.ll, .int .i64 c.rl, .int .i64 c.rh, .int .i64 c.lh], .int .i64 m] W (AnsB W (.tuple #[.int .i64 size, .int .i64 0]))))
    (IN : Hid (∀ W, Below w.heap.size w W → Calls Tryd.prog 29 #[.agg #[.int .i64 seg, .slice wa lw wc, .slice ka n kc, .slice va lv vc, .slice ca lc cc, .int .u64 laid], .int .i64 size, .slice la m pl] W (FreshSl2 W d (.int .i64 0)))) :
    Calls Tryd.prog 17 #[.agg #[.int .u8 c.tag, .int .i64 c.most, .int .i64 c.seg, .int .i64 c.least, .int .i64 c.den, .int .i64 c.ll, .int .i64 c.rl, .int .i64 c.rh, .int .i64 c.lh], .agg #[.int .i64 seg, .slice wa lw wc, .slice ka n kc, .slice va lv vc, .slice ca lc cc, .int .u64 laid], .slice la m pl] w (FreshSl2 w d (.int .i64 0)) := by
 have ge : decide (c.most < (m : Int)) = false := by simp; omega
 clear hm
 go_enter Tryd.func17, Tryd.ntmps17
 go_wp2_with fail
 refine (CK.out _ xbel).mono ?_
 rintro e w1 ⟨rfl, hb1⟩
 have hz_w1 := hb1.size
 try simp only [World.size_alloc, World.size_setCell] at hz_w1
 have hh := bc9 hb1 (au9 (au9 (al9 (b := w.heap.size) (by simp))))
 obtain ⟨c_t0, c_t1, c_t2, c_t3, c_t4, c_t5, c_t6, c_t7, c_t8⟩ := hh
 have z_t := blt hb1 (auz (auz (alz (b := w.heap.size) (by simp))))
 have hh := bc6 hb1 (au6 (al6 (b := w.heap.size + 1) (by simp)))
 obtain ⟨c_s0, c_s1, c_s2, c_s3, c_s4, c_s5⟩ := hh
 have z_s := blt hb1 (auz (alz (b := w.heap.size + 1) (by simp)))
 have hh := bc6 hb1 (al6 (b := w.heap.size + 1 + 1) (by simp))
 obtain ⟨c_r0, c_r1, c_r2, c_r3, c_r4, c_r5⟩ := hh
 have hh := bf6 hb1 (alz (b := w.heap.size + 1 + 1) (by simp)) (alf6 (b := w.heap.size + 1 + 1) (by simp))
 obtain ⟨f_r0, f_r1, f_r2, f_r3, f_r4, f_r5⟩ := hh
 have z_r := blt hb1 (alz (b := w.heap.size + 1 + 1) (by simp))
 have hB1 : Below w.heap.size w w1 := xbel
 have HB1 := hid hB1
 clear hb1 hB1
 go_wp2_with fail
 refine (CP.out _ HB1.out).mono ?_
 rintro e w2 ⟨rfl, hb2⟩
 have hz_w2 := hb2.size
 try simp only [World.size_alloc, World.size_setCell] at hz_w2
 have hh := bc9 hb2 ⟨c_t0, c_t1, c_t2, c_t3, c_t4, c_t5, c_t6, c_t7, c_t8⟩
 clear c_t0 c_t1 c_t2 c_t3 c_t4 c_t5 c_t6 c_t7 c_t8
 obtain ⟨c_t0, c_t1, c_t2, c_t3, c_t4, c_t5, c_t6, c_t7, c_t8⟩ := hh
 replace z_t := blt hb2 z_t
 have hh := bc6 hb2 ⟨c_s0, c_s1, c_s2, c_s3, c_s4, c_s5⟩
 clear c_s0 c_s1 c_s2 c_s3 c_s4 c_s5
 obtain ⟨c_s0, c_s1, c_s2, c_s3, c_s4, c_s5⟩ := hh
 replace z_s := blt hb2 z_s
 have hh := bc6 hb2 ⟨c_r0, c_r1, c_r2, c_r3, c_r4, c_r5⟩
 clear c_r0 c_r1 c_r2 c_r3 c_r4 c_r5
 obtain ⟨c_r0, c_r1, c_r2, c_r3, c_r4, c_r5⟩ := hh
 have hh := bf6 hb2 z_r ⟨f_r0, f_r1, f_r2, f_r3, f_r4, f_r5⟩
 clear f_r0 f_r1 f_r2 f_r3 f_r4 f_r5
 obtain ⟨f_r0, f_r1, f_r2, f_r3, f_r4, f_r5⟩ := hh
 replace z_r := blt hb2 z_r
 have HB2 := xv hb2 HB1
 have hz22 := z_r
 clear hb2
 go_wp2_with fail
 refine (IN.out _ HB2.out).mono ?_
 rintro e w3 ⟨v1, v2, v3, v4, rfl, p1, p2, p3, p4, hb3⟩
 have hz_w3 := hb3.size
 try simp only [World.size_alloc, World.size_setCell] at hz_w3
 have hh := bc9 hb3 ⟨c_t0, c_t1, c_t2, c_t3, c_t4, c_t5, c_t6, c_t7, c_t8⟩
 clear c_t0 c_t1 c_t2 c_t3 c_t4 c_t5 c_t6 c_t7 c_t8
 obtain ⟨c_t0, c_t1, c_t2, c_t3, c_t4, c_t5, c_t6, c_t7, c_t8⟩ := hh
 replace z_t := blt hb3 z_t
 have hh := bc6 hb3 ⟨c_s0, c_s1, c_s2, c_s3, c_s4, c_s5⟩
 clear c_s0 c_s1 c_s2 c_s3 c_s4 c_s5
 obtain ⟨c_s0, c_s1, c_s2, c_s3, c_s4, c_s5⟩ := hh
 replace z_s := blt hb3 z_s
 have hh := bc6 hb3 ⟨c_r0, c_r1, c_r2, c_r3, c_r4, c_r5⟩
 clear c_r0 c_r1 c_r2 c_r3 c_r4 c_r5
 obtain ⟨c_r0, c_r1, c_r2, c_r3, c_r4, c_r5⟩ := hh
 have hh := bf6 hb3 z_r ⟨f_r0, f_r1, f_r2, f_r3, f_r4, f_r5⟩
 clear f_r0 f_r1 f_r2 f_r3 f_r4 f_r5
 obtain ⟨f_r0, f_r1, f_r2, f_r3, f_r4, f_r5⟩ := hh
 replace z_r := blt hb3 z_r
 have HB3 := xv hb3 HB2
 obtain ⟨a1, k1, rfl, -⟩ := owns_news p1
 obtain ⟨a2, k2, rfl, -⟩ := owns_news p2
 obtain ⟨a3, k3, rfl, -⟩ := owns_news p3
 obtain ⟨a4, k4, rfl, -⟩ := owns_news p4
 have HP1 := hid p1
 have HP2 := hid p2
 have HP3 := hid p3
 have HP4 := hid p4
 clear p1 p2 p3 p4
 clear hb3
 go_wp2
 have HQ : Hid (∀ q, q ≠ w.heap.size + 1 + 1 → ((((((w3.setCell ⟨w.heap.size + 1 + 1, 0, none⟩ (.int .i64 d.seg)).setCell ⟨w.heap.size + 1 + 1, 1, none⟩ (.slice a1 d.ws.length k1)).setCell ⟨w.heap.size + 1 + 1, 2, none⟩ (.slice a2 d.ks.length k2)).setCell ⟨w.heap.size + 1 + 1, 3, none⟩ (.slice a3 d.vs.length k3)).setCell ⟨w.heap.size + 1 + 1, 4, none⟩ (.slice a4 d.cs.length k4)).setCell ⟨w.heap.size + 1 + 1, 5, none⟩ (.int .u64 d.laid)).heap[q]? = w3.heap[q]?) := hid fun q hq => by
  rw [heap_setCell_ne _ _ _ hq, heap_setCell_ne _ _ _ hq, heap_setCell_ne _ _ _ hq, heap_setCell_ne _ _ _ hq, heap_setCell_ne _ _ _ hq, heap_setCell_ne _ _ _ hq]
 refine bodyPost_ret (results_ct rfl rfl (run_loadVar_many _ Tryd.underlying29 rfl xk (six_set c_r0 c_r1 c_r2 c_r3 c_r4 c_r5))) rfl ⟨_, _, _, _, rfl, ?_, ?_, ?_, ?_, ?_⟩
 · exact owns_base (owns_heap HP1.out fun j hj => HQ.out _ (by have := (HP1.out.lt j hj).1; omega)) xo
 · exact owns_base (owns_heap HP2.out fun j hj => HQ.out _ (by have := (HP2.out.lt j hj).1; omega)) xo
 · exact owns_base (owns_heap HP3.out fun j hj => HQ.out _ (by have := (HP3.out.lt j hj).1; omega)) xo
 · exact owns_base (owns_heap HP4.out fun j hj => HQ.out _ (by have := (HP4.out.lt j hj).1; omega)) xo
 · exact (((((HB3.out.setCell (by dsimp only; omega) _).setCell (by dsimp only; omega) _).setCell (by dsimp only; omega) _).setCell (by dsimp only; omega) _).setCell (by dsimp only; omega) _).setCell (by dsimp only; omega) _
end
section
open Go.RowKit Go.Shelf Go.Sort
end
section
open Go.RowKit Go.Shelf Go.Sort
end
section
open Go.RowKit
theorem GapN.nums {c : Cfg} {s : SlC} {a H : Nat} (k : GapN c s a H) : 4 ≤ 2 ^ a ∧ 2 ^ a ≤ 64 ∧ 1 ≤ s.cs.length ∧ s.cs.length ≤ 65536 ∧ s.ks.length ≤ 65536 := by
 have ha4 : 2 ^ 2 ≤ 2 ^ a := Nat.pow_le_pow_right xo k.cap.a2
 have ha6 : 2 ^ a ≤ 2 ^ 6 := Nat.pow_le_pow_right xo k.cap.a6
 have hH0 := Nat.two_pow_pos H
 have hnc := k.nc
 have := k.cap.big
 have h9 : 1 * 2 ^ H ≤ 2 ^ a * 2 ^ H := Nat.mul_le_mul_right _ xo
 have := k.nk
 omega
end
section
open Go.RowKit
theorem cap_nat {c : Cfg} (hd : cfHead c = true) {a : Nat} (hs : c.seg = ((2 ^ a : Nat) : Int)) {n : Int} (h0 : 0 ≤ n) (h1 : n ≤ 16384) : ∃ H : Nat, taks c n = ((2 ^ a * 2 ^ H : Nat) : Int) ∧ 2 ^ a * 2 ^ H ≤ 65536 ∧ n ≤ taks c n := by
 have f := cfHead_facts hd
 obtain ⟨d0, d1, d2, d3, d4, d5, d6, d7, d8, d9, d10, d11, d12, d13, d14, d15, d16, d17⟩ := cfHead_num hd
 have tb := taks_bd hd h0 h1
 obtain ⟨l1, l2, b, eb⟩ := powB_nat f.2.2.2.2.2.1
 have hab : a ≤ b := (Nat.pow_le_pow_iff_right (a := 2) xo).1 xo
 obtain ⟨j, -, ej⟩ := takF_pow c n 20 c.least
 have e : taks c n = ((2 ^ a * 2 ^ (b - a + j) : Nat) : Int) := by
  rw [taks, ej, eb, ← Nat.pow_add, show a + (b - a + j) = b + j by omega, Nat.pow_add]
  push_cast
  rfl
 refine ⟨b - a + j, e, by omega, ?_⟩
 have ht := takF_takes (c := c) (n := n) xo 20 c.least xo (tak_start h0 h1 xo d8 d9).1
 have m1 : c.rh * taks c n ≤ c.den * taks c n := Int.mul_le_mul_of_nonneg_right xo xo
 have m2 : c.den * n ≤ c.den * taks c n := by
  rw [Int.mul_comm c.den n]
  exact Int.le_trans ht m1
 exact Int.le_of_mul_le_mul_left m2 xo
theorem gap_zero {c : Cfg} {s : SlC} (h : gapE c s = 0) : cfMay c = true ∧ ∃ a H, GapN c s a H ∧ s.seg = c.seg ∧ sumC s.cs 0 s.cs.length ≤ c.most ∧ denB c s H = true := by
 unfold gapE at h
 split at h
 · rename_i hc
   split at h
   · rename_i hg
     have hg' := hg
     simp only [gapMay, gapHead, Bool.and_eq_true, decide_eq_true_eq] at hg
     obtain ⟨⟨⟨⟨h1, h2⟩, h3⟩, h4⟩, h5⟩ := hg
     obtain ⟨a, H, k⟩ := gapN_of hc h3 h1 h2
     exact ⟨hc, a, H, k, h2, h4, by rw [← k.cap.hgt]; exact h5⟩
   · cases h
 · cases h
def nilC : SlC := ⟨0, [], [], [], [], 0⟩
def capM (c : Cfg) (n : Nat) : Nat := (taks c n).toNat / c.seg.toNat
def loadC (c : Cfg) (s : SlC) (L : List (Int × Int)) : SlC := if gapE c s = 0 ∧ (L.length : Int) ≤ c.most then wideC c.seg.toNat (capM c L.length) s.laid L else nilC
def loadE (c : Cfg) (s : SlC) (L : List (Int × Int)) : Int := if gapE c s = 0 then (if (L.length : Int) ≤ c.most then 0 else 9) else gapE c s
theorem cap_facts {c : Cfg} {s : SlC} {a H : Nat} (k : GapN c s a H) {n : Nat} (hn : (n : Int) ≤ c.most) : c.seg.toNat = 2 ^ a ∧ taks c n = ((2 ^ a * capM c n : Nat) : Int) ∧ 1 ≤ capM c n ∧ 2 ^ a * capM c n ≤ 65536 ∧ n ≤ 2 ^ a * capM c n ∧ pwB (capM c n : Int) = true := by
 have hd := cfMay_head k.cap.may
 have d := cfHead_num hd
 obtain ⟨H', e, hb, hle⟩ := cap_nat hd k.cap.seg (n := (n : Int)) xo xo
 have hs : c.seg.toNat = 2 ^ a := by rw [k.cap.seg]; rfl
 have hm : capM c n = 2 ^ H' := by
  rw [capM, e, hs, Int.toNat_natCast, Nat.mul_div_cancel_left _ (Nat.two_pow_pos a)]
 rw [hm]
 exact ⟨hs, e, Nat.two_pow_pos H', hb, by omega, pwB_two H'⟩
theorem gapN_gd {c : Cfg} {s : SlC} {a H : Nat} (k : GapN c s a H) (hu : U64s s.ws) : SlGd s (2 ^ a) ((s.ks.length + 63) / 64) s.ks.length (2 ^ H) ∧ (s.ks.length + 63) / 64 ≤ 2000 := by
 obtain ⟨S, M, g, -, -, -⟩ := slMay_gd hu k.may
 have e1 : S = 2 ^ a := by have := g.seg; have := k.seg; omega
 have e2 : M = 2 ^ H := by have := g.elc; have := k.nc; omega
 have e3 := g.elk
 subst e1 e2
 have hb := k.cap.big
 rw [← e3] at g
 have := k.nk
 exact ⟨g, by omega⟩
theorem gapLoad_ok (c : Cfg) (s : SlC) (sa : SlA) (hl : s.ws.length ≤ 1000000000000) (hl2 : s.ks.length ≤ 1000000000000) (hcc : s.cs.length ≤ sa.cc) (L : List (Int × Int)) (la : Option Addr) (pl : Nat) (w : World) (hin : SlIn w s sa) (hla : IsRow .i64 w la (prI L)) :
    Calls Tryd.prog 17 #[.agg #[.int .u8 c.tag, .int .i64 c.most, .int .i64 c.seg, .int .i64 c.least, .int .i64 c.den, .int .i64 c.ll, .int .i64 c.rl, .int .i64 c.rh, .int .i64 c.lh], slV s sa, .slice la L.length pl] w (FreshSl2 w (loadC c s L) (.int .i64 (loadE c s L))) := by
 have CK : Hid (∀ W, Below w.heap.size w W → Calls Tryd.prog 18 #[.agg #[.int .u8 c.tag, .int .i64 c.most, .int .i64 c.seg, .int .i64 c.least, .int .i64 c.den, .int .i64 c.ll, .int .i64 c.rl, .int .i64 c.rh, .int .i64 c.lh], slV s sa] W (AnsB W (.int .i64 (gapE c s)))) := hid fun W hb => gapCheck_ok c s sa hl hl2 hcc W (hin.below hb)
 unfold loadC loadE
 by_cases h0 : gapE c s = 0
 · rw [h0] at CK
   by_cases hm : (L.length : Int) ≤ c.most
   · rw [if_pos ⟨h0, hm⟩, if_pos h0, if_pos hm]
     obtain ⟨hc, a, H, k, hs, -, -⟩ := gap_zero h0
     obtain ⟨e1, e2, e3, e4, e5, e6⟩ := cap_facts k hm
     rw [e1]
     obtain ⟨g, -⟩ := gapN_gd k hin.u
     refine gapLoad_in w c s.seg _ _ _ _ _ _ _ _ _ _ _ _ _ (2 ^ a * capM c L.length) L.length la pl _ hm CK (hid fun W hb => ?_) (hid fun W hb => ?_)
     · have := Cap_in c hc (L.length : Int) xo hm W
       rwa [e2] at this
     · exact Into_ok g k.may sa (capM c L.length) e3 (pwB_two a) e6 e4 L e5 la pl W (hin.below hb) (hla.below hb)
   · rw [if_neg (fun q => hm q.2), if_pos h0, if_neg hm]
     exact gapLoad_many w c s.seg _ _ _ _ _ _ _ _ _ _ _ _ _ L.length la pl xo CK
 · rw [if_neg (fun q => h0 q.1), if_neg h0]
   exact gapLoad_err w c s.seg _ _ _ _ _ _ _ _ _ _ _ _ _ L.length la pl _ h0 CK
end
section
open Go.RowKit
def inH (s : SlC) (a h at_ : Nat) : Int := sumC s.cs (wnd a h at_ * 2 ^ h) ((wnd a h at_ + 1) * 2 ^ h)
def ovB (c : Cfg) (s : SlC) (a H at_ h : Nat) : Bool := !fulB c H h (inH s a h at_ + 1)
def unfB (c : Cfg) (s : SlC) (a H at_ h : Nat) : Bool := !sprB c s.ks.length H h (inH s a h at_)
theorem ful_room {c : Cfg} {size : Int} {a H h : Nat} (k : CapC c size a H) (hh : h ≤ H) {n : Int} (hf : fulB c H h n = true) : n ≤ ((2 ^ (a + h) : Nat) : Int) := by
 obtain ⟨d0, d1, d2, d3, d4, d5, d6, d7, d8, d9, d10, d11, d12, d13, d14, d15, d16, d17⟩ := cfHead_num (cfMay_head k.may)
 have hw : wdC c h = ((2 ^ (a + h) : Nat) : Int) := by rw [wdC, k.seg, Nat.pow_add]; push_cast; rfl
 have hw0 := Nat.two_pow_pos (a + h)
 unfold fulB at hf
 split at hf
 · rw [decide_eq_true_eq, hw] at hf
   have := Int.mul_le_mul_of_nonneg_left (show c.rh ≤ c.den by omega) (show (0 : Int) ≤ ((2 ^ (a + h) : Nat) : Int) by omega)
   exact Int.le_of_mul_le_mul_right (Int.le_trans hf this) xo
 · rename_i hH
   rw [decide_eq_true_eq, hw] at hf
   have h1 : c.lh * ((H : Int) - h) ≤ c.den * ((H : Int) - h) := Int.mul_le_mul_of_nonneg_right xo xo
   have h2 : c.rh * (h : Int) ≤ c.den * (h : Int) := Int.mul_le_mul_of_nonneg_right xo xo
   have h3 : c.den * ((H : Int) - h) + c.den * (h : Int) = H * c.den := by rw [← Int.mul_add, Int.mul_comm]; congr 1; omega
   have h4 := Int.mul_le_mul_of_nonneg_left (show c.lh * ((H : Int) - h) + c.rh * h ≤ H * c.den by omega) (show (0 : Int) ≤ ((2 ^ (a + h) : Nat) : Int) by omega)
   rw [Int.mul_assoc] at hf
   have h5 : (0 : Int) < (H : Int) * c.den := Int.mul_pos xo xo
   exact Int.le_of_mul_le_mul_right (Int.le_trans hf h4) h5
def manyC (s : SlC) : Nat := cntW s.ws 0 s.ks.length
def homeC (s : SlC) (k : Nat) : Nat := (plsW s.ws 0 s.ks.length).getD (k - 1) 0
theorem homeC_lt {s : SlC} (h : 1 ≤ s.ks.length) (k : Nat) : homeC s k < s.ks.length := by
 unfold homeC
 rcases Nat.lt_or_ge (k - 1) (plsW s.ws 0 s.ks.length).length with q | q
 · exact (plsW_getD q).2
 · rw [List.getD_eq_getElem?_getD, List.getElem?_eq_none q]; simpa using Nat.lt_of_lt_of_le Nat.zero_lt_one h
def insL (l : List (Int × Int)) (k : Nat) (p : Int × Int) : List (Int × Int) := l.take k ++ p :: l.drop k
theorem insL_length {l : List (Int × Int)} {k : Nat} (h : k ≤ l.length) (p : Int × Int) : (insL l k p).length = l.length + 1 := by
 simp [insL]; omega
def putN (c : Cfg) (s : SlC) (a H : Nat) (k : Nat) (p : Int × Int) : SlC :=
  if topI (ovB c s a H (homeC s k)) (H + 1) = H then wideC (2 ^ a) (capM c (manyC s + 1)) s.laid (insL (prs s 0 s.ks.length) k p)
  else
   let h := (topI (ovB c s a H (homeC s k)) (H + 1) + 1).toNat
   let lo := wnd a h (homeC s k) * 2 ^ (a + h)
   let hi := (wnd a h (homeC s k) + 1) * 2 ^ (a + h)
   spC s lo hi (insL (prs s lo hi) (k - cntW s.ws 0 lo) p)
def sgL (c : Cfg) : Nat := c.seg.toNat.log2
def putE (c : Cfg) (s : SlC) (k : Int) : Int := if gapE c s = 0 then (if k < 0 ∨ (manyC s : Int) < k then 2 else if (manyC s : Int) = c.most then 9 else 0) else gapE c s
def putC (c : Cfg) (s : SlC) (k : Int) (p : Int × Int) : SlC := if putE c s k = 0 then putN c s (sgL c) (htC c s.ks.length) k.toNat p else nilC
theorem sum_many {c : Cfg} {s : SlC} {a H : Nat} (k : GapN c s a H) (hu : U64s s.ws) : sumC s.cs 0 s.cs.length = manyC s := by
 obtain ⟨g, -⟩ := gapN_gd k hu
 rw [sumC_cnt2 g (Nat.zero_le _) (by rw [k.nc]; exact Nat.le_refl _), manyC, Nat.zero_mul, k.nc, k.nk, Nat.mul_comm (2 ^ H)]
theorem in_cnt {c : Cfg} {s : SlC} {a H h at_ : Nat} (k : GapN c s a H) (hu : U64s s.ws) (hh : h ≤ H) (hat : at_ < s.ks.length) : inH s a h at_ = (cntW s.ws (wnd a h at_ * 2 ^ (a + h)) ((wnd a h at_ + 1) * 2 ^ (a + h)) : Nat) := by
 obtain ⟨g, -⟩ := gapN_gd k hu
 rw [k.nk] at hat
 have b := wnd_bd hh hat
 have e := wnd_seg a h at_
 rw [inH, sumC_cnt2 g (Nat.mul_le_mul_right _ xo) b.1, e.1, e.2.1]
theorem pls_rank {ws : List Int} {n i : Nat} (h : i < (plsW ws 0 n).length) : cntW ws 0 ((plsW ws 0 n).getD i 0) = i ∧ bitW ws ((plsW ws 0 n).getD i 0) = true ∧ (plsW ws 0 n).getD i 0 < n := by
 induction n with
 | zero => simp [plsW_nil] at h
 | succ n ih =>
  rw [plsW_succ (Nat.zero_le _)] at h ⊢
  rcases Nat.lt_or_ge i (plsW ws 0 n).length with q | q
  · have e : (plsW ws 0 n ++ if bitW ws n = true then [n] else []).getD i 0 = (plsW ws 0 n).getD i 0 := by
      rw [List.getD_eq_getElem?_getD, List.getElem?_append_left q, ← List.getD_eq_getElem?_getD]
    rw [e]
    obtain ⟨h1, h2, h3⟩ := ih q
    exact ⟨h1, h2, by omega⟩
  · by_cases hb : bitW ws n = true
    · rw [if_pos hb, List.length_append, List.length_singleton] at h
      have hi : i = (plsW ws 0 n).length := xo
      rw [if_pos hb]
      have e : (plsW ws 0 n ++ [n]).getD i 0 = n := by
       rw [List.getD_eq_getElem?_getD, hi, List.getElem?_append_right (Nat.le_refl _), Nat.sub_self]; rfl
      rw [e]
      exact ⟨by rw [hi, plsW_length], hb, by omega⟩
    · rw [if_neg hb, List.append_nil] at h; omega
theorem home_in {s : SlC} {k lo hi : Nat} (hn : 1 ≤ s.ks.length) (hk : k ≤ manyC s) (hlo : lo ≤ homeC s k) (hhi : homeC s k < hi) (hh : hi ≤ s.ks.length) : cntW s.ws 0 lo ≤ k ∧ k - cntW s.ws 0 lo ≤ (prs s lo hi).length := by
 rw [prs_length]
 have hadd := cntW_add s.ws (a := 0) (b := lo) (d := hi) xo xo
 have hadd2 := cntW_add s.ws (a := 0) (b := hi) (d := s.ks.length) xo hh
 have hm : manyC s = cntW s.ws 0 s.ks.length := rfl
 rcases Nat.eq_zero_or_pos k with rfl | hk0
 · -- ahead of all: there is nothing ahead of the first one
   have hz : cntW s.ws 0 lo = 0 := by
    rcases Nat.eq_zero_or_pos (manyC s) with q | q
    · omega
    · have hr := pls_rank (ws := s.ws) (n := s.ks.length) (i := 0) (by rw [plsW_length]; omega)
      have e : homeC s 0 = (plsW s.ws 0 s.ks.length).getD 0 0 := rfl
      rw [← e] at hr
      have := cntW_mono (ws := s.ws) (a := 0) hlo
      omega
   omega
 · have hr := pls_rank (ws := s.ws) (n := s.ks.length) (i := k - 1) (by rw [plsW_length]; omega)
   have e : homeC s k = (plsW s.ws 0 s.ks.length).getD (k - 1) 0 := rfl
   rw [← e] at hr
   have h1 := cntW_mono (ws := s.ws) (a := 0) hlo
   have h2 : cntW s.ws 0 (homeC s k + 1) = k := by
    rw [cntW_succ (Nat.zero_le _), if_pos hr.2.1]; omega
   have h3 := cntW_mono (ws := s.ws) (a := 0) (show homeC s k + 1 ≤ hi by omega)
   omega
theorem put_room {c : Cfg} {s : SlC} {a H : Nat} (k : GapN c s a H) (hu : U64s s.ws) {at_ : Nat} (hat : at_ < s.ks.length) (hne : topI (ovB c s a H at_) (H + 1) ≠ H) :
    ∃ h : Nat, topI (ovB c s a H at_) (H + 1) + 1 = h ∧ h ≤ H ∧ (cntW s.ws (wnd a h at_ * 2 ^ (a + h)) ((wnd a h at_ + 1) * 2 ^ (a + h)) : Nat) + 1 ≤ 2 ^ (a + h) := by
 have hmain : ∀ h : Nat, h ≤ H → ovB c s a H at_ h = false → (cntW s.ws (wnd a h at_ * 2 ^ (a + h)) ((wnd a h at_ + 1) * 2 ^ (a + h)) : Nat) + 1 ≤ 2 ^ (a + h) := by
  intro h hh ho
  unfold ovB at ho
  rw [Bool.not_eq_false'] at ho
  rw [in_cnt k hu hh hat] at ho
  have := ful_room k.cap hh ho
  omega
 rcases topI_cases (ovB c s a H at_) (H + 1) with ⟨e, hn⟩ | ⟨q, hq, e, hp, hn⟩
 · exact ⟨0, by omega, by omega, hmain 0 xo (hn 0 xo)⟩
 · have hqH : q ≠ H := fun h => hne (by rw [e, h])
   exact ⟨q + 1, by omega, by omega, hmain (q + 1) xo (hn (q + 1) xo xo)⟩
end
section
open Go.RowKit
theorem nar_step {c : Cfg} {size : Int} {a H : Nat} (k : CapC c size a H) {m : Nat} (hf : sprB c size H H m = false) : ∃ H', H = H' + 1 ∧ CapC c (size / 2) a H' ∧ 8 * ((m : Int) + 1) < size := by
 have hd := cfMay_head k.may
 obtain ⟨d0, d1, d2, d3, d4, d5, d6, d7, d8, d9, d10, d11, d12, d13, d14, d15, d16, d17⟩ := cfHead_num hd
 obtain ⟨l1, l2, b, eb⟩ := powB_nat (cfHead_facts hd).2.2.2.2.2.1
 obtain ⟨s1, s2, s3⟩ := powB_iff.1 k.cap
 unfold sprB at hf
 rw [Bool.or_eq_false_iff, decide_eq_false_iff_not, decide_eq_false_iff_not] at hf
 obtain ⟨hne, hlt⟩ := hf
 have hall := k.all
 have hseg := k.seg
 have e : 2 ^ a * 2 ^ H = 2 ^ (a + H) := (Nat.pow_add ..).symm
 have hb1 : 2 ^ b < 2 ^ (a + H) := by rw [← e]; omega
 have hbH : b < a + H := (Nat.pow_lt_pow_iff_right (a := 2) xo).1 hb1
 have hab : a ≤ b := (Nat.pow_le_pow_iff_right (a := 2) xo).1 xo
 obtain ⟨H', rfl⟩ : ∃ H', H = H' + 1 := ⟨H - 1, by omega⟩
 have e2 : 2 ^ a * 2 ^ (H' + 1) = 2 * (2 ^ a * 2 ^ H') := by rw [Nat.pow_succ]; simp only [Nat.mul_comm, Nat.mul_left_comm]
 have hhalf : size / 2 = ((2 ^ a * 2 ^ H' : Nat) : Int) := by rw [hall, e2]; omega
 have hbig := k.big
 have h14 := k.h14
 have hlb : 2 ^ b ≤ 2 ^ a * 2 ^ H' := by rw [← Nat.pow_add]; exact Nat.pow_le_pow_right xo xo
 refine ⟨H', rfl, ⟨k.may, powB_iff.2 ⟨by omega, by omega, ?_⟩, k.seg, k.a2, k.a6, hhalf, by omega, ?_, by omega⟩, ?_⟩
 · rw [hhalf, ← Nat.pow_add]; exact pwB_two _
 · rw [htC, hseg, hhalf, Int.natCast_mul, Int.mul_ediv_cancel_left _ (by have := Nat.two_pow_pos a; omega), Int.toNat_natCast, Nat.log2_two_pow]
 · have hw : wdC c (H' + 1) = size := by rw [wdC, hseg, hall]; push_cast; rfl
   rw [hw] at hlt
   have e3 : c.ll * (((H' + 1 : Nat) : Int) - ((H' + 1 : Nat) : Int)) + c.rl * ((H' + 1 : Nat) : Int) = c.rl * ((H' + 1 : Nat) : Int) := by rw [Int.sub_self, Int.mul_zero, Int.zero_add]
   rw [e3] at hlt
   have h1 : ((m : Int) + 1) * ((H' + 1 : Nat) : Int) * c.den < size * (c.rl * ((H' + 1 : Nat) : Int)) := xo
   have h2 : ((m : Int) + 1) * ((H' + 1 : Nat) : Int) * c.den = (((m : Int) + 1) * c.den) * ((H' + 1 : Nat) : Int) := by rw [Int.mul_assoc, Int.mul_comm _ c.den, ← Int.mul_assoc]
   have h3 : size * (c.rl * ((H' + 1 : Nat) : Int)) = (size * c.rl) * ((H' + 1 : Nat) : Int) := by rw [Int.mul_assoc]
   rw [h2, h3] at h1
   have h4 : ((m : Int) + 1) * c.den < size * c.rl := Int.lt_of_mul_lt_mul_right h1 xo
   have h5 := Int.mul_le_mul_of_nonneg_left (show 8 * c.rl ≤ c.den by omega) (show (0 : Int) ≤ (m : Int) + 1 by omega)
   have h6 : ((m : Int) + 1) * (8 * c.rl) = (8 * ((m : Int) + 1)) * c.rl := by rw [← Int.mul_assoc, Int.mul_comm _ 8]
   rw [h6] at h5
   exact Int.lt_of_mul_lt_mul_right (Int.lt_of_le_of_lt h5 h4) xo
def narF (c : Cfg) (m : Int) : Nat → Int → Int
  | 0, size => size
  | f + 1, size => if sprB c size (htC c size) (htC c size) m = true then size else narF c m f (size / 2)
theorem nar_ok {c : Cfg} {m : Nat} : ∀ (f : Nat) (size : Int) (a H : Nat), CapC c size a H → H < f → (m : Int) ≤ size → ∃ H', H' ≤ H ∧ CapC c (narF c m f size) a H' ∧ (m : Int) ≤ narF c m f size ∧ sprB c (narF c m f size) H' H' m = true
  | 0, _, _, _, _, h, _ => by omega
  | f + 1, size, a, H, k, h, hm => by
   rw [narF, k.hgt]
   cases hs : sprB c size H H m with
   | true => rw [if_pos rfl]; exact ⟨H, Nat.le_refl _, k, hm, hs⟩
   | false =>
    rw [if_neg (by decide)]
    obtain ⟨H', rfl, k', h8⟩ := nar_step k hs
    obtain ⟨H2, q1, q2, q3, q4⟩ := nar_ok (m := m) f (size / 2) a H' k' xo xo
    exact ⟨H2, by omega, q2, q3, q4⟩
def takN (c : Cfg) (s : SlC) (a H : Nat) (k : Nat) : SlC :=
  let at_ := (plsW s.ws 0 s.ks.length).getD k 0
  let z := tkC s at_
  let t := topI (unfB c z a H at_) (H + 1)
  if t = -1 then z
  else if t = H then wideC (2 ^ a) ((narF c (manyC z) 20 z.ks.length).toNat / 2 ^ a) z.laid (prs z 0 z.ks.length)
  else spC z (wnd a (t + 1).toNat at_ * 2 ^ (a + (t + 1).toNat)) ((wnd a (t + 1).toNat at_ + 1) * 2 ^ (a + (t + 1).toNat)) (prs z (wnd a (t + 1).toNat at_ * 2 ^ (a + (t + 1).toNat)) ((wnd a (t + 1).toNat at_ + 1) * 2 ^ (a + (t + 1).toNat)))
def takE (c : Cfg) (s : SlC) (k : Int) : Int := if gapE c s = 0 then (if k < 0 ∨ (manyC s : Int) ≤ k then 2 else 0) else gapE c s
def takC (c : Cfg) (s : SlC) (k : Int) : SlC := if takE c s k = 0 then takN c s (sgL c) (htC c s.ks.length) k.toNat else nilC
end
section
open Go.RowKit
theorem rise_eq : ∀ {l m : List Nat}, l.Pairwise (· < ·) → m.Pairwise (· < ·) → (∀ x, x ∈ l ↔ x ∈ m) → l = m
  | [], [], _, _, _ => rfl
  | [], y :: m, _, _, h => by have := (h y).2 (List.mem_cons_self ..); cases this
  | x :: l, [], _, _, h => by have := (h x).1 (List.mem_cons_self ..); cases this
  | x :: l, y :: m, hl, hm, h => by
   rw [List.pairwise_cons] at hl hm
   have hxy : x = y := by
    have h1 := (h x).1 (List.mem_cons_self ..)
    have h2 := (h y).2 (List.mem_cons_self ..)
    rw [List.mem_cons] at h1 h2
    rcases h1 with h1 | h1
    · exact h1
    · rcases h2 with h2 | h2
      · exact h2.symm
      · have a1 := hm.1 x h1
        have a2 := hl.1 y h2
        omega
   subst hxy
   congr 1
   refine rise_eq hl.2 hm.2 fun z => ?_
   have := h z
   rw [List.mem_cons, List.mem_cons] at this
   constructor
   · intro hz
     have a1 := hl.1 z hz
     rcases this.1 (.inr hz) with q | q
     · omega
     · exact q
   · intro hz
     have a1 := hm.1 z hz
     rcases this.2 (.inr hz) with q | q
     · omega
     · exact q
theorem prs_app (c : SlC) {a b d : Nat} (h1 : a ≤ b) (h2 : b ≤ d) : prs c a d = prs c a b ++ prs c b d := by
 unfold prs
 rw [plsW_app c.ws h1 h2, List.map_append]
theorem prs_same {c d : SlC} {a b : Nat} (h : ∀ i, a ≤ i → i < b → bitW c.ws i = bitW d.ws i ∧ c.ks.getD i 0 = d.ks.getD i 0 ∧ c.vs.getD i 0 = d.vs.getD i 0) : prs c a b = prs d a b := by
 have e : plsW c.ws a b = plsW d.ws a b := by
  unfold plsW
  apply List.filter_congr
  intro i hi
  have := List.mem_range'_1.1 hi
  exact (h i this.1 xo).1
 unfold prs
 rw [e]
 apply List.map_congr_left
 intro i hi
 have := List.mem_range'_1.1 (List.mem_filter.1 hi).1
 have q := h i this.1 xo
 rw [q.2.1, q.2.2]
theorem tks_out {c : SlC} {lo i : Nat} : ∀ j, (i < lo ∨ lo + j ≤ i) → (tks c lo j).ks.getD i 0 = c.ks.getD i 0 ∧ (tks c lo j).vs.getD i 0 = c.vs.getD i 0
  | 0, _ => ⟨rfl, rfl⟩
  | j + 1, h => by
   obtain ⟨h1, h2⟩ := tks_out (c := c) (lo := lo) (i := i) j xo
   rw [tks]
   simp only [tkC]
   rw [getD_set_at, if_neg xo, getD_set_at, if_neg xo]
   exact ⟨h1, h2⟩
theorem ly_at {c : SlC} {i : Nat} (hk : i < c.ks.length) (hv : i < c.vs.length) (x y : Int) : (lyC c i x y).ks.getD i 0 = x ∧ (lyC c i x y).vs.getD i 0 = y := by
 simp only [lyC, tkC]
 rw [getD_set_at, if_pos ⟨rfl, by simpa using hk⟩, getD_set_at, if_pos ⟨rfl, by simpa using hv⟩]
 exact ⟨rfl, rfl⟩
theorem ly_out {c : SlC} {i j : Nat} (h : i ≠ j) (x y : Int) : (lyC c i x y).ks.getD j 0 = c.ks.getD j 0 ∧ (lyC c i x y).vs.getD j 0 = c.vs.getD j 0 := by
 simp only [lyC, tkC]
 rw [getD_set_at, if_neg (fun q => h q.1), getD_set_at, if_neg (fun q => h q.1), getD_set_at, if_neg (fun q => h q.1), getD_set_at, if_neg (fun q => h q.1)]
 exact ⟨rfl, rfl⟩
theorem lys_out {c : SlC} {ps : List Nat} {L : List (Int × Int)} {i : Nat} : ∀ k, (∀ j, j < k → ps.getD j 0 ≠ i) → (lys c ps L k).ks.getD i 0 = c.ks.getD i 0 ∧ (lys c ps L k).vs.getD i 0 = c.vs.getD i 0
  | 0, _ => ⟨rfl, rfl⟩
  | k + 1, h => by
   obtain ⟨h1, h2⟩ := lys_out (c := c) (ps := ps) (L := L) (i := i) k (fun j hj => h j xo)
   obtain ⟨h3, h4⟩ := ly_out (c := lys c ps L k) (h k xo) (L.getD k (0, 0)).1 (L.getD k (0, 0)).2
   rw [lys]
   exact ⟨h3.trans h1, h4.trans h2⟩
theorem lys_at {c : SlC} {S lw n lc : Nat} (h : SlGd c S lw n lc) {ps : List Nat} (hp : ∀ k, ps.getD k 0 < n) (L : List (Int × Int)) {i : Nat} : ∀ k, i < k → (∀ j, i < j → j < k → ps.getD j 0 ≠ ps.getD i 0) → (lys c ps L k).ks.getD (ps.getD i 0) 0 = (L.getD i (0, 0)).1 ∧ (lys c ps L k).vs.getD (ps.getD i 0) 0 = (L.getD i (0, 0)).2
  | 0, hi, _ => by omega
  | k + 1, hi, hd => by
   have g := SlGd.lys h hp L k
   rw [lys]
   rcases Nat.lt_or_ge i k with q | q
   · obtain ⟨h1, h2⟩ := lys_at h hp L k q (fun j h1 h2 => hd j h1 xo)
     obtain ⟨h3, h4⟩ := ly_out (c := lys c ps L k) (hd k q xo) (L.getD k (0, 0)).1 (L.getD k (0, 0)).2
     exact ⟨h3.trans h1, h4.trans h2⟩
   · obtain rfl : i = k := xo
     exact ly_at (by rw [g.elk]; exact hp i) (by rw [g.elv]; exact hp i) _ _
theorem sp_pls {c : SlC} {S lw n lc lo hi : Nat} (h : SlGd c S lw n lc) (hlo : lo ≤ hi) (hh : hi ≤ n) {L : List (Int × Int)} (hL : L.length ≤ hi - lo) : plsW (spC c lo hi L).ws lo hi = plR L.length lo hi := by
 have hn := h.n1
 apply rise_eq
 · unfold plsW
   exact List.Pairwise.filter _ List.pairwise_lt_range'
 · unfold plR
   rw [List.pairwise_map]
   refine List.Pairwise.imp_of_mem ?_ List.pairwise_lt_range
   intro x y hx hy hxy
   have := List.mem_range.1 hy
   have := plF_mono (lo := lo) xo hL x (y - x - 1)
   rwa [show x + (y - x - 1 + 1) = y by omega] at this
 · intro x
   unfold plsW
   rw [List.mem_filter, List.mem_range'_1, spC, lys_bit (h.tks (hi - lo) xo) (fun k => plR_ltn hL hh xo k) L x, tks_bit h x (hi - lo) xo]
   constructor
   · rintro ⟨h1, h2⟩
     have : (decide (lo ≤ x) && decide (x < lo + (hi - lo))) = true := by rw [Bool.and_eq_true, decide_eq_true_eq, decide_eq_true_eq]; omega
     rw [this] at h2
     rcases h2 with h2 | ⟨j, hj, h2⟩
     · simp at h2
     · rw [plR_get hj] at h2
       rw [← h2]
       exact List.mem_map.2 ⟨j, List.mem_range.2 hj, rfl⟩
   · intro hx
     obtain ⟨j, hj, rfl⟩ := List.mem_map.1 hx
     have hj := List.mem_range.1 hj
     have h1 := plF_lt (lo := lo) hj hL
     have h2 : lo ≤ plF L.length lo hi j := Nat.le_add_right _ _
     exact ⟨by omega, .inr ⟨j, hj, plR_get hj⟩⟩
theorem sp_in {c : SlC} {S lw n lc lo hi : Nat} (h : SlGd c S lw n lc) (hlo : lo ≤ hi) (hh : hi ≤ n) {L : List (Int × Int)} (hL : L.length ≤ hi - lo) : prs (spC c lo hi L) lo hi = L := by
 have hn := h.n1
 unfold prs
 rw [sp_pls h hlo hh hL, plR, List.map_map]
 apply List.ext_getElem
 · simp
 · intro i h1 h2
   rw [List.getElem_map, List.getElem_range]
   have hi' : i < L.length := h2
   have := lys_at (h.tks (lo := lo) (hi - lo) xo) (fun k => plR_ltn hL hh xo k) L (i := i) L.length hi' (fun j q1 q2 => by
    rw [plR_get q2, plR_get hi']
    have := plF_mono (lo := lo) xo hL i (j - i - 1)
    rw [show i + (j - i - 1 + 1) = j by omega] at this
    omega)
   rw [plR_get hi'] at this
   simp only [Function.comp]
   unfold spC
   rw [this.1, this.2, List.getD_eq_getElem?_getD, List.getElem?_eq_getElem hi']
   rfl
theorem sp_out {c : SlC} {S lw n lc lo hi : Nat} (h : SlGd c S lw n lc) (hlo : lo ≤ hi) (hh : hi ≤ n) {L : List (Int × Int)} (hL : L.length ≤ hi - lo) {x y : Nat} (hd : y ≤ lo ∨ hi ≤ x) : prs (spC c lo hi L) x y = prs c x y := by
 have hn := h.n1
 refine prs_same fun i h1 h2 => ?_
 have hne : ∀ j, j < L.length → (plR L.length lo hi).getD j 0 ≠ i := by
  intro j hj
  rw [plR_get hj]
  have h3 := plF_lt (lo := lo) hj hL
  have h4 : lo ≤ plF L.length lo hi j := Nat.le_add_right _ _
  omega
 have ho := lys_out (c := tks c lo (hi - lo)) (ps := plR L.length lo hi) (L := L) (i := i) L.length hne
 have ht := tks_out (c := c) (lo := lo) (i := i) (hi - lo) xo
 refine ⟨?_, ho.1.trans ht.1, ho.2.trans ht.2⟩
 rw [Bool.eq_iff_iff, spC, lys_bit (h.tks (hi - lo) xo) (fun k => plR_ltn hL hh xo k) L i, tks_bit h i (hi - lo) xo]
 have : (decide (lo ≤ i) && decide (i < lo + (hi - lo))) = false := by
  rw [Bool.and_eq_false_iff, decide_eq_false_iff_not, decide_eq_false_iff_not]; omega
 rw [this]
 constructor
 · rintro (q | ⟨j, hj, q⟩)
   · simpa using q
   · exact absurd q (hne j hj)
 · intro q
   exact .inl (by simpa using q)
theorem prs_sp {c : SlC} {S lw n lc lo hi : Nat} (h : SlGd c S lw n lc) (hlo : lo ≤ hi) (hh : hi ≤ n) {L : List (Int × Int)} (hL : L.length ≤ hi - lo) : prs (spC c lo hi L) 0 n = prs c 0 lo ++ L ++ prs c hi n := by
 rw [prs_app _ (Nat.zero_le lo) (by omega : lo ≤ n), prs_app _ hlo hh, sp_in h hlo hh hL, sp_out h hlo hh hL (.inl (Nat.le_refl _)), sp_out h hlo hh hL (.inr (Nat.le_refl _)), List.append_assoc]
theorem insL_mid {A B C : List (Int × Int)} {k : Nat} (h1 : A.length ≤ k) (h2 : k - A.length ≤ B.length) (p : Int × Int) : insL (A ++ B ++ C) k p = A ++ insL B (k - A.length) p ++ C := by
 unfold insL
 rw [List.append_assoc, List.take_append, List.drop_append, List.take_of_length_le h1, List.drop_eq_nil_of_le h1, List.nil_append, List.take_append, List.drop_append, show k - A.length - B.length = 0 by omega]
 simp
theorem prs_tk {c : SlC} {S lw n lc : Nat} (h : SlGd c S lw n lc) {i : Nat} (hi : i < n) (x y : Nat) (hd : y ≤ i ∨ i + 1 ≤ x) : prs (tkC c i) x y = prs c x y := by
 refine prs_same fun j h1 h2 => ?_
 have hji : i ≠ j := xo
 refine ⟨?_, ?_, ?_⟩
 · rw [tk_bit h hi, decide_eq_true (show j ≠ i by omega), Bool.and_true]
 · simp only [tkC]; rw [getD_set_at, if_neg (fun q => hji q.1)]
 · simp only [tkC]; rw [getD_set_at, if_neg (fun q => hji q.1)]
theorem prs_one (c : SlC) (i : Nat) : prs c i (i + 1) = if bitW c.ws i = true then [(c.ks.getD i 0, c.vs.getD i 0)] else [] := by
 unfold prs plsW
 rw [show i + 1 - i = 1 by omega, List.range'_one, List.filter_cons]
 split <;> rfl
theorem prs_tk_all {c : SlC} {S lw n lc : Nat} (h : SlGd c S lw n lc) {i : Nat} (hi : i < n) (hb : bitW c.ws i = true) : prs (tkC c i) 0 n = prs c 0 i ++ prs c (i + 1) n ∧ prs c 0 n = prs c 0 i ++ (c.ks.getD i 0, c.vs.getD i 0) :: prs c (i + 1) n := by
 constructor
 · rw [prs_app _ (Nat.zero_le i) (by omega : i ≤ n), prs_app _ (Nat.le_succ i) hi, prs_tk h hi _ _ (.inl (Nat.le_refl _)), prs_tk h hi _ _ (.inr (Nat.le_refl _)), prs_one, tk_bit h hi]
   simp
 · rw [prs_app _ (Nat.zero_le i) (by omega : i ≤ n), prs_app _ (Nat.le_succ i) hi, prs_one, if_pos hb]
   rfl
end
end Go.Proofs.YtookgoidlnlckaaDoor

/- New lists of handles. -/
import Derived.Test.YtjhpblejlchhjaaGreatOmTw
namespace Go.Proofs.YtjhpblejlchhjaaGreat
set_option maxRecDepth 100000
set_option maxHeartbeats 4000000
open Go.RowKit Go.Shelf
attribute [local go_sem] Oper.semAt_some
set_option linter.unusedVariables false
set_option linter.unusedSimpArgs false

theorem omNew_err (c : Cfg) (d : SlC) (e : Int) (he : e ≠ 0) (w : World) (NG : Hid (∀ W, Calls Tryz.prog 26 #[.agg #[.int .u8 c.tag, .int .i64 c.most, .int .i64 c.seg, .int .i64 c.least, .int .i64 c.den, .int .i64 c.ll, .int .i64 c.rl, .int .i64 c.rh, .int .i64 c.lh]] W (FreshSl2 W d (.int .i64 e)))) :
    Calls Tryz.prog 7 #[.agg #[.int .u8 c.tag, .int .i64 c.most, .int .i64 c.seg, .int .i64 c.least, .int .i64 c.den, .int .i64 c.ll, .int .i64 c.rl, .int .i64 c.rh, .int .i64 c.lh]] w (FreshOm2 w ⟨0, 0, 0, 0, 0, 0, 0, 0, 0⟩ nilC [] [] 0 (.int .i64 e)) := by
  have ge : (e != 0) = true := by simpa using he
  clear he
  go_enter Tryz.func7, Tryz.ntmps7
  go_wp2_with fail
  refine (NG.out _).mono ?_
  rintro e w1 ⟨v1, v2, v3, v4, rfl, p1, p2, p3, p4, hb1⟩
  have hz_w1 := hb1.size
  try simp only [World.size_alloc, World.size_setCell] at hz_w1
  have hh := bc9 hb1 (au9 (al9 (b := w.heap.size) (by simp)))
  obtain ⟨c_t0, c_t1, c_t2, c_t3, c_t4, c_t5, c_t6, c_t7, c_t8⟩ := hh
  have z_t := blt hb1 (auz (alz (b := w.heap.size) (by simp)))
  have hh := bc18 hb1 (al18 (b := w.heap.size + 1) (by simp))
  obtain ⟨c_r0, c_r1, c_r2, c_r3, c_r4, c_r5, c_r6, c_r7, c_r8, c_r9, c_r10, c_r11, c_r12, c_r13, c_r14, c_r15, c_r16, c_r17⟩ := hh
  have hh := bf18 hb1 (alz (b := w.heap.size + 1) (by simp)) (alf18 (b := w.heap.size + 1) (by simp))
  obtain ⟨f_r0, f_r1, f_r2, f_r3, f_r4, f_r5, f_r6, f_r7, f_r8, f_r9, f_r10, f_r11, f_r12, f_r13, f_r14, f_r15, f_r16, f_r17⟩ := hh
  have z_r := blt hb1 (alz (b := w.heap.size + 1) (by simp))
  have hB1 : Below w.heap.size w w1 := by (exact xbel)
  obtain ⟨a1, k1, rfl, -, -, -, -, -⟩ := row_of_owns p1
  obtain ⟨a2, k2, rfl, -, -, -, -, -⟩ := row_of_owns p2
  obtain ⟨a3, k3, rfl, -, -, -, -, -⟩ := row_of_owns p3
  obtain ⟨a4, k4, rfl, -, -, -, -, -⟩ := row_of_owns p4
  clear p1 p2 p3 p4
  go_upto_region 2 with (fail)
  generalize hw2 : w1.alloc (.cells #[.int .i64 d.seg, .slice a1 d.ws.length k1, .slice a2 d.ks.length k2, .slice a3 d.vs.length k3, .slice a4 d.cs.length k4, .int .u64 d.laid] 29) = w2
  have hh := ec9 hw2 (au9 (⟨c_t0, c_t1, c_t2, c_t3, c_t4, c_t5, c_t6, c_t7, c_t8⟩))
  clear c_t0 c_t1 c_t2 c_t3 c_t4 c_t5 c_t6 c_t7 c_t8
  obtain ⟨c_t0, c_t1, c_t2, c_t3, c_t4, c_t5, c_t6, c_t7, c_t8⟩ := hh
  replace z_t := elt hw2 (auz (z_t))
  have hh := ec18 hw2 (au18 (⟨c_r0, c_r1, c_r2, c_r3, c_r4, c_r5, c_r6, c_r7, c_r8, c_r9, c_r10, c_r11, c_r12, c_r13, c_r14, c_r15, c_r16, c_r17⟩))
  clear c_r0 c_r1 c_r2 c_r3 c_r4 c_r5 c_r6 c_r7 c_r8 c_r9 c_r10 c_r11 c_r12 c_r13 c_r14 c_r15 c_r16 c_r17
  obtain ⟨c_r0, c_r1, c_r2, c_r3, c_r4, c_r5, c_r6, c_r7, c_r8, c_r9, c_r10, c_r11, c_r12, c_r13, c_r14, c_r15, c_r16, c_r17⟩ := hh
  have hh := ef18 hw2 (auf18 z_r ⟨f_r0, f_r1, f_r2, f_r3, f_r4, f_r5, f_r6, f_r7, f_r8, f_r9, f_r10, f_r11, f_r12, f_r13, f_r14, f_r15, f_r16, f_r17⟩)
  clear f_r0 f_r1 f_r2 f_r3 f_r4 f_r5 f_r6 f_r7 f_r8 f_r9 f_r10 f_r11 f_r12 f_r13 f_r14 f_r15 f_r16 f_r17
  obtain ⟨f_r0, f_r1, f_r2, f_r3, f_r4, f_r5, f_r6, f_r7, f_r8, f_r9, f_r10, f_r11, f_r12, f_r13, f_r14, f_r15, f_r16, f_r17⟩ := hh
  replace z_r := elt hw2 (auz (z_r))
  have hB2 : Below w.heap.size w w2 := by rw [← hw2]; exact hB1.alloc hB1.size _
  clear hw2
  go_wp2
  have HC := Lib.hid (some18 ⟨c_r0, c_r1, c_r2, c_r3, c_r4, c_r5, c_r6, c_r7, c_r8, c_r9, c_r10, c_r11, c_r12, c_r13, c_r14, c_r15, c_r16, c_r17⟩)
  refine bodyPost_ret (results_ct rfl rfl (run_loadVar_many _ Tryz.underlying33 rfl (by kernel_rfl) (setCs_all (W := w2) (b := w.heap.size + 1) (l := [.int .u8 0, .int .i64 0, .int .i64 0, .int .i64 0, .int .i64 0, .int .i64 0, .int .i64 0, .int .i64 0, .int .i64 0, .int .i64 0, .slice none 0 0, .slice none 0 0, .slice none 0 0, .slice none 0 0, .int .u64 0, .slice none 0 0, .slice none 0 0, .int .u64 0]) HC.out))) rfl ⟨_, _, _, _, _, _, rfl, ?_, ?_, ?_, ?_, ?_, ?_, ?_⟩
  · exact World.ownsRow_nil _ _ _ _
  · exact World.ownsRow_nil _ _ _ _
  · exact World.ownsRow_nil _ _ _ _
  · exact World.ownsRow_nil _ _ _ _
  · exact World.ownsRow_nil _ _ _ _
  · exact World.ownsRow_nil _ _ _ _
  · exact setCs_below (b := w.heap.size + 1) (by omega) [.int .u8 0, .int .i64 0, .int .i64 0, .int .i64 0, .int .i64 0, .int .i64 0, .int .i64 0, .int .i64 0, .int .i64 0, .int .i64 0, .slice none 0 0, .slice none 0 0, .slice none 0 0, .slice none 0 0, .int .u64 0, .slice none 0 0, .slice none 0 0, .int .u64 0] _ 0 hB2
theorem omNew_in (c : Cfg) (d : SlC) (w : World) (NG : Hid (∀ W, Calls Tryz.prog 26 #[.agg #[.int .u8 c.tag, .int .i64 c.most, .int .i64 c.seg, .int .i64 c.least, .int .i64 c.den, .int .i64 c.ll, .int .i64 c.rl, .int .i64 c.rh, .int .i64 c.lh]] W (FreshSl2 W d (.int .i64 0)))) :
    Calls Tryz.prog 7 #[.agg #[.int .u8 c.tag, .int .i64 c.most, .int .i64 c.seg, .int .i64 c.least, .int .i64 c.den, .int .i64 c.ll, .int .i64 c.rl, .int .i64 c.rh, .int .i64 c.lh]] w (FreshOm2 w c d [] [] 0 (.int .i64 0)) := by
  go_enter Tryz.func7, Tryz.ntmps7
  go_wp2_with fail
  refine (NG.out _).mono ?_
  rintro e w1 ⟨v1, v2, v3, v4, rfl, p1, p2, p3, p4, hb1⟩
  have hz_w1 := hb1.size
  try simp only [World.size_alloc, World.size_setCell] at hz_w1
  have hh := bc9 hb1 (au9 (al9 (b := w.heap.size) (by simp)))
  obtain ⟨c_t0, c_t1, c_t2, c_t3, c_t4, c_t5, c_t6, c_t7, c_t8⟩ := hh
  have z_t := blt hb1 (auz (alz (b := w.heap.size) (by simp)))
  have hh := bc18 hb1 (al18 (b := w.heap.size + 1) (by simp))
  obtain ⟨c_r0, c_r1, c_r2, c_r3, c_r4, c_r5, c_r6, c_r7, c_r8, c_r9, c_r10, c_r11, c_r12, c_r13, c_r14, c_r15, c_r16, c_r17⟩ := hh
  have hh := bf18 hb1 (alz (b := w.heap.size + 1) (by simp)) (alf18 (b := w.heap.size + 1) (by simp))
  obtain ⟨f_r0, f_r1, f_r2, f_r3, f_r4, f_r5, f_r6, f_r7, f_r8, f_r9, f_r10, f_r11, f_r12, f_r13, f_r14, f_r15, f_r16, f_r17⟩ := hh
  have z_r := blt hb1 (alz (b := w.heap.size + 1) (by simp))
  have hB1 : Below w.heap.size w w1 := by (exact xbel)
  obtain ⟨a1, k1, rfl, -, -, -, -, -⟩ := row_of_owns p1
  obtain ⟨a2, k2, rfl, -, -, -, -, -⟩ := row_of_owns p2
  obtain ⟨a3, k3, rfl, -, -, -, -, -⟩ := row_of_owns p3
  obtain ⟨a4, k4, rfl, -, -, -, -, -⟩ := row_of_owns p4
  go_upto_region 2 with (fail)
  generalize hw2 : w1.alloc (.cells #[.int .i64 d.seg, .slice a1 d.ws.length k1, .slice a2 d.ks.length k2, .slice a3 d.vs.length k3, .slice a4 d.cs.length k4, .int .u64 d.laid] 29) = w2
  have hh := ec9 hw2 (au9 (⟨c_t0, c_t1, c_t2, c_t3, c_t4, c_t5, c_t6, c_t7, c_t8⟩))
  clear c_t0 c_t1 c_t2 c_t3 c_t4 c_t5 c_t6 c_t7 c_t8
  obtain ⟨c_t0, c_t1, c_t2, c_t3, c_t4, c_t5, c_t6, c_t7, c_t8⟩ := hh
  replace z_t := elt hw2 (auz (z_t))
  have hh := ec18 hw2 (au18 (⟨c_r0, c_r1, c_r2, c_r3, c_r4, c_r5, c_r6, c_r7, c_r8, c_r9, c_r10, c_r11, c_r12, c_r13, c_r14, c_r15, c_r16, c_r17⟩))
  clear c_r0 c_r1 c_r2 c_r3 c_r4 c_r5 c_r6 c_r7 c_r8 c_r9 c_r10 c_r11 c_r12 c_r13 c_r14 c_r15 c_r16 c_r17
  obtain ⟨c_r0, c_r1, c_r2, c_r3, c_r4, c_r5, c_r6, c_r7, c_r8, c_r9, c_r10, c_r11, c_r12, c_r13, c_r14, c_r15, c_r16, c_r17⟩ := hh
  have hh := ef18 hw2 (auf18 z_r ⟨f_r0, f_r1, f_r2, f_r3, f_r4, f_r5, f_r6, f_r7, f_r8, f_r9, f_r10, f_r11, f_r12, f_r13, f_r14, f_r15, f_r16, f_r17⟩)
  clear f_r0 f_r1 f_r2 f_r3 f_r4 f_r5 f_r6 f_r7 f_r8 f_r9 f_r10 f_r11 f_r12 f_r13 f_r14 f_r15 f_r16 f_r17
  obtain ⟨f_r0, f_r1, f_r2, f_r3, f_r4, f_r5, f_r6, f_r7, f_r8, f_r9, f_r10, f_r11, f_r12, f_r13, f_r14, f_r15, f_r16, f_r17⟩ := hh
  replace z_r := elt hw2 (auz (z_r))
  have hh := ec6 hw2 (al6 (b := w1.heap.size) (by simp))
  obtain ⟨c_o0, c_o1, c_o2, c_o3, c_o4, c_o5⟩ := hh
  have z_o := elt hw2 (alz (b := w1.heap.size) (by simp))
  have hb2 : Below w1.heap.size w1 w2 := by rw [← hw2]; exact (Below.refl _ _).alloc (Nat.le_refl _) _
  have hB2 := below_via hb2 hB1 hB1.size
  have hz1 : w.heap.size + 1 < w.heap.size + 2 := by omega
  simp only [World.size_alloc] at p1 p2 p3 p4
  have HP := Lib.hid (And.intro (owns_below p1 hb2) (And.intro (owns_below p2 hb2) (And.intro (owns_below p3 hb2) (owns_below p4 hb2))))
  clear hw2 p1 p2 p3 p4
  go_wp2
  have HC := Lib.hid (some18 ⟨c_r0, c_r1, c_r2, c_r3, c_r4, c_r5, c_r6, c_r7, c_r8, c_r9, c_r10, c_r11, c_r12, c_r13, c_r14, c_r15, c_r16, c_r17⟩)
  refine bodyPost_ret (results_ct rfl rfl (run_loadVar_many _ Tryz.underlying33 rfl (by kernel_rfl) (setCs_all (W := w2) (b := w.heap.size + 1) (l := [.int .u8 c.tag, .int .i64 c.most, .int .i64 c.seg, .int .i64 c.least, .int .i64 c.den, .int .i64 c.ll, .int .i64 c.rl, .int .i64 c.rh, .int .i64 c.lh, .int .i64 d.seg, .slice a1 d.ws.length k1, .slice a2 d.ks.length k2, .slice a3 d.vs.length k3, .slice a4 d.cs.length k4, .int .u64 d.laid, .slice none 0 0, .slice none 0 0, .int .u64 0]) HC.out))) rfl ⟨_, _, _, _, _, _, rfl, ?_, ?_, ?_, ?_, ?_, ?_, ?_⟩
  · exact owns_base (setCs_owns (b := w.heap.size + 1) (i := 0) hz1 [.int .u8 c.tag, .int .i64 c.most, .int .i64 c.seg, .int .i64 c.least, .int .i64 c.den, .int .i64 c.ll, .int .i64 c.rl, .int .i64 c.rh, .int .i64 c.lh, .int .i64 d.seg, .slice a1 d.ws.length k1, .slice a2 d.ks.length k2, .slice a3 d.vs.length k3, .slice a4 d.cs.length k4, .int .u64 d.laid, .slice none 0 0, .slice none 0 0, .int .u64 0] HP.out.1) (by omega)
  · exact owns_base (setCs_owns (b := w.heap.size + 1) (i := 0) hz1 [.int .u8 c.tag, .int .i64 c.most, .int .i64 c.seg, .int .i64 c.least, .int .i64 c.den, .int .i64 c.ll, .int .i64 c.rl, .int .i64 c.rh, .int .i64 c.lh, .int .i64 d.seg, .slice a1 d.ws.length k1, .slice a2 d.ks.length k2, .slice a3 d.vs.length k3, .slice a4 d.cs.length k4, .int .u64 d.laid, .slice none 0 0, .slice none 0 0, .int .u64 0] HP.out.2.1) (by omega)
  · exact owns_base (setCs_owns (b := w.heap.size + 1) (i := 0) hz1 [.int .u8 c.tag, .int .i64 c.most, .int .i64 c.seg, .int .i64 c.least, .int .i64 c.den, .int .i64 c.ll, .int .i64 c.rl, .int .i64 c.rh, .int .i64 c.lh, .int .i64 d.seg, .slice a1 d.ws.length k1, .slice a2 d.ks.length k2, .slice a3 d.vs.length k3, .slice a4 d.cs.length k4, .int .u64 d.laid, .slice none 0 0, .slice none 0 0, .int .u64 0] HP.out.2.2.1) (by omega)
  · exact owns_base (setCs_owns (b := w.heap.size + 1) (i := 0) hz1 [.int .u8 c.tag, .int .i64 c.most, .int .i64 c.seg, .int .i64 c.least, .int .i64 c.den, .int .i64 c.ll, .int .i64 c.rl, .int .i64 c.rh, .int .i64 c.lh, .int .i64 d.seg, .slice a1 d.ws.length k1, .slice a2 d.ks.length k2, .slice a3 d.vs.length k3, .slice a4 d.cs.length k4, .int .u64 d.laid, .slice none 0 0, .slice none 0 0, .int .u64 0] HP.out.2.2.2) (by omega)
  · exact World.ownsRow_nil _ _ _ _
  · exact World.ownsRow_nil _ _ _ _
  · exact setCs_below (b := w.heap.size + 1) (by omega) [.int .u8 c.tag, .int .i64 c.most, .int .i64 c.seg, .int .i64 c.least, .int .i64 c.den, .int .i64 c.ll, .int .i64 c.rl, .int .i64 c.rh, .int .i64 c.lh, .int .i64 d.seg, .slice a1 d.ws.length k1, .slice a2 d.ks.length k2, .slice a3 d.vs.length k3, .slice a4 d.cs.length k4, .int .u64 d.laid, .slice none 0 0, .slice none 0 0, .int .u64 0] _ 0 hB2
theorem omNew_ok (c : Cfg) (w : World) : Calls Tryz.prog 7 #[.agg #[.int .u8 c.tag, .int .i64 c.most, .int .i64 c.seg, .int .i64 c.least, .int .i64 c.den, .int .i64 c.ll, .int .i64 c.rl, .int .i64 c.rh, .int .i64 c.lh]] w (FreshOm2 w (newF c) (newC c) [] [] 0 (.int .i64 (cfE c))) := by
  cases h : cfMay c with
  | true =>
    have e : cfE c = 0 := cfE_ok h
    have hn : newC c = emptyC c := by rw [newC, if_pos h]
    rw [newF, if_pos h, e]
    exact omNew_in c (newC c) w (Lib.hid fun W => e ▸ gapNew_ok c W)
  | false =>
    have e : cfE c = 50 := by simp [cfE, h]
    rw [newF, if_neg (by simp [h]), newC, if_neg (by simp [h]), e]
    exact omNew_err c (newC c) 50 (by decide) w (Lib.hid fun W => e ▸ gapNew_ok c W)
theorem Empty15_ok (c : Cfg) (d : SlC) (w : World) (EM : Hid (∀ W, Calls Tryz.prog 49 #[.int .i64 c.seg, .int .i64 c.least] W (FreshSl W d))) :
    Calls Tryz.prog 28 #[.agg #[.int .u8 c.tag, .int .i64 c.most, .int .i64 c.seg, .int .i64 c.least, .int .i64 c.den, .int .i64 c.ll, .int .i64 c.rl, .int .i64 c.rh, .int .i64 c.lh]] w (FreshOm w c d [] [] 0) := by
  go_enter Tryz.func28, Tryz.ntmps28
  go_upto_region 1 with (fail)
  generalize hwz : ((w.alloc (.cells #[.int .u8 c.tag, .int .i64 c.most, .int .i64 c.seg, .int .i64 c.least, .int .i64 c.den, .int .i64 c.ll, .int .i64 c.rl, .int .i64 c.rh, .int .i64 c.lh] 23)).alloc (.cells #[.int .u8 0, .int .i64 0, .int .i64 0, .int .i64 0, .int .i64 0, .int .i64 0, .int .i64 0, .int .i64 0, .int .i64 0, .int .i64 0, .slice none 0 0, .slice none 0 0, .slice none 0 0, .slice none 0 0, .int .u64 0, .slice none 0 0, .slice none 0 0, .int .u64 0] 33)) = wz
  have hh := ec9 hwz (au9 (al9 (b := w.heap.size) (by simp)))
  obtain ⟨c_t0, c_t1, c_t2, c_t3, c_t4, c_t5, c_t6, c_t7, c_t8⟩ := hh
  have z_t := elt hwz (auz (alz (b := w.heap.size) (by simp)))
  have hh := ec18 hwz (al18 (b := w.heap.size + 1) (by simp))
  obtain ⟨c_r0, c_r1, c_r2, c_r3, c_r4, c_r5, c_r6, c_r7, c_r8, c_r9, c_r10, c_r11, c_r12, c_r13, c_r14, c_r15, c_r16, c_r17⟩ := hh
  have hh := ef18 hwz (alf18 (b := w.heap.size + 1) (by simp))
  obtain ⟨f_r0, f_r1, f_r2, f_r3, f_r4, f_r5, f_r6, f_r7, f_r8, f_r9, f_r10, f_r11, f_r12, f_r13, f_r14, f_r15, f_r16, f_r17⟩ := hh
  have z_r := elt hwz (alz (b := w.heap.size + 1) (by simp))
  have HS : Hid (Below w.heap.size w wz) := by rw [← hwz]; exact Lib.hid (((Below.refl _ _).alloc (Nat.le_refl _) _).alloc (by simp) _)
  have hzz : w.heap.size + 2 = wz.heap.size := by rw [← hwz]; simp
  clear hwz
  refine wp_region_late 6 (by kernel_rfl) (N := 10) rfl (by kernel_rfl) (by kernel_rfl) (by decide) (fun w' => Below wz.heap.size wz w') RB (factRAt [.is (.agg #[.int .u8 c.tag, .int .i64 c.most, .int .i64 c.seg, .int .i64 c.least, .int .i64 c.den, .int .i64 c.ll, .int .i64 c.rl, .int .i64 c.rh, .int .i64 c.lh]), .is (.pointer (some ⟨w.heap.size, 2, none⟩)), .is (.int .i64 c.seg), .is (.pointer (some ⟨w.heap.size, 3, none⟩)), .is (.int .i64 c.least), .sl wz.heap.size d]) (factRAt_stays _) (Below.refl _ _).drew ?steps ?fin
  case steps =>
    refine ⟨?o0, ?o1, ?o2, ?o3, ?o4, ?o5, trivial⟩
    case o0 =>
      intro u a w' ev hJ hd K hK
      have e1 : a.tmps.getD 1 undef = .pointer (some ⟨w.heap.size, 0, none⟩) := ev 1 (by decide)
      have g0 := (hJ.cell (p := ⟨w.heap.size, 0, none⟩) (by dsimp only; omega)).trans c_t0
      have g1 := (hJ.cell (p := ⟨w.heap.size, 1, none⟩) (by dsimp only; omega)).trans c_t1
      have g2 := (hJ.cell (p := ⟨w.heap.size, 2, none⟩) (by dsimp only; omega)).trans c_t2
      have g3 := (hJ.cell (p := ⟨w.heap.size, 3, none⟩) (by dsimp only; omega)).trans c_t3
      have g4 := (hJ.cell (p := ⟨w.heap.size, 4, none⟩) (by dsimp only; omega)).trans c_t4
      have g5 := (hJ.cell (p := ⟨w.heap.size, 5, none⟩) (by dsimp only; omega)).trans c_t5
      have g6 := (hJ.cell (p := ⟨w.heap.size, 6, none⟩) (by dsimp only; omega)).trans c_t6
      have g7 := (hJ.cell (p := ⟨w.heap.size, 7, none⟩) (by dsimp only; omega)).trans c_t7
      have g8 := (hJ.cell (p := ⟨w.heap.size, 8, none⟩) (by dsimp only; omega)).trans c_t8
      have HK := Lib.hid hK
      clear hK ev hd
      go_simp
      exact HK.out _ _ (fun h => by cases h) hJ rfl (Below.refl _ _)
    case o1 =>
      intro u a w' ev hJ hd K hK
      have e1 : a.tmps.getD 1 undef = .pointer (some ⟨w.heap.size, 0, none⟩) := ev 1 (by decide)
      have HK := Lib.hid hK
      clear hK ev hd
      go_simp
      exact HK.out _ _ (fun h => by cases h) hJ rfl (Below.refl _ _)
    case o2 =>
      intro u a w' ev hJ hd K hK
      have e4 : a.tmps.getD 4 undef = .pointer (some ⟨w.heap.size, 2, none⟩) := (ev 4 (by decide)).trans (hd 1 _ (by kernel_rfl) rfl)
      have g2 := (hJ.cell (p := ⟨w.heap.size, 2, none⟩) (by dsimp only; omega)).trans c_t2
      have HK := Lib.hid hK
      clear hK ev hd
      go_simp
      exact HK.out _ _ (fun h => by cases h) hJ rfl (Below.refl _ _)
    case o3 =>
      intro u a w' ev hJ hd K hK
      have e1 : a.tmps.getD 1 undef = .pointer (some ⟨w.heap.size, 0, none⟩) := ev 1 (by decide)
      have HK := Lib.hid hK
      clear hK ev hd
      go_simp
      exact HK.out _ _ (fun h => by cases h) hJ rfl (Below.refl _ _)
    case o4 =>
      intro u a w' ev hJ hd K hK
      have e6 : a.tmps.getD 6 undef = .pointer (some ⟨w.heap.size, 3, none⟩) := (ev 6 (by decide)).trans (hd 3 _ (by kernel_rfl) rfl)
      have g3 := (hJ.cell (p := ⟨w.heap.size, 3, none⟩) (by dsimp only; omega)).trans c_t3
      have HK := Lib.hid hK
      clear hK ev hd
      go_simp
      exact HK.out _ _ (fun h => by cases h) hJ rfl (Below.refl _ _)
    case o5 =>
      intro u a w' ev hJ hd K hK
      have e5 : a.tmps.getD 5 undef = .int .i64 c.seg := (ev 5 (by decide)).trans (hd 2 _ (by kernel_rfl) rfl)
      have e7 : a.tmps.getD 7 undef = .int .i64 c.least := (ev 7 (by decide)).trans (hd 4 _ (by kernel_rfl) rfl)
      have HK := Lib.hid hK
      have HC := Lib.hid (EM.out w')
      have hzJ := hJ.size
      have HJ := Lib.hid hJ
      clear hK ev hd hJ
      go_simp
      refine HC.out.mono ?_
      rintro e w'' ⟨v1, v2, v3, v4, rfl, o1, o2, o3, o4, hb⟩
      exact HK.out _ _ (fun h => by cases h) (HJ.out.trans (hb.mono hzJ)) ⟨v1, v2, v3, v4, rfl, owns_base o1 hzJ, owns_base o2 hzJ, owns_base o3 hzJ, owns_base o4 hzJ⟩ hb
  case fin =>
    intro u w2 hJ hG
    have h3 : u 3 = .agg #[.int .u8 c.tag, .int .i64 c.most, .int .i64 c.seg, .int .i64 c.least, .int .i64 c.den, .int .i64 c.ll, .int .i64 c.rl, .int .i64 c.rh, .int .i64 c.lh] := hG 0 _ rfl
    obtain ⟨v1, v2, v3, v4, h8, p1, p2, p3, p4⟩ : (FactR.sl wz.heap.size d).holds (u 8) w2 := hG 5 _ rfl
    obtain ⟨a1, k1, rfl, -⟩ := owns_news p1
    obtain ⟨a2, k2, rfl, -⟩ := owns_news p2
    obtain ⟨a3, k3, rfl, -⟩ := owns_news p3
    obtain ⟨a4, k4, rfl, -⟩ := owns_news p4
    have hz_w2 := hJ.size
    try simp only [World.size_alloc, World.size_setCell] at hz_w2
    have hh := bc9 hJ ⟨c_t0, c_t1, c_t2, c_t3, c_t4, c_t5, c_t6, c_t7, c_t8⟩
    clear c_t0 c_t1 c_t2 c_t3 c_t4 c_t5 c_t6 c_t7 c_t8
    obtain ⟨c_t0, c_t1, c_t2, c_t3, c_t4, c_t5, c_t6, c_t7, c_t8⟩ := hh
    replace z_t := blt hJ z_t
    have hh := bc18 hJ ⟨c_r0, c_r1, c_r2, c_r3, c_r4, c_r5, c_r6, c_r7, c_r8, c_r9, c_r10, c_r11, c_r12, c_r13, c_r14, c_r15, c_r16, c_r17⟩
    clear c_r0 c_r1 c_r2 c_r3 c_r4 c_r5 c_r6 c_r7 c_r8 c_r9 c_r10 c_r11 c_r12 c_r13 c_r14 c_r15 c_r16 c_r17
    obtain ⟨c_r0, c_r1, c_r2, c_r3, c_r4, c_r5, c_r6, c_r7, c_r8, c_r9, c_r10, c_r11, c_r12, c_r13, c_r14, c_r15, c_r16, c_r17⟩ := hh
    have hh := bf18 hJ z_r ⟨f_r0, f_r1, f_r2, f_r3, f_r4, f_r5, f_r6, f_r7, f_r8, f_r9, f_r10, f_r11, f_r12, f_r13, f_r14, f_r15, f_r16, f_r17⟩
    clear f_r0 f_r1 f_r2 f_r3 f_r4 f_r5 f_r6 f_r7 f_r8 f_r9 f_r10 f_r11 f_r12 f_r13 f_r14 f_r15 f_r16 f_r17
    obtain ⟨f_r0, f_r1, f_r2, f_r3, f_r4, f_r5, f_r6, f_r7, f_r8, f_r9, f_r10, f_r11, f_r12, f_r13, f_r14, f_r15, f_r16, f_r17⟩ := hh
    replace z_r := blt hJ z_r
    have hB2 : Below w.heap.size w w2 := below_via hJ HS.out (by omega)
    have HP := Lib.hid (And.intro p1 (And.intro p2 (And.intro p3 p4)))
    clear hG hJ p1 p2 p3 p4
    simp only [mixFrame, mixL, dstsOf, List.take_succ_cons, List.take_zero, List.filterMap_cons, List.filterMap_nil, List.contains_cons, List.contains_nil, Nat.reduceBEq, Bool.or_false, Bool.false_or, Bool.or_true, Bool.true_or, if_true, if_false, Bool.false_eq_true, Nat.reduceAdd, Nat.zero_add, List.drop_succ_cons, List.drop_zero, h3, h8]
    go_wp2
    have hz1 : w.heap.size + 1 < wz.heap.size := by omega
    have HC := Lib.hid (some18 ⟨c_r0, c_r1, c_r2, c_r3, c_r4, c_r5, c_r6, c_r7, c_r8, c_r9, c_r10, c_r11, c_r12, c_r13, c_r14, c_r15, c_r16, c_r17⟩)
    refine bodyPost_ret (results_c rfl rfl (run_loadVar_many _ Tryz.underlying33 rfl (by kernel_rfl) (setCs_all (W := w2) (b := w.heap.size + 1) (l := [.int .u8 c.tag, .int .i64 c.most, .int .i64 c.seg, .int .i64 c.least, .int .i64 c.den, .int .i64 c.ll, .int .i64 c.rl, .int .i64 c.rh, .int .i64 c.lh, .int .i64 d.seg, .slice a1 d.ws.length k1, .slice a2 d.ks.length k2, .slice a3 d.vs.length k3, .slice a4 d.cs.length k4, .int .u64 d.laid, .slice none 0 0, .slice none 0 0, .int .u64 0]) HC.out))) rfl ⟨_, _, _, _, _, _, rfl, ?_, ?_, ?_, ?_, ?_, ?_, ?_⟩
    · exact owns_base (setCs_owns (b := w.heap.size + 1) (i := 0) hz1 [.int .u8 c.tag, .int .i64 c.most, .int .i64 c.seg, .int .i64 c.least, .int .i64 c.den, .int .i64 c.ll, .int .i64 c.rl, .int .i64 c.rh, .int .i64 c.lh, .int .i64 d.seg, .slice a1 d.ws.length k1, .slice a2 d.ks.length k2, .slice a3 d.vs.length k3, .slice a4 d.cs.length k4, .int .u64 d.laid, .slice none 0 0, .slice none 0 0, .int .u64 0] HP.out.1) (by omega)
    · exact owns_base (setCs_owns (b := w.heap.size + 1) (i := 0) hz1 [.int .u8 c.tag, .int .i64 c.most, .int .i64 c.seg, .int .i64 c.least, .int .i64 c.den, .int .i64 c.ll, .int .i64 c.rl, .int .i64 c.rh, .int .i64 c.lh, .int .i64 d.seg, .slice a1 d.ws.length k1, .slice a2 d.ks.length k2, .slice a3 d.vs.length k3, .slice a4 d.cs.length k4, .int .u64 d.laid, .slice none 0 0, .slice none 0 0, .int .u64 0] HP.out.2.1) (by omega)
    · exact owns_base (setCs_owns (b := w.heap.size + 1) (i := 0) hz1 [.int .u8 c.tag, .int .i64 c.most, .int .i64 c.seg, .int .i64 c.least, .int .i64 c.den, .int .i64 c.ll, .int .i64 c.rl, .int .i64 c.rh, .int .i64 c.lh, .int .i64 d.seg, .slice a1 d.ws.length k1, .slice a2 d.ks.length k2, .slice a3 d.vs.length k3, .slice a4 d.cs.length k4, .int .u64 d.laid, .slice none 0 0, .slice none 0 0, .int .u64 0] HP.out.2.2.1) (by omega)
    · exact owns_base (setCs_owns (b := w.heap.size + 1) (i := 0) hz1 [.int .u8 c.tag, .int .i64 c.most, .int .i64 c.seg, .int .i64 c.least, .int .i64 c.den, .int .i64 c.ll, .int .i64 c.rl, .int .i64 c.rh, .int .i64 c.lh, .int .i64 d.seg, .slice a1 d.ws.length k1, .slice a2 d.ks.length k2, .slice a3 d.vs.length k3, .slice a4 d.cs.length k4, .int .u64 d.laid, .slice none 0 0, .slice none 0 0, .int .u64 0] HP.out.2.2.2) (by omega)
    · exact World.ownsRow_nil _ _ _ _
    · exact World.ownsRow_nil _ _ _ _
    · exact setCs_below (b := w.heap.size + 1) (by omega) [.int .u8 c.tag, .int .i64 c.most, .int .i64 c.seg, .int .i64 c.least, .int .i64 c.den, .int .i64 c.ll, .int .i64 c.rl, .int .i64 c.rh, .int .i64 c.lh, .int .i64 d.seg, .slice a1 d.ws.length k1, .slice a2 d.ks.length k2, .slice a3 d.vs.length k3, .slice a4 d.cs.length k4, .int .u64 d.laid, .slice none 0 0, .slice none 0 0, .int .u64 0] _ 0 hB2
theorem New15_err (c : Cfg) (e : Int) (he : e ≠ 0) (w : World) (CK : Hid (∀ W, Calls Tryz.prog 27 #[.agg #[.int .u8 c.tag, .int .i64 c.most, .int .i64 c.seg, .int .i64 c.least, .int .i64 c.den, .int .i64 c.ll, .int .i64 c.rl, .int .i64 c.rh, .int .i64 c.lh]] W (AnsB W (.int .i64 e)))) :
    Calls Tryz.prog 8 #[.agg #[.int .u8 c.tag, .int .i64 c.most, .int .i64 c.seg, .int .i64 c.least, .int .i64 c.den, .int .i64 c.ll, .int .i64 c.rl, .int .i64 c.rh, .int .i64 c.lh]] w (FreshOm2 w ⟨0, 0, 0, 0, 0, 0, 0, 0, 0⟩ nilC [] [] 0 (.int .i64 e)) := by
  have ge : (e != 0) = true := by simpa using he
  clear he
  go_enter Tryz.func8, Tryz.ntmps8
  go_wp2_with fail
  refine (CK.out _).mono ?_
  rintro e w1 ⟨rfl, hb1⟩
  have hz_w1 := hb1.size
  try simp only [World.size_alloc, World.size_setCell] at hz_w1
  have hh := bc9 hb1 (au9 (al9 (b := w.heap.size) (by simp)))
  obtain ⟨c_t0, c_t1, c_t2, c_t3, c_t4, c_t5, c_t6, c_t7, c_t8⟩ := hh
  have z_t := blt hb1 (auz (alz (b := w.heap.size) (by simp)))
  have hh := bc18 hb1 (al18 (b := w.heap.size + 1) (by simp))
  obtain ⟨c_r0, c_r1, c_r2, c_r3, c_r4, c_r5, c_r6, c_r7, c_r8, c_r9, c_r10, c_r11, c_r12, c_r13, c_r14, c_r15, c_r16, c_r17⟩ := hh
  have hh := bf18 hb1 (alz (b := w.heap.size + 1) (by simp)) (alf18 (b := w.heap.size + 1) (by simp))
  obtain ⟨f_r0, f_r1, f_r2, f_r3, f_r4, f_r5, f_r6, f_r7, f_r8, f_r9, f_r10, f_r11, f_r12, f_r13, f_r14, f_r15, f_r16, f_r17⟩ := hh
  have z_r := blt hb1 (alz (b := w.heap.size + 1) (by simp))
  have hB1 : Below w.heap.size w w1 := by (exact xbel)
  go_wp2
  have HC := Lib.hid (some18 ⟨c_r0, c_r1, c_r2, c_r3, c_r4, c_r5, c_r6, c_r7, c_r8, c_r9, c_r10, c_r11, c_r12, c_r13, c_r14, c_r15, c_r16, c_r17⟩)
  refine bodyPost_ret (results_ct rfl rfl (run_loadVar_many _ Tryz.underlying33 rfl (by kernel_rfl) (setCs_all (W := w1) (b := w.heap.size + 1) (l := [.int .u8 0, .int .i64 0, .int .i64 0, .int .i64 0, .int .i64 0, .int .i64 0, .int .i64 0, .int .i64 0, .int .i64 0, .int .i64 0, .slice none 0 0, .slice none 0 0, .slice none 0 0, .slice none 0 0, .int .u64 0, .slice none 0 0, .slice none 0 0, .int .u64 0]) HC.out))) rfl ⟨_, _, _, _, _, _, rfl, ?_, ?_, ?_, ?_, ?_, ?_, ?_⟩
  · exact World.ownsRow_nil _ _ _ _
  · exact World.ownsRow_nil _ _ _ _
  · exact World.ownsRow_nil _ _ _ _
  · exact World.ownsRow_nil _ _ _ _
  · exact World.ownsRow_nil _ _ _ _
  · exact World.ownsRow_nil _ _ _ _
  · exact setCs_below (b := w.heap.size + 1) (by omega) [.int .u8 0, .int .i64 0, .int .i64 0, .int .i64 0, .int .i64 0, .int .i64 0, .int .i64 0, .int .i64 0, .int .i64 0, .int .i64 0, .slice none 0 0, .slice none 0 0, .slice none 0 0, .slice none 0 0, .int .u64 0, .slice none 0 0, .slice none 0 0, .int .u64 0] _ 0 hB1
theorem New15_in (c : Cfg) (d : SlC) (w : World) (CK : Hid (∀ W, Calls Tryz.prog 27 #[.agg #[.int .u8 c.tag, .int .i64 c.most, .int .i64 c.seg, .int .i64 c.least, .int .i64 c.den, .int .i64 c.ll, .int .i64 c.rl, .int .i64 c.rh, .int .i64 c.lh]] W (AnsB W (.int .i64 0)))) (EM : Hid (∀ W, Calls Tryz.prog 28 #[.agg #[.int .u8 c.tag, .int .i64 c.most, .int .i64 c.seg, .int .i64 c.least, .int .i64 c.den, .int .i64 c.ll, .int .i64 c.rl, .int .i64 c.rh, .int .i64 c.lh]] W (FreshOm W c d [] [] 0))) :
    Calls Tryz.prog 8 #[.agg #[.int .u8 c.tag, .int .i64 c.most, .int .i64 c.seg, .int .i64 c.least, .int .i64 c.den, .int .i64 c.ll, .int .i64 c.rl, .int .i64 c.rh, .int .i64 c.lh]] w (FreshOm2 w c d [] [] 0 (.int .i64 0)) := by
  go_enter Tryz.func8, Tryz.ntmps8
  go_wp2_with fail
  refine (CK.out _).mono ?_
  rintro e w1 ⟨rfl, hb1⟩
  have hz_w1 := hb1.size
  try simp only [World.size_alloc, World.size_setCell] at hz_w1
  have hh := bc9 hb1 (au9 (al9 (b := w.heap.size) (by simp)))
  obtain ⟨c_t0, c_t1, c_t2, c_t3, c_t4, c_t5, c_t6, c_t7, c_t8⟩ := hh
  have z_t := blt hb1 (auz (alz (b := w.heap.size) (by simp)))
  have hh := bc18 hb1 (al18 (b := w.heap.size + 1) (by simp))
  obtain ⟨c_r0, c_r1, c_r2, c_r3, c_r4, c_r5, c_r6, c_r7, c_r8, c_r9, c_r10, c_r11, c_r12, c_r13, c_r14, c_r15, c_r16, c_r17⟩ := hh
  have hh := bf18 hb1 (alz (b := w.heap.size + 1) (by simp)) (alf18 (b := w.heap.size + 1) (by simp))
  obtain ⟨f_r0, f_r1, f_r2, f_r3, f_r4, f_r5, f_r6, f_r7, f_r8, f_r9, f_r10, f_r11, f_r12, f_r13, f_r14, f_r15, f_r16, f_r17⟩ := hh
  have z_r := blt hb1 (alz (b := w.heap.size + 1) (by simp))
  have hB1 : Below w.heap.size w w1 := by (exact xbel)
  have hz1 := z_r
  go_wp2_with fail
  refine (EM.out _).mono ?_
  rintro e w2 ⟨v1, v2, v3, v4, v5, v6, rfl, p1, p2, p3, p4, p5, p6, hb2⟩
  have hz_w2 := hb2.size
  try simp only [World.size_alloc, World.size_setCell] at hz_w2
  have hh := bc9 hb2 ⟨c_t0, c_t1, c_t2, c_t3, c_t4, c_t5, c_t6, c_t7, c_t8⟩
  clear c_t0 c_t1 c_t2 c_t3 c_t4 c_t5 c_t6 c_t7 c_t8
  obtain ⟨c_t0, c_t1, c_t2, c_t3, c_t4, c_t5, c_t6, c_t7, c_t8⟩ := hh
  replace z_t := blt hb2 z_t
  have hh := bc18 hb2 ⟨c_r0, c_r1, c_r2, c_r3, c_r4, c_r5, c_r6, c_r7, c_r8, c_r9, c_r10, c_r11, c_r12, c_r13, c_r14, c_r15, c_r16, c_r17⟩
  clear c_r0 c_r1 c_r2 c_r3 c_r4 c_r5 c_r6 c_r7 c_r8 c_r9 c_r10 c_r11 c_r12 c_r13 c_r14 c_r15 c_r16 c_r17
  obtain ⟨c_r0, c_r1, c_r2, c_r3, c_r4, c_r5, c_r6, c_r7, c_r8, c_r9, c_r10, c_r11, c_r12, c_r13, c_r14, c_r15, c_r16, c_r17⟩ := hh
  have hh := bf18 hb2 z_r ⟨f_r0, f_r1, f_r2, f_r3, f_r4, f_r5, f_r6, f_r7, f_r8, f_r9, f_r10, f_r11, f_r12, f_r13, f_r14, f_r15, f_r16, f_r17⟩
  clear f_r0 f_r1 f_r2 f_r3 f_r4 f_r5 f_r6 f_r7 f_r8 f_r9 f_r10 f_r11 f_r12 f_r13 f_r14 f_r15 f_r16 f_r17
  obtain ⟨f_r0, f_r1, f_r2, f_r3, f_r4, f_r5, f_r6, f_r7, f_r8, f_r9, f_r10, f_r11, f_r12, f_r13, f_r14, f_r15, f_r16, f_r17⟩ := hh
  replace z_r := blt hb2 z_r
  have hB2 := below_via hb2 hB1 hB1.size
  obtain ⟨a1, k1, rfl, -, -, -, -, -⟩ := row_of_owns p1
  obtain ⟨a2, k2, rfl, -, -, -, -, -⟩ := row_of_owns p2
  obtain ⟨a3, k3, rfl, -, -, -, -, -⟩ := row_of_owns p3
  obtain ⟨a4, k4, rfl, -, -, -, -, -⟩ := row_of_owns p4
  obtain ⟨a5, k5, rfl, -⟩ := owns_news p5
  obtain ⟨a6, k6, rfl, -⟩ := owns_news p6
  have HP := Lib.hid (And.intro p1 (And.intro p2 (And.intro p3 (And.intro p4 (And.intro p5 p6)))))
  clear p1 p2 p3 p4 p5 p6
  simp only [List.length_nil] at *
  go_wp2
  have HC := Lib.hid (some18 ⟨c_r0, c_r1, c_r2, c_r3, c_r4, c_r5, c_r6, c_r7, c_r8, c_r9, c_r10, c_r11, c_r12, c_r13, c_r14, c_r15, c_r16, c_r17⟩)
  refine bodyPost_ret (results_ct rfl rfl (run_loadVar_many _ Tryz.underlying33 rfl (by kernel_rfl) (setCs_all (W := w2) (b := w.heap.size + 1) (l := [.int .u8 c.tag, .int .i64 c.most, .int .i64 c.seg, .int .i64 c.least, .int .i64 c.den, .int .i64 c.ll, .int .i64 c.rl, .int .i64 c.rh, .int .i64 c.lh, .int .i64 d.seg, .slice a1 d.ws.length k1, .slice a2 d.ks.length k2, .slice a3 d.vs.length k3, .slice a4 d.cs.length k4, .int .u64 d.laid, .slice a5 0 k5, .slice a6 0 k6, .int .u64 0]) HC.out))) rfl ⟨_, _, _, _, _, _, rfl, ?_, ?_, ?_, ?_, ?_, ?_, ?_⟩
  · exact owns_base (setCs_owns (b := w.heap.size + 1) (i := 0) hz1 [.int .u8 c.tag, .int .i64 c.most, .int .i64 c.seg, .int .i64 c.least, .int .i64 c.den, .int .i64 c.ll, .int .i64 c.rl, .int .i64 c.rh, .int .i64 c.lh, .int .i64 d.seg, .slice a1 d.ws.length k1, .slice a2 d.ks.length k2, .slice a3 d.vs.length k3, .slice a4 d.cs.length k4, .int .u64 d.laid, .slice a5 0 k5, .slice a6 0 k6, .int .u64 0] HP.out.1) (by omega)
  · exact owns_base (setCs_owns (b := w.heap.size + 1) (i := 0) hz1 [.int .u8 c.tag, .int .i64 c.most, .int .i64 c.seg, .int .i64 c.least, .int .i64 c.den, .int .i64 c.ll, .int .i64 c.rl, .int .i64 c.rh, .int .i64 c.lh, .int .i64 d.seg, .slice a1 d.ws.length k1, .slice a2 d.ks.length k2, .slice a3 d.vs.length k3, .slice a4 d.cs.length k4, .int .u64 d.laid, .slice a5 0 k5, .slice a6 0 k6, .int .u64 0] HP.out.2.1) (by omega)
  · exact owns_base (setCs_owns (b := w.heap.size + 1) (i := 0) hz1 [.int .u8 c.tag, .int .i64 c.most, .int .i64 c.seg, .int .i64 c.least, .int .i64 c.den, .int .i64 c.ll, .int .i64 c.rl, .int .i64 c.rh, .int .i64 c.lh, .int .i64 d.seg, .slice a1 d.ws.length k1, .slice a2 d.ks.length k2, .slice a3 d.vs.length k3, .slice a4 d.cs.length k4, .int .u64 d.laid, .slice a5 0 k5, .slice a6 0 k6, .int .u64 0] HP.out.2.2.1) (by omega)
  · exact owns_base (setCs_owns (b := w.heap.size + 1) (i := 0) hz1 [.int .u8 c.tag, .int .i64 c.most, .int .i64 c.seg, .int .i64 c.least, .int .i64 c.den, .int .i64 c.ll, .int .i64 c.rl, .int .i64 c.rh, .int .i64 c.lh, .int .i64 d.seg, .slice a1 d.ws.length k1, .slice a2 d.ks.length k2, .slice a3 d.vs.length k3, .slice a4 d.cs.length k4, .int .u64 d.laid, .slice a5 0 k5, .slice a6 0 k6, .int .u64 0] HP.out.2.2.2.1) (by omega)
  · exact owns_base (setCs_owns (b := w.heap.size + 1) (i := 0) hz1 [.int .u8 c.tag, .int .i64 c.most, .int .i64 c.seg, .int .i64 c.least, .int .i64 c.den, .int .i64 c.ll, .int .i64 c.rl, .int .i64 c.rh, .int .i64 c.lh, .int .i64 d.seg, .slice a1 d.ws.length k1, .slice a2 d.ks.length k2, .slice a3 d.vs.length k3, .slice a4 d.cs.length k4, .int .u64 d.laid, .slice a5 0 k5, .slice a6 0 k6, .int .u64 0] HP.out.2.2.2.2.1) (by omega)
  · exact owns_base (setCs_owns (b := w.heap.size + 1) (i := 0) hz1 [.int .u8 c.tag, .int .i64 c.most, .int .i64 c.seg, .int .i64 c.least, .int .i64 c.den, .int .i64 c.ll, .int .i64 c.rl, .int .i64 c.rh, .int .i64 c.lh, .int .i64 d.seg, .slice a1 d.ws.length k1, .slice a2 d.ks.length k2, .slice a3 d.vs.length k3, .slice a4 d.cs.length k4, .int .u64 d.laid, .slice a5 0 k5, .slice a6 0 k6, .int .u64 0] HP.out.2.2.2.2.2) (by omega)
  · exact setCs_below (b := w.heap.size + 1) (by omega) [.int .u8 c.tag, .int .i64 c.most, .int .i64 c.seg, .int .i64 c.least, .int .i64 c.den, .int .i64 c.ll, .int .i64 c.rl, .int .i64 c.rh, .int .i64 c.lh, .int .i64 d.seg, .slice a1 d.ws.length k1, .slice a2 d.ks.length k2, .slice a3 d.vs.length k3, .slice a4 d.cs.length k4, .int .u64 d.laid, .slice a5 0 k5, .slice a6 0 k6, .int .u64 0] _ 0 hB2
theorem New15_ok (c : Cfg) (w : World) : Calls Tryz.prog 8 #[.agg #[.int .u8 c.tag, .int .i64 c.most, .int .i64 c.seg, .int .i64 c.least, .int .i64 c.den, .int .i64 c.ll, .int .i64 c.rl, .int .i64 c.rh, .int .i64 c.lh]] w (FreshOm2 w (newF c) (newC c) [] [] 0 (.int .i64 (cfE c))) := by
  cases h : cfMay c with
  | true =>
    have e : cfE c = 0 := cfE_ok h
    rw [newF, if_pos h, newC, if_pos h, e]
    exact New15_in c (emptyC c) w (Lib.hid fun W => e ▸ Check05_ok c W) (Lib.hid fun W => Empty15_ok c (emptyC c) W (Lib.hid fun W' => emptySl_ok h W'))
  | false =>
    have e : cfE c = 50 := by simp [cfE, h]
    rw [newF, if_neg (by simp [h]), newC, if_neg (by simp [h]), e]
    exact New15_err c 50 (by decide) w (Lib.hid fun W => e ▸ Check05_ok c W)
end Go.Proofs.YtjhpblejlchhjaaGreat

/- Merged: OmTg, OmTells. -/
import Derived.Test.YtjhpblejlchhjaaGreatOmTr
import Derived.Test.YtjhpblejlchhjaaGreatOmAl
import Derived.Test.YtjhpblejlchhjaaGreatOmTw
import Derived.Test.YtjhpblejlchhjaaGreatOmSpA
import Derived.Test.YtjhpblejlchhjaaGreatOmBs
namespace Go.Proofs.YtjhpblejlchhjaaGreat
set_option maxRecDepth 100000
set_option maxHeartbeats 4000000
set_option linter.unusedVariables false
set_option linter.unusedSimpArgs false
section
open Go.RowKit Go.Shelf Go.Sort

theorem OT_g1 (c : Cfg) (s : SlC) (wa ka va ca : Option Addr) (wc kc vc cc : Nat) (gs ps : List Int) (mv : Int) (ga pa : Option Addr) (gc pc : Nat) (d : Cfg) (t : SlC) (wa' ka' va' ca' : Option Addr) (wc' kc' vc' cc' : Nat) (gs' ps' : List Int) (mv' : Int) (ga' pa' : Option Addr) (gc' pc' : Nat) (n g n2 g2 : Int) (w : World) (h1 : grO 600 s gs ps = true) :
    Calls Tryz.prog 3 #[.agg #[.int .u8 c.tag, .int .i64 c.most, .int .i64 c.seg, .int .i64 c.least, .int .i64 c.den, .int .i64 c.ll, .int .i64 c.rl, .int .i64 c.rh, .int .i64 c.lh, .int .i64 s.seg, .slice wa s.ws.length wc, .slice ka s.ks.length kc, .slice va s.vs.length vc, .slice ca s.cs.length cc, .int .u64 s.laid, .slice ga gs.length gc, .slice pa ps.length pc, .int .u64 mv], .agg #[.int .u8 d.tag, .int .i64 d.most, .int .i64 d.seg, .int .i64 d.least, .int .i64 d.den, .int .i64 d.ll, .int .i64 d.rl, .int .i64 d.rh, .int .i64 d.lh, .int .i64 t.seg, .slice wa' t.ws.length wc', .slice ka' t.ks.length kc', .slice va' t.vs.length vc', .slice ca' t.cs.length cc', .int .u64 t.laid, .slice ga' gs'.length gc', .slice pa' ps'.length pc', .int .u64 mv'], .agg #[.int .i64 n, .int .i64 g], .agg #[.int .i64 n2, .int .i64 g2]] w (AnsB w (.bool true)) := by
  have G1 := Lib.hid (fun W => Great15_ok c s wa ka va ca wc kc vc cc gs ps mv ga pa gc pc 600 W)
  rw [h1] at G1
  clear h1
  go_enter Tryz.func3, Tryz.ntmps3
  go_upto_region 1 with (fail)
  generalize hw0 : ((((w.alloc (.cells #[.int .u8 c.tag, .int .i64 c.most, .int .i64 c.seg, .int .i64 c.least, .int .i64 c.den, .int .i64 c.ll, .int .i64 c.rl, .int .i64 c.rh, .int .i64 c.lh, .int .i64 s.seg, .slice wa s.ws.length wc, .slice ka s.ks.length kc, .slice va s.vs.length vc, .slice ca s.cs.length cc, .int .u64 s.laid, .slice ga gs.length gc, .slice pa ps.length pc, .int .u64 mv] 33)).alloc (.cells #[.int .u8 d.tag, .int .i64 d.most, .int .i64 d.seg, .int .i64 d.least, .int .i64 d.den, .int .i64 d.ll, .int .i64 d.rl, .int .i64 d.rh, .int .i64 d.lh, .int .i64 t.seg, .slice wa' t.ws.length wc', .slice ka' t.ks.length kc', .slice va' t.vs.length vc', .slice ca' t.cs.length cc', .int .u64 t.laid, .slice ga' gs'.length gc', .slice pa' ps'.length pc', .int .u64 mv'] 33)).alloc (.cells #[.int .i64 n, .int .i64 g] 35)).alloc (.cells #[.int .i64 n2, .int .i64 g2] 35)) = w0
  have hh := ec18 hw0 (au18 (au18 (au18 (al18 (b := w.heap.size) (by simp)))))
  obtain ⟨c_m0, c_m1, c_m2, c_m3, c_m4, c_m5, c_m6, c_m7, c_m8, c_m9, c_m10, c_m11, c_m12, c_m13, c_m14, c_m15, c_m16, c_m17⟩ := hh
  have z_m := elt hw0 (auz (auz (auz (alz (b := w.heap.size) (by simp)))))
  have hh := ec18 hw0 (au18 (au18 (al18 (b := w.heap.size + 1) (by simp))))
  obtain ⟨c_o0, c_o1, c_o2, c_o3, c_o4, c_o5, c_o6, c_o7, c_o8, c_o9, c_o10, c_o11, c_o12, c_o13, c_o14, c_o15, c_o16, c_o17⟩ := hh
  have z_o := elt hw0 (auz (auz (alz (b := w.heap.size + 1) (by simp))))
  have hh := ec2 hw0 (au2 (al2 (b := w.heap.size + 2) (by simp)))
  obtain ⟨c_h0, c_h1⟩ := hh
  have z_h := elt hw0 (auz (alz (b := w.heap.size + 2) (by simp)))
  have hh := ec2 hw0 (al2 (b := w.heap.size + 3) (by simp))
  obtain ⟨c_k0, c_k1⟩ := hh
  have z_k := elt hw0 (alz (b := w.heap.size + 3) (by simp))
  have HB0 : Hid (Below w.heap.size w w0) := by rw [← hw0]; exact Lib.hid (((((Below.refl _ _).alloc (by first | exact Nat.le_refl _ | (simp; done) | (simp; omega)) _).alloc (by first | exact Nat.le_refl _ | (simp; done) | (simp; omega)) _).alloc (by first | exact Nat.le_refl _ | (simp; done) | (simp; omega)) _).alloc (by first | exact Nat.le_refl _ | (simp; done) | (simp; omega)) _)
  clear hw0
  go_wp2_with (first | refine wpl_load 33 (.tmp 4) (w.heap.size) [.int .u8 c.tag, .int .i64 c.most, .int .i64 c.seg, .int .i64 c.least, .int .i64 c.den, .int .i64 c.ll, .int .i64 c.rl, .int .i64 c.rh, .int .i64 c.lh, .int .i64 s.seg, .slice wa s.ws.length wc, .slice ka s.ks.length kc, .slice va s.vs.length vc, .slice ca s.cs.length cc, .int .u64 s.laid, .slice ga gs.length gc, .slice pa ps.length pc, .int .u64 mv] rfl rfl rfl Tryz.underlying33 rfl (by kernel_rfl) (list18 ⟨c_m0, c_m1, c_m2, c_m3, c_m4, c_m5, c_m6, c_m7, c_m8, c_m9, c_m10, c_m11, c_m12, c_m13, c_m14, c_m15, c_m16, c_m17⟩) ?_ | refine wpl_load 33 (.tmp 5) (w.heap.size + 1) [.int .u8 d.tag, .int .i64 d.most, .int .i64 d.seg, .int .i64 d.least, .int .i64 d.den, .int .i64 d.ll, .int .i64 d.rl, .int .i64 d.rh, .int .i64 d.lh, .int .i64 t.seg, .slice wa' t.ws.length wc', .slice ka' t.ks.length kc', .slice va' t.vs.length vc', .slice ca' t.cs.length cc', .int .u64 t.laid, .slice ga' gs'.length gc', .slice pa' ps'.length pc', .int .u64 mv'] rfl rfl rfl Tryz.underlying33 rfl (by kernel_rfl) (list18 ⟨c_o0, c_o1, c_o2, c_o3, c_o4, c_o5, c_o6, c_o7, c_o8, c_o9, c_o10, c_o11, c_o12, c_o13, c_o14, c_o15, c_o16, c_o17⟩) ?_)
  go_wp2_with fail
  refine (G1.out _).mono ?_
  rintro e w1 ⟨rfl, hb1⟩
  have hz_w1 := hb1.size
  try simp only [World.size_alloc, World.size_setCell] at hz_w1
  have hh := bc18 hb1 ⟨c_m0, c_m1, c_m2, c_m3, c_m4, c_m5, c_m6, c_m7, c_m8, c_m9, c_m10, c_m11, c_m12, c_m13, c_m14, c_m15, c_m16, c_m17⟩
  clear c_m0 c_m1 c_m2 c_m3 c_m4 c_m5 c_m6 c_m7 c_m8 c_m9 c_m10 c_m11 c_m12 c_m13 c_m14 c_m15 c_m16 c_m17
  obtain ⟨c_m0, c_m1, c_m2, c_m3, c_m4, c_m5, c_m6, c_m7, c_m8, c_m9, c_m10, c_m11, c_m12, c_m13, c_m14, c_m15, c_m16, c_m17⟩ := hh
  replace z_m := blt hb1 z_m
  have hh := bc18 hb1 ⟨c_o0, c_o1, c_o2, c_o3, c_o4, c_o5, c_o6, c_o7, c_o8, c_o9, c_o10, c_o11, c_o12, c_o13, c_o14, c_o15, c_o16, c_o17⟩
  clear c_o0 c_o1 c_o2 c_o3 c_o4 c_o5 c_o6 c_o7 c_o8 c_o9 c_o10 c_o11 c_o12 c_o13 c_o14 c_o15 c_o16 c_o17
  obtain ⟨c_o0, c_o1, c_o2, c_o3, c_o4, c_o5, c_o6, c_o7, c_o8, c_o9, c_o10, c_o11, c_o12, c_o13, c_o14, c_o15, c_o16, c_o17⟩ := hh
  replace z_o := blt hb1 z_o
  have hh := bc2 hb1 ⟨c_h0, c_h1⟩
  clear c_h0 c_h1
  obtain ⟨c_h0, c_h1⟩ := hh
  replace z_h := blt hb1 z_h
  have hh := bc2 hb1 ⟨c_k0, c_k1⟩
  clear c_k0 c_k1
  obtain ⟨c_k0, c_k1⟩ := hh
  replace z_k := blt hb1 z_k
  have HB1 := Lib.hid (below_via hb1 HB0.out HB0.out.size)
  clear hb1
  go_wp2
  go_ret
  exact ⟨rfl, HB1.out⟩
theorem OT_g2 (c : Cfg) (s : SlC) (wa ka va ca : Option Addr) (wc kc vc cc : Nat) (gs ps : List Int) (mv : Int) (ga pa : Option Addr) (gc pc : Nat) (d : Cfg) (t : SlC) (wa' ka' va' ca' : Option Addr) (wc' kc' vc' cc' : Nat) (gs' ps' : List Int) (mv' : Int) (ga' pa' : Option Addr) (gc' pc' : Nat) (n g n2 g2 : Int) (w : World) (h1 : grO 600 s gs ps = false) (h2 : grO 600 t gs' ps' = true) :
    Calls Tryz.prog 3 #[.agg #[.int .u8 c.tag, .int .i64 c.most, .int .i64 c.seg, .int .i64 c.least, .int .i64 c.den, .int .i64 c.ll, .int .i64 c.rl, .int .i64 c.rh, .int .i64 c.lh, .int .i64 s.seg, .slice wa s.ws.length wc, .slice ka s.ks.length kc, .slice va s.vs.length vc, .slice ca s.cs.length cc, .int .u64 s.laid, .slice ga gs.length gc, .slice pa ps.length pc, .int .u64 mv], .agg #[.int .u8 d.tag, .int .i64 d.most, .int .i64 d.seg, .int .i64 d.least, .int .i64 d.den, .int .i64 d.ll, .int .i64 d.rl, .int .i64 d.rh, .int .i64 d.lh, .int .i64 t.seg, .slice wa' t.ws.length wc', .slice ka' t.ks.length kc', .slice va' t.vs.length vc', .slice ca' t.cs.length cc', .int .u64 t.laid, .slice ga' gs'.length gc', .slice pa' ps'.length pc', .int .u64 mv'], .agg #[.int .i64 n, .int .i64 g], .agg #[.int .i64 n2, .int .i64 g2]] w (AnsB w (.bool true)) := by
  have G1 := Lib.hid (fun W => Great15_ok c s wa ka va ca wc kc vc cc gs ps mv ga pa gc pc 600 W)
  rw [h1] at G1
  have G2 := Lib.hid (fun W => Great15_ok d t wa' ka' va' ca' wc' kc' vc' cc' gs' ps' mv' ga' pa' gc' pc' 600 W)
  rw [h2] at G2
  clear h1 h2
  go_enter Tryz.func3, Tryz.ntmps3
  go_upto_region 1 with (fail)
  generalize hw0 : ((((w.alloc (.cells #[.int .u8 c.tag, .int .i64 c.most, .int .i64 c.seg, .int .i64 c.least, .int .i64 c.den, .int .i64 c.ll, .int .i64 c.rl, .int .i64 c.rh, .int .i64 c.lh, .int .i64 s.seg, .slice wa s.ws.length wc, .slice ka s.ks.length kc, .slice va s.vs.length vc, .slice ca s.cs.length cc, .int .u64 s.laid, .slice ga gs.length gc, .slice pa ps.length pc, .int .u64 mv] 33)).alloc (.cells #[.int .u8 d.tag, .int .i64 d.most, .int .i64 d.seg, .int .i64 d.least, .int .i64 d.den, .int .i64 d.ll, .int .i64 d.rl, .int .i64 d.rh, .int .i64 d.lh, .int .i64 t.seg, .slice wa' t.ws.length wc', .slice ka' t.ks.length kc', .slice va' t.vs.length vc', .slice ca' t.cs.length cc', .int .u64 t.laid, .slice ga' gs'.length gc', .slice pa' ps'.length pc', .int .u64 mv'] 33)).alloc (.cells #[.int .i64 n, .int .i64 g] 35)).alloc (.cells #[.int .i64 n2, .int .i64 g2] 35)) = w0
  have hh := ec18 hw0 (au18 (au18 (au18 (al18 (b := w.heap.size) (by simp)))))
  obtain ⟨c_m0, c_m1, c_m2, c_m3, c_m4, c_m5, c_m6, c_m7, c_m8, c_m9, c_m10, c_m11, c_m12, c_m13, c_m14, c_m15, c_m16, c_m17⟩ := hh
  have z_m := elt hw0 (auz (auz (auz (alz (b := w.heap.size) (by simp)))))
  have hh := ec18 hw0 (au18 (au18 (al18 (b := w.heap.size + 1) (by simp))))
  obtain ⟨c_o0, c_o1, c_o2, c_o3, c_o4, c_o5, c_o6, c_o7, c_o8, c_o9, c_o10, c_o11, c_o12, c_o13, c_o14, c_o15, c_o16, c_o17⟩ := hh
  have z_o := elt hw0 (auz (auz (alz (b := w.heap.size + 1) (by simp))))
  have hh := ec2 hw0 (au2 (al2 (b := w.heap.size + 2) (by simp)))
  obtain ⟨c_h0, c_h1⟩ := hh
  have z_h := elt hw0 (auz (alz (b := w.heap.size + 2) (by simp)))
  have hh := ec2 hw0 (al2 (b := w.heap.size + 3) (by simp))
  obtain ⟨c_k0, c_k1⟩ := hh
  have z_k := elt hw0 (alz (b := w.heap.size + 3) (by simp))
  have HB0 : Hid (Below w.heap.size w w0) := by rw [← hw0]; exact Lib.hid (((((Below.refl _ _).alloc (by first | exact Nat.le_refl _ | (simp; done) | (simp; omega)) _).alloc (by first | exact Nat.le_refl _ | (simp; done) | (simp; omega)) _).alloc (by first | exact Nat.le_refl _ | (simp; done) | (simp; omega)) _).alloc (by first | exact Nat.le_refl _ | (simp; done) | (simp; omega)) _)
  clear hw0
  go_wp2_with (first | refine wpl_load 33 (.tmp 4) (w.heap.size) [.int .u8 c.tag, .int .i64 c.most, .int .i64 c.seg, .int .i64 c.least, .int .i64 c.den, .int .i64 c.ll, .int .i64 c.rl, .int .i64 c.rh, .int .i64 c.lh, .int .i64 s.seg, .slice wa s.ws.length wc, .slice ka s.ks.length kc, .slice va s.vs.length vc, .slice ca s.cs.length cc, .int .u64 s.laid, .slice ga gs.length gc, .slice pa ps.length pc, .int .u64 mv] rfl rfl rfl Tryz.underlying33 rfl (by kernel_rfl) (list18 ⟨c_m0, c_m1, c_m2, c_m3, c_m4, c_m5, c_m6, c_m7, c_m8, c_m9, c_m10, c_m11, c_m12, c_m13, c_m14, c_m15, c_m16, c_m17⟩) ?_ | refine wpl_load 33 (.tmp 5) (w.heap.size + 1) [.int .u8 d.tag, .int .i64 d.most, .int .i64 d.seg, .int .i64 d.least, .int .i64 d.den, .int .i64 d.ll, .int .i64 d.rl, .int .i64 d.rh, .int .i64 d.lh, .int .i64 t.seg, .slice wa' t.ws.length wc', .slice ka' t.ks.length kc', .slice va' t.vs.length vc', .slice ca' t.cs.length cc', .int .u64 t.laid, .slice ga' gs'.length gc', .slice pa' ps'.length pc', .int .u64 mv'] rfl rfl rfl Tryz.underlying33 rfl (by kernel_rfl) (list18 ⟨c_o0, c_o1, c_o2, c_o3, c_o4, c_o5, c_o6, c_o7, c_o8, c_o9, c_o10, c_o11, c_o12, c_o13, c_o14, c_o15, c_o16, c_o17⟩) ?_)
  go_wp2_with fail
  refine (G1.out _).mono ?_
  rintro e w1 ⟨rfl, hb1⟩
  have hz_w1 := hb1.size
  try simp only [World.size_alloc, World.size_setCell] at hz_w1
  have hh := bc18 hb1 ⟨c_m0, c_m1, c_m2, c_m3, c_m4, c_m5, c_m6, c_m7, c_m8, c_m9, c_m10, c_m11, c_m12, c_m13, c_m14, c_m15, c_m16, c_m17⟩
  clear c_m0 c_m1 c_m2 c_m3 c_m4 c_m5 c_m6 c_m7 c_m8 c_m9 c_m10 c_m11 c_m12 c_m13 c_m14 c_m15 c_m16 c_m17
  obtain ⟨c_m0, c_m1, c_m2, c_m3, c_m4, c_m5, c_m6, c_m7, c_m8, c_m9, c_m10, c_m11, c_m12, c_m13, c_m14, c_m15, c_m16, c_m17⟩ := hh
  replace z_m := blt hb1 z_m
  have hh := bc18 hb1 ⟨c_o0, c_o1, c_o2, c_o3, c_o4, c_o5, c_o6, c_o7, c_o8, c_o9, c_o10, c_o11, c_o12, c_o13, c_o14, c_o15, c_o16, c_o17⟩
  clear c_o0 c_o1 c_o2 c_o3 c_o4 c_o5 c_o6 c_o7 c_o8 c_o9 c_o10 c_o11 c_o12 c_o13 c_o14 c_o15 c_o16 c_o17
  obtain ⟨c_o0, c_o1, c_o2, c_o3, c_o4, c_o5, c_o6, c_o7, c_o8, c_o9, c_o10, c_o11, c_o12, c_o13, c_o14, c_o15, c_o16, c_o17⟩ := hh
  replace z_o := blt hb1 z_o
  have hh := bc2 hb1 ⟨c_h0, c_h1⟩
  clear c_h0 c_h1
  obtain ⟨c_h0, c_h1⟩ := hh
  replace z_h := blt hb1 z_h
  have hh := bc2 hb1 ⟨c_k0, c_k1⟩
  clear c_k0 c_k1
  obtain ⟨c_k0, c_k1⟩ := hh
  replace z_k := blt hb1 z_k
  have HB1 := Lib.hid (below_via hb1 HB0.out HB0.out.size)
  clear hb1
  go_wp2_with (first | refine wpl_load 33 (.tmp 4) (w.heap.size) [.int .u8 c.tag, .int .i64 c.most, .int .i64 c.seg, .int .i64 c.least, .int .i64 c.den, .int .i64 c.ll, .int .i64 c.rl, .int .i64 c.rh, .int .i64 c.lh, .int .i64 s.seg, .slice wa s.ws.length wc, .slice ka s.ks.length kc, .slice va s.vs.length vc, .slice ca s.cs.length cc, .int .u64 s.laid, .slice ga gs.length gc, .slice pa ps.length pc, .int .u64 mv] rfl rfl rfl Tryz.underlying33 rfl (by kernel_rfl) (list18 ⟨c_m0, c_m1, c_m2, c_m3, c_m4, c_m5, c_m6, c_m7, c_m8, c_m9, c_m10, c_m11, c_m12, c_m13, c_m14, c_m15, c_m16, c_m17⟩) ?_ | refine wpl_load 33 (.tmp 5) (w.heap.size + 1) [.int .u8 d.tag, .int .i64 d.most, .int .i64 d.seg, .int .i64 d.least, .int .i64 d.den, .int .i64 d.ll, .int .i64 d.rl, .int .i64 d.rh, .int .i64 d.lh, .int .i64 t.seg, .slice wa' t.ws.length wc', .slice ka' t.ks.length kc', .slice va' t.vs.length vc', .slice ca' t.cs.length cc', .int .u64 t.laid, .slice ga' gs'.length gc', .slice pa' ps'.length pc', .int .u64 mv'] rfl rfl rfl Tryz.underlying33 rfl (by kernel_rfl) (list18 ⟨c_o0, c_o1, c_o2, c_o3, c_o4, c_o5, c_o6, c_o7, c_o8, c_o9, c_o10, c_o11, c_o12, c_o13, c_o14, c_o15, c_o16, c_o17⟩) ?_)
  go_wp2_with fail
  refine (G2.out _).mono ?_
  rintro e w2 ⟨rfl, hb2⟩
  have hz_w2 := hb2.size
  try simp only [World.size_alloc, World.size_setCell] at hz_w2
  have hh := bc18 hb2 ⟨c_m0, c_m1, c_m2, c_m3, c_m4, c_m5, c_m6, c_m7, c_m8, c_m9, c_m10, c_m11, c_m12, c_m13, c_m14, c_m15, c_m16, c_m17⟩
  clear c_m0 c_m1 c_m2 c_m3 c_m4 c_m5 c_m6 c_m7 c_m8 c_m9 c_m10 c_m11 c_m12 c_m13 c_m14 c_m15 c_m16 c_m17
  obtain ⟨c_m0, c_m1, c_m2, c_m3, c_m4, c_m5, c_m6, c_m7, c_m8, c_m9, c_m10, c_m11, c_m12, c_m13, c_m14, c_m15, c_m16, c_m17⟩ := hh
  replace z_m := blt hb2 z_m
  have hh := bc18 hb2 ⟨c_o0, c_o1, c_o2, c_o3, c_o4, c_o5, c_o6, c_o7, c_o8, c_o9, c_o10, c_o11, c_o12, c_o13, c_o14, c_o15, c_o16, c_o17⟩
  clear c_o0 c_o1 c_o2 c_o3 c_o4 c_o5 c_o6 c_o7 c_o8 c_o9 c_o10 c_o11 c_o12 c_o13 c_o14 c_o15 c_o16 c_o17
  obtain ⟨c_o0, c_o1, c_o2, c_o3, c_o4, c_o5, c_o6, c_o7, c_o8, c_o9, c_o10, c_o11, c_o12, c_o13, c_o14, c_o15, c_o16, c_o17⟩ := hh
  replace z_o := blt hb2 z_o
  have hh := bc2 hb2 ⟨c_h0, c_h1⟩
  clear c_h0 c_h1
  obtain ⟨c_h0, c_h1⟩ := hh
  replace z_h := blt hb2 z_h
  have hh := bc2 hb2 ⟨c_k0, c_k1⟩
  clear c_k0 c_k1
  obtain ⟨c_k0, c_k1⟩ := hh
  replace z_k := blt hb2 z_k
  have HB2 := Lib.hid (below_via hb2 HB1.out HB1.out.size)
  clear hb2
  go_wp2
  go_ret
  exact ⟨rfl, HB2.out⟩
structure OmIn (w : World) (s : SlC) (gs ps : List Int) (a : SlA) (ga pa : Option Addr) : Prop where
  sl : SlIn w s a
  g : IsRow .i64 w ga gs
  p : IsRow .i64 w pa ps
theorem OmIn.below {w w' : World} {s : SlC} {gs ps : List Int} {a : SlA} {ga pa : Option Addr} (h : OmIn w s gs ps a ga pa) (hb : Below w.heap.size w w') : OmIn w' s gs ps a ga pa := ⟨h.sl.below hb, h.g.below hb, h.p.below hb⟩
end

section
open Go.RowKit Go.Shelf Go.Sort

theorem OT_in (c : Cfg) (s : SlC) (wa ka va ca : Option Addr) (wc kc vc cc : Nat) (gs ps : List Int) (mv : Int) (ga pa : Option Addr) (gc pc : Nat) (d : Cfg) (t : SlC) (wa' ka' va' ca' : Option Addr) (wc' kc' vc' cc' : Nat) (gs' ps' : List Int) (mv' : Int) (ga' pa' : Option Addr) (gc' pc' : Nat) (n g n2 g2 : Int) (w : World) (h1 : grO 600 s gs ps = false) (h2 : grO 600 t gs' ps' = false) (nf : Cfg) (nc : SlC) (ll : List (Int × Int)) (ce pe cv cx lv lx : Int) (bb : Bool) (hu : U64s s.ws) (hnu : U64s nc.ws) (b1 : s.ks.length ≤ 1000000000) (b2 : s.cs.length ≤ 1000000000) (b3 : gs.length ≤ 1000000000) (b4 : ps.length ≤ 1000000000)
    (TW : Hid (∀ (W : World), Below w.heap.size w W → Calls Tryz.prog 5 #[.agg #[.int .u8 c.tag, .int .i64 c.most, .int .i64 c.seg, .int .i64 c.least, .int .i64 c.den, .int .i64 c.ll, .int .i64 c.rl, .int .i64 c.rh, .int .i64 c.lh, .int .i64 s.seg, .slice wa s.ws.length wc, .slice ka s.ks.length kc, .slice va s.vs.length vc, .slice ca s.cs.length cc, .int .u64 s.laid, .slice ga gs.length gc, .slice pa ps.length pc, .int .u64 mv]] W (FreshOm W c s gs ps mv)))
    (PT : Hid (∀ (W : World) (a2 : SlA) (g3 p3 : Option Addr) (gc3 pc3 : Nat), Below w.heap.size w W → OmIn W s gs ps a2 g3 p3 → Calls Tryz.prog 6 #[omV c s a2.wa a2.ka a2.va a2.ca a2.wc a2.kc a2.vc a2.cc gs ps mv g3 p3 gc3 pc3] W (FreshOm W c s gs ps mv)))
    (NW : Hid (∀ (W : World), Below w.heap.size w W → Calls Tryz.prog 7 #[.agg #[.int .u8 c.tag, .int .i64 c.most, .int .i64 c.seg, .int .i64 c.least, .int .i64 c.den, .int .i64 c.ll, .int .i64 c.rl, .int .i64 c.rh, .int .i64 c.lh]] W (FreshOm2 W nf nc [] [] 0 (.int .i64 ce))))
    (NR : Hid (∀ (W : World), Below w.heap.size w W → Calls Tryz.prog 8 #[.agg #[.int .u8 c.tag, .int .i64 c.most, .int .i64 c.seg, .int .i64 c.least, .int .i64 c.den, .int .i64 c.ll, .int .i64 c.rl, .int .i64 c.rh, .int .i64 c.lh]] W (FreshOm2 W nf nc [] [] 0 (.int .i64 ce))))
    (LS : Hid (∀ (W : World) (a2 : SlA) (g3 p3 : Option Addr) (gc3 pc3 : Nat), Below w.heap.size w W → OmIn W s gs ps a2 g3 p3 → s.cs.length ≤ a2.cc → Calls Tryz.prog 9 #[omV c s a2.wa a2.ka a2.va a2.ca a2.wc a2.kc a2.vc a2.cc gs ps mv g3 p3 gc3 pc3] W (FreshHd2 W ll (.int .i64 pe))))
    (LR : Hid (∀ (W : World), Below w.heap.size w W → Calls Tryz.prog 10 #[.agg #[.int .u8 c.tag, .int .i64 c.most, .int .i64 c.seg, .int .i64 c.least, .int .i64 c.den, .int .i64 c.ll, .int .i64 c.rl, .int .i64 c.rh, .int .i64 c.lh, .int .i64 s.seg, .slice wa s.ws.length wc, .slice ka s.ks.length kc, .slice va s.vs.length vc, .slice ca s.cs.length cc, .int .u64 s.laid, .slice ga gs.length gc, .slice pa ps.length pc, .int .u64 mv]] W (FreshHd2 W ll (.int .i64 pe))))
    (CP : Hid (∀ (W : World) (a2 : SlA) (g3 p3 : Option Addr) (gc3 pc3 : Nat), Below w.heap.size w W → OmIn W s gs ps a2 g3 p3 → s.cs.length ≤ a2.cc → Calls Tryz.prog 11 #[omV c s a2.wa a2.ka a2.va a2.ca a2.wc a2.kc a2.vc a2.cc gs ps mv g3 p3 gc3 pc3, .agg #[.int .i64 n, .int .i64 g], .agg #[.int .i64 n2, .int .i64 g2]] W (AnsB W (.tuple #[.int .i64 cv, .int .i64 cx]))))
    (CR : Hid (∀ (W : World), Below w.heap.size w W → Calls Tryz.prog 12 #[.agg #[.int .u8 c.tag, .int .i64 c.most, .int .i64 c.seg, .int .i64 c.least, .int .i64 c.den, .int .i64 c.ll, .int .i64 c.rl, .int .i64 c.rh, .int .i64 c.lh, .int .i64 s.seg, .slice wa s.ws.length wc, .slice ka s.ks.length kc, .slice va s.vs.length vc, .slice ca s.cs.length cc, .int .u64 s.laid, .slice ga gs.length gc, .slice pa ps.length pc, .int .u64 mv], .agg #[.int .i64 n, .int .i64 g], .agg #[.int .i64 n2, .int .i64 g2]] W (AnsB W (.tuple #[.int .i64 cv, .int .i64 cx]))))
    (LB : Hid (∀ (W : World) (a2 : SlA) (g3 p3 : Option Addr) (gc3 pc3 : Nat), Below w.heap.size w W → OmIn W s gs ps a2 g3 p3 → s.cs.length ≤ a2.cc → Calls Tryz.prog 13 #[omV c s a2.wa a2.ka a2.va a2.ca a2.wc a2.kc a2.vc a2.cc gs ps mv g3 p3 gc3 pc3, .agg #[.int .i64 n, .int .i64 g]] W (AnsB W (.tuple #[.int .i64 lv, .int .i64 lx]))))
    (LQ : Hid (∀ (W : World), Below w.heap.size w W → Calls Tryz.prog 14 #[.agg #[.int .u8 c.tag, .int .i64 c.most, .int .i64 c.seg, .int .i64 c.least, .int .i64 c.den, .int .i64 c.ll, .int .i64 c.rl, .int .i64 c.rh, .int .i64 c.lh, .int .i64 s.seg, .slice wa s.ws.length wc, .slice ka s.ks.length kc, .slice va s.vs.length vc, .slice ca s.cs.length cc, .int .u64 s.laid, .slice ga gs.length gc, .slice pa ps.length pc, .int .u64 mv], .agg #[.int .i64 n, .int .i64 g]] W (AnsB W (.tuple #[.int .i64 lv, .int .i64 lx]))))
    (CO : Hid (∀ (W : World) (a2 : SlA) (g3 p3 : Option Addr) (gc3 pc3 : Nat), Below w.heap.size w W → OmIn W s gs ps a2 g3 p3 → s.cs.length ≤ a2.cc → Calls Tryz.prog 15 #[omV c s a2.wa a2.ka a2.va a2.ca a2.wc a2.kc a2.vc a2.cc gs ps mv g3 p3 gc3 pc3] W (AnsB W (.int .i64 pe))))
    (CM : Hid (∀ (W : World), Below w.heap.size w W → Calls Tryz.prog 16 #[.agg #[.int .u8 c.tag, .int .i64 c.most, .int .i64 c.seg, .int .i64 c.least, .int .i64 c.den, .int .i64 c.ll, .int .i64 c.rl, .int .i64 c.rh, .int .i64 c.lh, .int .i64 s.seg, .slice wa s.ws.length wc, .slice ka s.ks.length kc, .slice va s.vs.length vc, .slice ca s.cs.length cc, .int .u64 s.laid, .slice ga gs.length gc, .slice pa ps.length pc, .int .u64 mv]] W (AnsB W (.int .i64 pe))))
    (S1 : Hid (∀ (W : World) (a2 : SlA) (g3 p3 : Option Addr) (gc3 pc3 : Nat), Below w.heap.size w W → OmIn W s gs ps a2 g3 p3 → Calls Tryz.prog 17 #[omV c s a2.wa a2.ka a2.va a2.ca a2.wc a2.kc a2.vc a2.cc gs ps mv g3 p3 gc3 pc3, .agg #[.int .u8 d.tag, .int .i64 d.most, .int .i64 d.seg, .int .i64 d.least, .int .i64 d.den, .int .i64 d.ll, .int .i64 d.rl, .int .i64 d.rh, .int .i64 d.lh, .int .i64 t.seg, .slice wa' t.ws.length wc', .slice ka' t.ks.length kc', .slice va' t.vs.length vc', .slice ca' t.cs.length cc', .int .u64 t.laid, .slice ga' gs'.length gc', .slice pa' ps'.length pc', .int .u64 mv']] W (AnsB W (.bool bb))))
    (S2 : Hid (∀ (W : World), Below w.heap.size w W → Calls Tryz.prog 18 #[.agg #[.int .u8 c.tag, .int .i64 c.most, .int .i64 c.seg, .int .i64 c.least, .int .i64 c.den, .int .i64 c.ll, .int .i64 c.rl, .int .i64 c.rh, .int .i64 c.lh, .int .i64 s.seg, .slice wa s.ws.length wc, .slice ka s.ks.length kc, .slice va s.vs.length vc, .slice ca s.cs.length cc, .int .u64 s.laid, .slice ga gs.length gc, .slice pa ps.length pc, .int .u64 mv], .agg #[.int .u8 d.tag, .int .i64 d.most, .int .i64 d.seg, .int .i64 d.least, .int .i64 d.den, .int .i64 d.ll, .int .i64 d.rl, .int .i64 d.rh, .int .i64 d.lh, .int .i64 t.seg, .slice wa' t.ws.length wc', .slice ka' t.ks.length kc', .slice va' t.vs.length vc', .slice ca' t.cs.length cc', .int .u64 t.laid, .slice ga' gs'.length gc', .slice pa' ps'.length pc', .int .u64 mv']] W (AnsB W (.bool bb))))
    (S3 : Hid (∀ (W : World) (a2 : SlA) (g3 p3 : Option Addr) (gc3 pc3 : Nat), Below w.heap.size w W → OmIn W s gs ps a2 g3 p3 → Calls Tryz.prog 17 #[omV c s a2.wa a2.ka a2.va a2.ca a2.wc a2.kc a2.vc a2.cc gs ps mv g3 p3 gc3 pc3, .agg #[.int .u8 c.tag, .int .i64 c.most, .int .i64 c.seg, .int .i64 c.least, .int .i64 c.den, .int .i64 c.ll, .int .i64 c.rl, .int .i64 c.rh, .int .i64 c.lh, .int .i64 s.seg, .slice wa s.ws.length wc, .slice ka s.ks.length kc, .slice va s.vs.length vc, .slice ca s.cs.length cc, .int .u64 s.laid, .slice ga gs.length gc, .slice pa ps.length pc, .int .u64 mv]] W (AnsB W (.bool true))))
    (S4 : Hid (∀ (W : World) (a2 : SlA) (g3 p3 : Option Addr) (gc3 pc3 : Nat), Below w.heap.size w W → OmIn W s gs ps a2 g3 p3 → Calls Tryz.prog 18 #[omV c s a2.wa a2.ka a2.va a2.ca a2.wc a2.kc a2.vc a2.cc gs ps mv g3 p3 gc3 pc3, .agg #[.int .u8 c.tag, .int .i64 c.most, .int .i64 c.seg, .int .i64 c.least, .int .i64 c.den, .int .i64 c.ll, .int .i64 c.rl, .int .i64 c.rh, .int .i64 c.lh, .int .i64 s.seg, .slice wa s.ws.length wc, .slice ka s.ks.length kc, .slice va s.vs.length vc, .slice ca s.cs.length cc, .int .u64 s.laid, .slice ga gs.length gc, .slice pa ps.length pc, .int .u64 mv]] W (AnsB W (.bool true))))
    (S5 : Hid (∀ (W : World) (a2 : SlA) (g3 p3 : Option Addr) (gc3 pc3 : Nat) (a3 : SlA) (g4 p4 : Option Addr) (gc4 pc4 : Nat), Below w.heap.size w W → SlIn W nc a2 → SlIn W nc a3 → Calls Tryz.prog 18 #[omV nf nc a2.wa a2.ka a2.va a2.ca a2.wc a2.kc a2.vc a2.cc [] [] 0 g3 p3 gc3 pc3, omV nf nc a3.wa a3.ka a3.va a3.ca a3.wc a3.kc a3.vc a3.cc [] [] 0 g4 p4 gc4 pc4] W (AnsB W (.bool true))))
    (SH : Hid (∀ (W : World) (xa ya : Option Addr) (xc yc : Nat), IsRow .i64 W xa (prI ll) → IsRow .i64 W ya (prI ll) → Calls Tryz.prog 20 #[.slice xa ll.length xc, .slice ya ll.length yc] W (AnsB W (.bool true)))) :
    Calls Tryz.prog 3 #[.agg #[.int .u8 c.tag, .int .i64 c.most, .int .i64 c.seg, .int .i64 c.least, .int .i64 c.den, .int .i64 c.ll, .int .i64 c.rl, .int .i64 c.rh, .int .i64 c.lh, .int .i64 s.seg, .slice wa s.ws.length wc, .slice ka s.ks.length kc, .slice va s.vs.length vc, .slice ca s.cs.length cc, .int .u64 s.laid, .slice ga gs.length gc, .slice pa ps.length pc, .int .u64 mv], .agg #[.int .u8 d.tag, .int .i64 d.most, .int .i64 d.seg, .int .i64 d.least, .int .i64 d.den, .int .i64 d.ll, .int .i64 d.rl, .int .i64 d.rh, .int .i64 d.lh, .int .i64 t.seg, .slice wa' t.ws.length wc', .slice ka' t.ks.length kc', .slice va' t.vs.length vc', .slice ca' t.cs.length cc', .int .u64 t.laid, .slice ga' gs'.length gc', .slice pa' ps'.length pc', .int .u64 mv'], .agg #[.int .i64 n, .int .i64 g], .agg #[.int .i64 n2, .int .i64 g2]] w (AnsB w (.bool true)) := by
  have G1 := Lib.hid (fun W => Great15_ok c s wa ka va ca wc kc vc cc gs ps mv ga pa gc pc 600 W)
  rw [h1] at G1
  have G2 := Lib.hid (fun W => Great15_ok d t wa' ka' va' ca' wc' kc' vc' cc' gs' ps' mv' ga' pa' gc' pc' 600 W)
  rw [h2] at G2
  have HU := Lib.hid hu
  have HNU := Lib.hid hnu
  have HBD := Lib.hid (And.intro b1 (And.intro b2 (And.intro b3 b4)))
  have eq0 : (pe == pe) = true := by simp
  have eq1 : (bb == bb) = true := by simp
  have eq2 : (ce == ce) = true := by simp
  have eq3 : (cv == cv) = true := by simp
  have eq4 : (cx == cx) = true := by simp
  have eq5 : (lv == lv) = true := by simp
  have eq6 : (lx == lx) = true := by simp
  clear h1 h2 hu hnu b1 b2 b3 b4
  go_enter Tryz.func3, Tryz.ntmps3
  go_upto_region 1 with (fail)
  generalize hw0 : ((((w.alloc (.cells #[.int .u8 c.tag, .int .i64 c.most, .int .i64 c.seg, .int .i64 c.least, .int .i64 c.den, .int .i64 c.ll, .int .i64 c.rl, .int .i64 c.rh, .int .i64 c.lh, .int .i64 s.seg, .slice wa s.ws.length wc, .slice ka s.ks.length kc, .slice va s.vs.length vc, .slice ca s.cs.length cc, .int .u64 s.laid, .slice ga gs.length gc, .slice pa ps.length pc, .int .u64 mv] 33)).alloc (.cells #[.int .u8 d.tag, .int .i64 d.most, .int .i64 d.seg, .int .i64 d.least, .int .i64 d.den, .int .i64 d.ll, .int .i64 d.rl, .int .i64 d.rh, .int .i64 d.lh, .int .i64 t.seg, .slice wa' t.ws.length wc', .slice ka' t.ks.length kc', .slice va' t.vs.length vc', .slice ca' t.cs.length cc', .int .u64 t.laid, .slice ga' gs'.length gc', .slice pa' ps'.length pc', .int .u64 mv'] 33)).alloc (.cells #[.int .i64 n, .int .i64 g] 35)).alloc (.cells #[.int .i64 n2, .int .i64 g2] 35)) = w0
  have P_m : Hid (PB w0 (w.heap.size) [.int .u8 c.tag, .int .i64 c.most, .int .i64 c.seg, .int .i64 c.least, .int .i64 c.den, .int .i64 c.ll, .int .i64 c.rl, .int .i64 c.rh, .int .i64 c.lh, .int .i64 s.seg, .slice wa s.ws.length wc, .slice ka s.ks.length kc, .slice va s.vs.length vc, .slice ca s.cs.length cc, .int .u64 s.laid, .slice ga gs.length gc, .slice pa ps.length pc, .int .u64 mv]) := by rw [← hw0]; exact Lib.hid (pb_alloc (pb_alloc (pb_alloc (pb_new _ _ _ (by simp)) (by simp only [World.size_alloc]; omega) _) (by simp only [World.size_alloc]; omega) _) (by simp only [World.size_alloc]; omega) _)
  have Z_m : w.heap.size < w0.heap.size := by rw [← hw0]; simp only [World.size_alloc]; omega
  have P_o : Hid (PB w0 (w.heap.size + 1) [.int .u8 d.tag, .int .i64 d.most, .int .i64 d.seg, .int .i64 d.least, .int .i64 d.den, .int .i64 d.ll, .int .i64 d.rl, .int .i64 d.rh, .int .i64 d.lh, .int .i64 t.seg, .slice wa' t.ws.length wc', .slice ka' t.ks.length kc', .slice va' t.vs.length vc', .slice ca' t.cs.length cc', .int .u64 t.laid, .slice ga' gs'.length gc', .slice pa' ps'.length pc', .int .u64 mv']) := by rw [← hw0]; exact Lib.hid (pb_alloc (pb_alloc (pb_new _ _ _ (by simp)) (by simp only [World.size_alloc]; omega) _) (by simp only [World.size_alloc]; omega) _)
  have Z_o : w.heap.size + 1 < w0.heap.size := by rw [← hw0]; simp only [World.size_alloc]; omega
  have c_h0 : w0.cell? ⟨w.heap.size + 2, 0, none⟩ = some (.int .i64 n) := by rw [← hw0]; (exact xcg)
  have c_h1 : w0.cell? ⟨w.heap.size + 2, 1, none⟩ = some (.int .i64 g) := by rw [← hw0]; (exact xcg)
  have z_h : w.heap.size + 2 < w0.heap.size := by rw [← hw0]; (exact xlt)
  have c_k0 : w0.cell? ⟨w.heap.size + 3, 0, none⟩ = some (.int .i64 n2) := by rw [← hw0]; (exact xcg)
  have c_k1 : w0.cell? ⟨w.heap.size + 3, 1, none⟩ = some (.int .i64 g2) := by rw [← hw0]; (exact xcg)
  have z_k : w.heap.size + 3 < w0.heap.size := by rw [← hw0]; (exact xlt)
  have HB0 : Hid (Below w.heap.size w w0) := by rw [← hw0]; exact Lib.hid (((((Below.refl _ _).alloc (by first | exact Nat.le_refl _ | (simp; done) | (simp; omega)) _).alloc (by first | exact Nat.le_refl _ | (simp; done) | (simp; omega)) _).alloc (by first | exact Nat.le_refl _ | (simp; done) | (simp; omega)) _).alloc (by first | exact Nat.le_refl _ | (simp; done) | (simp; omega)) _)
  clear hw0
  generalize HVm : Value.agg #[.int .u8 c.tag, .int .i64 c.most, .int .i64 c.seg, .int .i64 c.least, .int .i64 c.den, .int .i64 c.ll, .int .i64 c.rl, .int .i64 c.rh, .int .i64 c.lh, .int .i64 s.seg, .slice wa s.ws.length wc, .slice ka s.ks.length kc, .slice va s.vs.length vc, .slice ca s.cs.length cc, .int .u64 s.laid, .slice ga gs.length gc, .slice pa ps.length pc, .int .u64 mv] = v_m at G1 TW LR CR LQ ⊢
  have HV_m := Lib.hid HVm
  clear HVm
  generalize HVo : Value.agg #[.int .u8 d.tag, .int .i64 d.most, .int .i64 d.seg, .int .i64 d.least, .int .i64 d.den, .int .i64 d.ll, .int .i64 d.rl, .int .i64 d.rh, .int .i64 d.lh, .int .i64 t.seg, .slice wa' t.ws.length wc', .slice ka' t.ks.length kc', .slice va' t.vs.length vc', .slice ca' t.cs.length cc', .int .u64 t.laid, .slice ga' gs'.length gc', .slice pa' ps'.length pc', .int .u64 mv'] = v_o at G2 ⊢
  have HV_o := Lib.hid HVo
  clear HVo
  go_wp2_with (first | refine wpl_loadv 33 (.tmp 4) (w.heap.size) [.int .u8 c.tag, .int .i64 c.most, .int .i64 c.seg, .int .i64 c.least, .int .i64 c.den, .int .i64 c.ll, .int .i64 c.rl, .int .i64 c.rh, .int .i64 c.lh, .int .i64 s.seg, .slice wa s.ws.length wc, .slice ka s.ks.length kc, .slice va s.vs.length vc, .slice ca s.cs.length cc, .int .u64 s.laid, .slice ga gs.length gc, .slice pa ps.length pc, .int .u64 mv] v_m HV_m.out rfl rfl rfl Tryz.underlying33 rfl (by kernel_rfl) P_m.out ?_ | refine wpl_loadv 33 (.tmp 5) (w.heap.size + 1) [.int .u8 d.tag, .int .i64 d.most, .int .i64 d.seg, .int .i64 d.least, .int .i64 d.den, .int .i64 d.ll, .int .i64 d.rl, .int .i64 d.rh, .int .i64 d.lh, .int .i64 t.seg, .slice wa' t.ws.length wc', .slice ka' t.ks.length kc', .slice va' t.vs.length vc', .slice ca' t.cs.length cc', .int .u64 t.laid, .slice ga' gs'.length gc', .slice pa' ps'.length pc', .int .u64 mv'] v_o HV_o.out rfl rfl rfl Tryz.underlying33 rfl (by kernel_rfl) P_o.out ?_)
  go_wp2_with fail
  refine (G1.out _).mono ?_
  rintro e w1 ⟨rfl, hb1⟩
  replace P_m := Lib.hid (pb_below hb1 P_m.out Z_m)
  replace Z_m := Nat.lt_of_lt_of_le Z_m hb1.size
  replace P_o := Lib.hid (pb_below hb1 P_o.out Z_o)
  replace Z_o := Nat.lt_of_lt_of_le Z_o hb1.size
  have hz_w1 := hb1.size
  try simp only [World.size_alloc, World.size_setCell] at hz_w1
  have hh := bc2 hb1 ⟨c_h0, c_h1⟩
  clear c_h0 c_h1
  obtain ⟨c_h0, c_h1⟩ := hh
  replace z_h := blt hb1 z_h
  have hh := bc2 hb1 ⟨c_k0, c_k1⟩
  clear c_k0 c_k1
  obtain ⟨c_k0, c_k1⟩ := hh
  replace z_k := blt hb1 z_k
  have HB1 := Lib.hid (below_via hb1 HB0.out HB0.out.size)
  clear hb1
  go_wp2_with (first | refine wpl_loadv 33 (.tmp 4) (w.heap.size) [.int .u8 c.tag, .int .i64 c.most, .int .i64 c.seg, .int .i64 c.least, .int .i64 c.den, .int .i64 c.ll, .int .i64 c.rl, .int .i64 c.rh, .int .i64 c.lh, .int .i64 s.seg, .slice wa s.ws.length wc, .slice ka s.ks.length kc, .slice va s.vs.length vc, .slice ca s.cs.length cc, .int .u64 s.laid, .slice ga gs.length gc, .slice pa ps.length pc, .int .u64 mv] v_m HV_m.out rfl rfl rfl Tryz.underlying33 rfl (by kernel_rfl) P_m.out ?_ | refine wpl_loadv 33 (.tmp 5) (w.heap.size + 1) [.int .u8 d.tag, .int .i64 d.most, .int .i64 d.seg, .int .i64 d.least, .int .i64 d.den, .int .i64 d.ll, .int .i64 d.rl, .int .i64 d.rh, .int .i64 d.lh, .int .i64 t.seg, .slice wa' t.ws.length wc', .slice ka' t.ks.length kc', .slice va' t.vs.length vc', .slice ca' t.cs.length cc', .int .u64 t.laid, .slice ga' gs'.length gc', .slice pa' ps'.length pc', .int .u64 mv'] v_o HV_o.out rfl rfl rfl Tryz.underlying33 rfl (by kernel_rfl) P_o.out ?_)
  go_wp2_with fail
  refine (G2.out _).mono ?_
  rintro e w2 ⟨rfl, hb2⟩
  replace P_m := Lib.hid (pb_below hb2 P_m.out Z_m)
  replace Z_m := Nat.lt_of_lt_of_le Z_m hb2.size
  replace P_o := Lib.hid (pb_below hb2 P_o.out Z_o)
  replace Z_o := Nat.lt_of_lt_of_le Z_o hb2.size
  have hz_w2 := hb2.size
  try simp only [World.size_alloc, World.size_setCell] at hz_w2
  have hh := bc2 hb2 ⟨c_h0, c_h1⟩
  clear c_h0 c_h1
  obtain ⟨c_h0, c_h1⟩ := hh
  replace z_h := blt hb2 z_h
  have hh := bc2 hb2 ⟨c_k0, c_k1⟩
  clear c_k0 c_k1
  obtain ⟨c_k0, c_k1⟩ := hh
  replace z_k := blt hb2 z_k
  have HB2 := Lib.hid (below_via hb2 HB1.out HB1.out.size)
  clear hb2
  as_aux_lemma =>
    go_wp2_with (first | refine wpl_loadv 33 (.tmp 4) (w.heap.size) [.int .u8 c.tag, .int .i64 c.most, .int .i64 c.seg, .int .i64 c.least, .int .i64 c.den, .int .i64 c.ll, .int .i64 c.rl, .int .i64 c.rh, .int .i64 c.lh, .int .i64 s.seg, .slice wa s.ws.length wc, .slice ka s.ks.length kc, .slice va s.vs.length vc, .slice ca s.cs.length cc, .int .u64 s.laid, .slice ga gs.length gc, .slice pa ps.length pc, .int .u64 mv] v_m HV_m.out rfl rfl rfl Tryz.underlying33 rfl (by kernel_rfl) P_m.out ?_)
    go_wp2_with fail
    refine (TW.out _ HB2.out).mono ?_
    rintro e w3 ⟨v1, v2, v3, v4, v5, v6, rfl, p1, p2, p3, p4, p5, p6, hb3⟩
    replace P_m := Lib.hid (pb_below hb3 P_m.out Z_m)
    replace Z_m := Nat.lt_of_lt_of_le Z_m hb3.size
    replace P_o := Lib.hid (pb_below hb3 P_o.out Z_o)
    replace Z_o := Nat.lt_of_lt_of_le Z_o hb3.size
    have hz_w3 := hb3.size
    try simp only [World.size_alloc, World.size_setCell] at hz_w3
    have hh := bc2 hb3 ⟨c_h0, c_h1⟩
    clear c_h0 c_h1
    obtain ⟨c_h0, c_h1⟩ := hh
    replace z_h := blt hb3 z_h
    have hh := bc2 hb3 ⟨c_k0, c_k1⟩
    clear c_k0 c_k1
    obtain ⟨c_k0, c_k1⟩ := hh
    replace z_k := blt hb3 z_k
    have HB3 := Lib.hid (below_via hb3 HB2.out HB2.out.size)
    obtain ⟨a1, k1, rfl, i1, -, -, -, -⟩ := row_of_owns p1
    obtain ⟨a2, k2, rfl, i2, -, -, -, -⟩ := row_of_owns p2
    obtain ⟨a3, k3, rfl, i3, -, -, -, -⟩ := row_of_owns p3
    obtain ⟨a4, k4, rfl, i4, -, -, hcc, -⟩ := row_of_owns p4
    obtain ⟨a5, k5, rfl, i5, -, -, -, -⟩ := row_of_owns p5
    obtain ⟨a6, k6, rfl, i6, -, -, -, -⟩ := row_of_owns p6
    have HN3 : Hid (OmIn w3 s gs ps ⟨a1, a2, a3, a4, k1, k2, k3, k4⟩ a5 a6) := Lib.hid ⟨⟨i1, i2, i3, i4, HU.out⟩, i5, i6⟩
    have HCC := Lib.hid hcc
    clear hb3 p1 p2 p3 p4 p5 p6 i1 i2 i3 i4 i5 i6 hcc
    as_aux_lemma =>
      go_upto_region 4 with (refine wpl_store_new 33 (.tmp 9) (.tmp 35) #[.int .u8 0, .int .i64 0, .int .i64 0, .int .i64 0, .int .i64 0, .int .i64 0, .int .i64 0, .int .i64 0, .int .i64 0, .int .i64 0, .slice none 0 0, .slice none 0 0, .slice none 0 0, .slice none 0 0, .int .u64 0, .slice none 0 0, .slice none 0 0, .int .u64 0] #[.int .u8 c.tag, .int .i64 c.most, .int .i64 c.seg, .int .i64 c.least, .int .i64 c.den, .int .i64 c.ll, .int .i64 c.rl, .int .i64 c.rh, .int .i64 c.lh, .int .i64 s.seg, .slice a1 s.ws.length k1, .slice a2 s.ks.length k2, .slice a3 s.vs.length k3, .slice a4 s.cs.length k4, .int .u64 s.laid, .slice a5 gs.length k5, .slice a6 ps.length k6, .int .u64 mv] rfl rfl rfl rfl (by kernel_rfl) rfl (by simp [Value.oneCell']) ?_)
      generalize hw4 : w3.alloc (.cells #[.int .u8 c.tag, .int .i64 c.most, .int .i64 c.seg, .int .i64 c.least, .int .i64 c.den, .int .i64 c.ll, .int .i64 c.rl, .int .i64 c.rh, .int .i64 c.lh, .int .i64 s.seg, .slice a1 s.ws.length k1, .slice a2 s.ks.length k2, .slice a3 s.vs.length k3, .slice a4 s.cs.length k4, .int .u64 s.laid, .slice a5 gs.length k5, .slice a6 ps.length k6, .int .u64 mv] 33) = w4
      replace P_m : Hid (PB w4 (w.heap.size) [.int .u8 c.tag, .int .i64 c.most, .int .i64 c.seg, .int .i64 c.least, .int .i64 c.den, .int .i64 c.ll, .int .i64 c.rl, .int .i64 c.rh, .int .i64 c.lh, .int .i64 s.seg, .slice wa s.ws.length wc, .slice ka s.ks.length kc, .slice va s.vs.length vc, .slice ca s.cs.length cc, .int .u64 s.laid, .slice ga gs.length gc, .slice pa ps.length pc, .int .u64 mv]) := by rw [← hw4]; exact Lib.hid (pb_alloc (P_m.out) Z_m _)
      replace Z_m : w.heap.size < w4.heap.size := by rw [← hw4]; simp only [World.size_alloc]; omega
      replace P_o : Hid (PB w4 (w.heap.size + 1) [.int .u8 d.tag, .int .i64 d.most, .int .i64 d.seg, .int .i64 d.least, .int .i64 d.den, .int .i64 d.ll, .int .i64 d.rl, .int .i64 d.rh, .int .i64 d.lh, .int .i64 t.seg, .slice wa' t.ws.length wc', .slice ka' t.ks.length kc', .slice va' t.vs.length vc', .slice ca' t.cs.length cc', .int .u64 t.laid, .slice ga' gs'.length gc', .slice pa' ps'.length pc', .int .u64 mv']) := by rw [← hw4]; exact Lib.hid (pb_alloc (P_o.out) Z_o _)
      replace Z_o : w.heap.size + 1 < w4.heap.size := by rw [← hw4]; simp only [World.size_alloc]; omega
      have P_n : Hid (PB w4 (w3.heap.size) [.int .u8 c.tag, .int .i64 c.most, .int .i64 c.seg, .int .i64 c.least, .int .i64 c.den, .int .i64 c.ll, .int .i64 c.rl, .int .i64 c.rh, .int .i64 c.lh, .int .i64 s.seg, .slice a1 s.ws.length k1, .slice a2 s.ks.length k2, .slice a3 s.vs.length k3, .slice a4 s.cs.length k4, .int .u64 s.laid, .slice a5 gs.length k5, .slice a6 ps.length k6, .int .u64 mv]) := by rw [← hw4]; exact Lib.hid (pb_new _ _ _ (by simp))
      have Z_n : w3.heap.size < w4.heap.size := by rw [← hw4]; simp only [World.size_alloc]; omega
      have hh := ec2 hw4 (au2 (⟨c_h0, c_h1⟩))
      clear c_h0 c_h1
      obtain ⟨c_h0, c_h1⟩ := hh
      replace z_h := elt hw4 (auz (z_h))
      have hh := ec2 hw4 (au2 (⟨c_k0, c_k1⟩))
      clear c_k0 c_k1
      obtain ⟨c_k0, c_k1⟩ := hh
      replace z_k := elt hw4 (auz (z_k))
      have hb4 : Below w3.heap.size w3 w4 := by rw [← hw4]; exact (Below.refl _ _).alloc (Nat.le_refl _) _
      have HB4 := Lib.hid (below_via hb4 HB3.out HB3.out.size)
      have HN4 := Lib.hid (HN3.out.below hb4)
      have hzm4 : w.heap.size < w4.heap.size := Z_m
      have hz34 : w3.heap.size < w4.heap.size := by rw [← hw4]; simp
      clear hw4 hb4 HN3
      generalize HVn : Value.agg #[.int .u8 c.tag, .int .i64 c.most, .int .i64 c.seg, .int .i64 c.least, .int .i64 c.den, .int .i64 c.ll, .int .i64 c.rl, .int .i64 c.rh, .int .i64 c.lh, .int .i64 s.seg, .slice a1 s.ws.length k1, .slice a2 s.ks.length k2, .slice a3 s.vs.length k3, .slice a4 s.cs.length k4, .int .u64 s.laid, .slice a5 gs.length k5, .slice a6 ps.length k6, .int .u64 mv] = v_n at ⊢
      have HV_n := Lib.hid HVn
      clear HVn
      have PT4 := Lib.hid (PT.out w4 ⟨a1, a2, a3, a4, k1, k2, k3, k4⟩ a5 a6 k5 k6 HB4.out HN4.out)
      dsimp only [omV] at PT4
      rw [HV_n.out] at PT4
      go_wp2_with (first | refine wpl_loadv 33 (.tmp 9) (w3.heap.size) [.int .u8 c.tag, .int .i64 c.most, .int .i64 c.seg, .int .i64 c.least, .int .i64 c.den, .int .i64 c.ll, .int .i64 c.rl, .int .i64 c.rh, .int .i64 c.lh, .int .i64 s.seg, .slice a1 s.ws.length k1, .slice a2 s.ks.length k2, .slice a3 s.vs.length k3, .slice a4 s.cs.length k4, .int .u64 s.laid, .slice a5 gs.length k5, .slice a6 ps.length k6, .int .u64 mv] v_n HV_n.out rfl rfl rfl Tryz.underlying33 rfl (by kernel_rfl) P_n.out ?_)
      go_wp2_with fail
      refine (PT4.out).mono ?_
      rintro e w5 ⟨x1, x2, x3, x4, x5, x6, rfl, q1, q2, q3, q4, q5, q6, hb5⟩
      replace P_m := Lib.hid (pb_below hb5 P_m.out Z_m)
      replace Z_m := Nat.lt_of_lt_of_le Z_m hb5.size
      replace P_o := Lib.hid (pb_below hb5 P_o.out Z_o)
      replace Z_o := Nat.lt_of_lt_of_le Z_o hb5.size
      replace P_n := Lib.hid (pb_below hb5 P_n.out Z_n)
      replace Z_n := Nat.lt_of_lt_of_le Z_n hb5.size
      have hz_w5 := hb5.size
      try simp only [World.size_alloc, World.size_setCell] at hz_w5
      have hh := bc2 hb5 ⟨c_h0, c_h1⟩
      clear c_h0 c_h1
      obtain ⟨c_h0, c_h1⟩ := hh
      replace z_h := blt hb5 z_h
      have hh := bc2 hb5 ⟨c_k0, c_k1⟩
      clear c_k0 c_k1
      obtain ⟨c_k0, c_k1⟩ := hh
      replace z_k := blt hb5 z_k
      have HB5 := Lib.hid (below_via hb5 HB4.out HB4.out.size)
      have HC5 := Lib.hid hb5
      have HN5 := Lib.hid (HN4.out.below hb5)
      have HN4' := HN4
      have HQ5 := Lib.hid (And.intro q1 (And.intro q2 (And.intro q3 (And.intro q4 (And.intro q5 q6)))))
      obtain ⟨b1, j1, rfl, ii1, -, -, -, -⟩ := row_of_owns q1
      obtain ⟨b2, j2, rfl, ii2, -, -, -, -⟩ := row_of_owns q2
      obtain ⟨b3, j3, rfl, ii3, -, -, -, -⟩ := row_of_owns q3
      obtain ⟨b4, j4, rfl, ii4, -, -, -, -⟩ := row_of_owns q4
      obtain ⟨b5, j5, rfl, ii5, -, -, -, -⟩ := row_of_owns q5
      obtain ⟨b6, j6, rfl, ii6, -, -, -, -⟩ := row_of_owns q6
      have HT5 : Hid (OmIn w5 s gs ps ⟨b1, b2, b3, b4, j1, j2, j3, j4⟩ b5 b6) := Lib.hid ⟨⟨ii1, ii2, ii3, ii4, HU.out⟩, ii5, ii6⟩
      clear hb5 q1 q2 q3 q4 q5 q6 PT4 HN4 ii1 ii2 ii3 ii4 ii5 ii6
      as_aux_lemma =>
        go_upto_region 5 with (refine wpl_store_new 33 (.tmp 10) (.tmp 37) #[.int .u8 0, .int .i64 0, .int .i64 0, .int .i64 0, .int .i64 0, .int .i64 0, .int .i64 0, .int .i64 0, .int .i64 0, .int .i64 0, .slice none 0 0, .slice none 0 0, .slice none 0 0, .slice none 0 0, .int .u64 0, .slice none 0 0, .slice none 0 0, .int .u64 0] #[.int .u8 c.tag, .int .i64 c.most, .int .i64 c.seg, .int .i64 c.least, .int .i64 c.den, .int .i64 c.ll, .int .i64 c.rl, .int .i64 c.rh, .int .i64 c.lh, .int .i64 s.seg, .slice b1 s.ws.length j1, .slice b2 s.ks.length j2, .slice b3 s.vs.length j3, .slice b4 s.cs.length j4, .int .u64 s.laid, .slice b5 gs.length j5, .slice b6 ps.length j6, .int .u64 mv] rfl rfl rfl rfl (by kernel_rfl) rfl (by simp [Value.oneCell']) ?_)
        generalize hw6 : w5.alloc (.cells #[.int .u8 c.tag, .int .i64 c.most, .int .i64 c.seg, .int .i64 c.least, .int .i64 c.den, .int .i64 c.ll, .int .i64 c.rl, .int .i64 c.rh, .int .i64 c.lh, .int .i64 s.seg, .slice b1 s.ws.length j1, .slice b2 s.ks.length j2, .slice b3 s.vs.length j3, .slice b4 s.cs.length j4, .int .u64 s.laid, .slice b5 gs.length j5, .slice b6 ps.length j6, .int .u64 mv] 33) = w6
        replace P_m : Hid (PB w6 (w.heap.size) [.int .u8 c.tag, .int .i64 c.most, .int .i64 c.seg, .int .i64 c.least, .int .i64 c.den, .int .i64 c.ll, .int .i64 c.rl, .int .i64 c.rh, .int .i64 c.lh, .int .i64 s.seg, .slice wa s.ws.length wc, .slice ka s.ks.length kc, .slice va s.vs.length vc, .slice ca s.cs.length cc, .int .u64 s.laid, .slice ga gs.length gc, .slice pa ps.length pc, .int .u64 mv]) := by rw [← hw6]; exact Lib.hid (pb_alloc (P_m.out) Z_m _)
        replace Z_m : w.heap.size < w6.heap.size := by rw [← hw6]; simp only [World.size_alloc]; omega
        replace P_o : Hid (PB w6 (w.heap.size + 1) [.int .u8 d.tag, .int .i64 d.most, .int .i64 d.seg, .int .i64 d.least, .int .i64 d.den, .int .i64 d.ll, .int .i64 d.rl, .int .i64 d.rh, .int .i64 d.lh, .int .i64 t.seg, .slice wa' t.ws.length wc', .slice ka' t.ks.length kc', .slice va' t.vs.length vc', .slice ca' t.cs.length cc', .int .u64 t.laid, .slice ga' gs'.length gc', .slice pa' ps'.length pc', .int .u64 mv']) := by rw [← hw6]; exact Lib.hid (pb_alloc (P_o.out) Z_o _)
        replace Z_o : w.heap.size + 1 < w6.heap.size := by rw [← hw6]; simp only [World.size_alloc]; omega
        replace P_n : Hid (PB w6 (w3.heap.size) [.int .u8 c.tag, .int .i64 c.most, .int .i64 c.seg, .int .i64 c.least, .int .i64 c.den, .int .i64 c.ll, .int .i64 c.rl, .int .i64 c.rh, .int .i64 c.lh, .int .i64 s.seg, .slice a1 s.ws.length k1, .slice a2 s.ks.length k2, .slice a3 s.vs.length k3, .slice a4 s.cs.length k4, .int .u64 s.laid, .slice a5 gs.length k5, .slice a6 ps.length k6, .int .u64 mv]) := by rw [← hw6]; exact Lib.hid (pb_alloc (P_n.out) Z_n _)
        replace Z_n : w3.heap.size < w6.heap.size := by rw [← hw6]; simp only [World.size_alloc]; omega
        have P_t : Hid (PB w6 (w5.heap.size) [.int .u8 c.tag, .int .i64 c.most, .int .i64 c.seg, .int .i64 c.least, .int .i64 c.den, .int .i64 c.ll, .int .i64 c.rl, .int .i64 c.rh, .int .i64 c.lh, .int .i64 s.seg, .slice b1 s.ws.length j1, .slice b2 s.ks.length j2, .slice b3 s.vs.length j3, .slice b4 s.cs.length j4, .int .u64 s.laid, .slice b5 gs.length j5, .slice b6 ps.length j6, .int .u64 mv]) := by rw [← hw6]; exact Lib.hid (pb_new _ _ _ (by simp))
        have Z_t : w5.heap.size < w6.heap.size := by rw [← hw6]; simp only [World.size_alloc]; omega
        have hh := ec2 hw6 (au2 (⟨c_h0, c_h1⟩))
        clear c_h0 c_h1
        obtain ⟨c_h0, c_h1⟩ := hh
        replace z_h := elt hw6 (auz (z_h))
        have hh := ec2 hw6 (au2 (⟨c_k0, c_k1⟩))
        clear c_k0 c_k1
        obtain ⟨c_k0, c_k1⟩ := hh
        replace z_k := elt hw6 (auz (z_k))
        have hb6 : Below w5.heap.size w5 w6 := by rw [← hw6]; exact (Below.refl _ _).alloc (Nat.le_refl _) _
        have HB6 := Lib.hid (below_via hb6 HB5.out HB5.out.size)
        have HC6 := Lib.hid (below_via hb6 HC5.out HC5.out.size)
        have HE6 := Lib.hid hb6
        have HN6 := Lib.hid (HN5.out.below hb6)
        clear hw6 hb6 HN5
        generalize HVt : Value.agg #[.int .u8 c.tag, .int .i64 c.most, .int .i64 c.seg, .int .i64 c.least, .int .i64 c.den, .int .i64 c.ll, .int .i64 c.rl, .int .i64 c.rh, .int .i64 c.lh, .int .i64 s.seg, .slice b1 s.ws.length j1, .slice b2 s.ks.length j2, .slice b3 s.vs.length j3, .slice b4 s.cs.length j4, .int .u64 s.laid, .slice b5 gs.length j5, .slice b6 ps.length j6, .int .u64 mv] = v_t at ⊢
        have HV_t := Lib.hid HVt
        clear HVt
        go_wp2_with (refine wpl_load 23 (.tmp 39) (w.heap.size) [.int .u8 c.tag, .int .i64 c.most, .int .i64 c.seg, .int .i64 c.least, .int .i64 c.den, .int .i64 c.ll, .int .i64 c.rl, .int .i64 c.rh, .int .i64 c.lh] rfl rfl rfl Tryz.underlying23 rfl (by kernel_rfl) (pb_pre (us := [.int .i64 s.seg, .slice wa s.ws.length wc, .slice ka s.ks.length kc, .slice va s.vs.length vc, .slice ca s.cs.length cc, .int .u64 s.laid, .slice ga gs.length gc, .slice pa ps.length pc, .int .u64 mv]) P_m.out) ?_)
        go_wp2_with fail
        refine (NW.out _ HB6.out).mono ?_
        rintro e w7 ⟨y1, y2, y3, y4, y5, y6, rfl, r1, r2, r3, r4, r5, r6, hb7⟩
        replace P_m := Lib.hid (pb_below hb7 P_m.out Z_m)
        replace Z_m := Nat.lt_of_lt_of_le Z_m hb7.size
        replace P_o := Lib.hid (pb_below hb7 P_o.out Z_o)
        replace Z_o := Nat.lt_of_lt_of_le Z_o hb7.size
        replace P_n := Lib.hid (pb_below hb7 P_n.out Z_n)
        replace Z_n := Nat.lt_of_lt_of_le Z_n hb7.size
        replace P_t := Lib.hid (pb_below hb7 P_t.out Z_t)
        replace Z_t := Nat.lt_of_lt_of_le Z_t hb7.size
        have hz_w7 := hb7.size
        try simp only [World.size_alloc, World.size_setCell] at hz_w7
        have hh := bc2 hb7 ⟨c_h0, c_h1⟩
        clear c_h0 c_h1
        obtain ⟨c_h0, c_h1⟩ := hh
        replace z_h := blt hb7 z_h
        have hh := bc2 hb7 ⟨c_k0, c_k1⟩
        clear c_k0 c_k1
        obtain ⟨c_k0, c_k1⟩ := hh
        replace z_k := blt hb7 z_k
        have HB7 := Lib.hid (below_via hb7 HB6.out HB6.out.size)
        have HC7 := Lib.hid (below_via hb7 HC6.out HC6.out.size)
        have HE7 := Lib.hid (below_via hb7 HE6.out HE6.out.size)
        have HN7 := Lib.hid (HN6.out.below hb7)
        obtain ⟨e1, l1, rfl, i1, -, -, -, -⟩ := row_of_owns r1
        obtain ⟨e2, l2, rfl, i2, -, -, -, -⟩ := row_of_owns r2
        obtain ⟨e3, l3, rfl, i3, -, -, -, -⟩ := row_of_owns r3
        obtain ⟨e4, l4, rfl, i4, -, -, -, -⟩ := row_of_owns r4
        obtain ⟨e5, l5, rfl, i5, -, -, -, -⟩ := row_of_owns r5
        obtain ⟨e6, l6, rfl, i6, -, -, -, -⟩ := row_of_owns r6
        have HX7 : Hid (SlIn w7 nc ⟨e1, e2, e3, e4, l1, l2, l3, l4⟩) := Lib.hid ⟨i1, i2, i3, i4, HNU.out⟩
        clear hb7 r1 r2 r3 r4 r5 r6 i1 i2 i3 i4 i5 i6 HN6 HE6
        simp only [List.length_nil]
        as_aux_lemma =>
          go_upto_region 6 with (refine wpl_store_new 33 (.tmp 11) (.tmp 42) #[.int .u8 0, .int .i64 0, .int .i64 0, .int .i64 0, .int .i64 0, .int .i64 0, .int .i64 0, .int .i64 0, .int .i64 0, .int .i64 0, .slice none 0 0, .slice none 0 0, .slice none 0 0, .slice none 0 0, .int .u64 0, .slice none 0 0, .slice none 0 0, .int .u64 0] #[.int .u8 nf.tag, .int .i64 nf.most, .int .i64 nf.seg, .int .i64 nf.least, .int .i64 nf.den, .int .i64 nf.ll, .int .i64 nf.rl, .int .i64 nf.rh, .int .i64 nf.lh, .int .i64 nc.seg, .slice e1 nc.ws.length l1, .slice e2 nc.ks.length l2, .slice e3 nc.vs.length l3, .slice e4 nc.cs.length l4, .int .u64 nc.laid, .slice e5 0 l5, .slice e6 0 l6, .int .u64 0] rfl rfl rfl rfl (by kernel_rfl) rfl (by simp [Value.oneCell']) ?_)
          generalize hw8 : w7.alloc (.cells #[.int .u8 nf.tag, .int .i64 nf.most, .int .i64 nf.seg, .int .i64 nf.least, .int .i64 nf.den, .int .i64 nf.ll, .int .i64 nf.rl, .int .i64 nf.rh, .int .i64 nf.lh, .int .i64 nc.seg, .slice e1 nc.ws.length l1, .slice e2 nc.ks.length l2, .slice e3 nc.vs.length l3, .slice e4 nc.cs.length l4, .int .u64 nc.laid, .slice e5 0 l5, .slice e6 0 l6, .int .u64 0] 33) = w8
          replace P_m : Hid (PB w8 (w.heap.size) [.int .u8 c.tag, .int .i64 c.most, .int .i64 c.seg, .int .i64 c.least, .int .i64 c.den, .int .i64 c.ll, .int .i64 c.rl, .int .i64 c.rh, .int .i64 c.lh, .int .i64 s.seg, .slice wa s.ws.length wc, .slice ka s.ks.length kc, .slice va s.vs.length vc, .slice ca s.cs.length cc, .int .u64 s.laid, .slice ga gs.length gc, .slice pa ps.length pc, .int .u64 mv]) := by rw [← hw8]; exact Lib.hid (pb_alloc (P_m.out) Z_m _)
          replace Z_m : w.heap.size < w8.heap.size := by rw [← hw8]; simp only [World.size_alloc]; omega
          replace P_o : Hid (PB w8 (w.heap.size + 1) [.int .u8 d.tag, .int .i64 d.most, .int .i64 d.seg, .int .i64 d.least, .int .i64 d.den, .int .i64 d.ll, .int .i64 d.rl, .int .i64 d.rh, .int .i64 d.lh, .int .i64 t.seg, .slice wa' t.ws.length wc', .slice ka' t.ks.length kc', .slice va' t.vs.length vc', .slice ca' t.cs.length cc', .int .u64 t.laid, .slice ga' gs'.length gc', .slice pa' ps'.length pc', .int .u64 mv']) := by rw [← hw8]; exact Lib.hid (pb_alloc (P_o.out) Z_o _)
          replace Z_o : w.heap.size + 1 < w8.heap.size := by rw [← hw8]; simp only [World.size_alloc]; omega
          replace P_n : Hid (PB w8 (w3.heap.size) [.int .u8 c.tag, .int .i64 c.most, .int .i64 c.seg, .int .i64 c.least, .int .i64 c.den, .int .i64 c.ll, .int .i64 c.rl, .int .i64 c.rh, .int .i64 c.lh, .int .i64 s.seg, .slice a1 s.ws.length k1, .slice a2 s.ks.length k2, .slice a3 s.vs.length k3, .slice a4 s.cs.length k4, .int .u64 s.laid, .slice a5 gs.length k5, .slice a6 ps.length k6, .int .u64 mv]) := by rw [← hw8]; exact Lib.hid (pb_alloc (P_n.out) Z_n _)
          replace Z_n : w3.heap.size < w8.heap.size := by rw [← hw8]; simp only [World.size_alloc]; omega
          replace P_t : Hid (PB w8 (w5.heap.size) [.int .u8 c.tag, .int .i64 c.most, .int .i64 c.seg, .int .i64 c.least, .int .i64 c.den, .int .i64 c.ll, .int .i64 c.rl, .int .i64 c.rh, .int .i64 c.lh, .int .i64 s.seg, .slice b1 s.ws.length j1, .slice b2 s.ks.length j2, .slice b3 s.vs.length j3, .slice b4 s.cs.length j4, .int .u64 s.laid, .slice b5 gs.length j5, .slice b6 ps.length j6, .int .u64 mv]) := by rw [← hw8]; exact Lib.hid (pb_alloc (P_t.out) Z_t _)
          replace Z_t : w5.heap.size < w8.heap.size := by rw [← hw8]; simp only [World.size_alloc]; omega
          have P_x : Hid (PB w8 (w7.heap.size) [.int .u8 nf.tag, .int .i64 nf.most, .int .i64 nf.seg, .int .i64 nf.least, .int .i64 nf.den, .int .i64 nf.ll, .int .i64 nf.rl, .int .i64 nf.rh, .int .i64 nf.lh, .int .i64 nc.seg, .slice e1 nc.ws.length l1, .slice e2 nc.ks.length l2, .slice e3 nc.vs.length l3, .slice e4 nc.cs.length l4, .int .u64 nc.laid, .slice e5 0 l5, .slice e6 0 l6, .int .u64 0]) := by rw [← hw8]; exact Lib.hid (pb_new _ _ _ (by simp))
          have Z_x : w7.heap.size < w8.heap.size := by rw [← hw8]; simp only [World.size_alloc]; omega
          have hh := ec2 hw8 (au2 (⟨c_h0, c_h1⟩))
          clear c_h0 c_h1
          obtain ⟨c_h0, c_h1⟩ := hh
          replace z_h := elt hw8 (auz (z_h))
          have hh := ec2 hw8 (au2 (⟨c_k0, c_k1⟩))
          clear c_k0 c_k1
          obtain ⟨c_k0, c_k1⟩ := hh
          replace z_k := elt hw8 (auz (z_k))
          have hb8 : Below w7.heap.size w7 w8 := by rw [← hw8]; exact (Below.refl _ _).alloc (Nat.le_refl _) _
          have HB8 := Lib.hid (below_via hb8 HB7.out HB7.out.size)
          have HC8 := Lib.hid (below_via hb8 HC7.out HC7.out.size)
          have HE8 := Lib.hid (below_via hb8 HE7.out HE7.out.size)
          have HN8 := Lib.hid (HN7.out.below hb8)
          have HX8 := Lib.hid (HX7.out.below hb8)
          clear hw8 hb8 HN7 HX7 HE7
          generalize HVx : Value.agg #[.int .u8 nf.tag, .int .i64 nf.most, .int .i64 nf.seg, .int .i64 nf.least, .int .i64 nf.den, .int .i64 nf.ll, .int .i64 nf.rl, .int .i64 nf.rh, .int .i64 nf.lh, .int .i64 nc.seg, .slice e1 nc.ws.length l1, .slice e2 nc.ks.length l2, .slice e3 nc.vs.length l3, .slice e4 nc.cs.length l4, .int .u64 nc.laid, .slice e5 0 l5, .slice e6 0 l6, .int .u64 0] = v_x at ⊢
          have HV_x := Lib.hid HVx
          clear HVx
          go_wp2_with (refine wpl_load 23 (.tmp 45) (w.heap.size) [.int .u8 c.tag, .int .i64 c.most, .int .i64 c.seg, .int .i64 c.least, .int .i64 c.den, .int .i64 c.ll, .int .i64 c.rl, .int .i64 c.rh, .int .i64 c.lh] rfl rfl rfl Tryz.underlying23 rfl (by kernel_rfl) (pb_pre (us := [.int .i64 s.seg, .slice wa s.ws.length wc, .slice ka s.ks.length kc, .slice va s.vs.length vc, .slice ca s.cs.length cc, .int .u64 s.laid, .slice ga gs.length gc, .slice pa ps.length pc, .int .u64 mv]) P_m.out) ?_)
          go_wp2_with fail
          refine (NR.out _ HB8.out).mono ?_
          rintro e w9 ⟨z1, z2, z3, z4, z5, z6, rfl, r1, r2, r3, r4, r5, r6, hb9⟩
          replace P_m := Lib.hid (pb_below hb9 P_m.out Z_m)
          replace Z_m := Nat.lt_of_lt_of_le Z_m hb9.size
          replace P_o := Lib.hid (pb_below hb9 P_o.out Z_o)
          replace Z_o := Nat.lt_of_lt_of_le Z_o hb9.size
          replace P_n := Lib.hid (pb_below hb9 P_n.out Z_n)
          replace Z_n := Nat.lt_of_lt_of_le Z_n hb9.size
          replace P_t := Lib.hid (pb_below hb9 P_t.out Z_t)
          replace Z_t := Nat.lt_of_lt_of_le Z_t hb9.size
          replace P_x := Lib.hid (pb_below hb9 P_x.out Z_x)
          replace Z_x := Nat.lt_of_lt_of_le Z_x hb9.size
          have hz_w9 := hb9.size
          try simp only [World.size_alloc, World.size_setCell] at hz_w9
          have hh := bc2 hb9 ⟨c_h0, c_h1⟩
          clear c_h0 c_h1
          obtain ⟨c_h0, c_h1⟩ := hh
          replace z_h := blt hb9 z_h
          have hh := bc2 hb9 ⟨c_k0, c_k1⟩
          clear c_k0 c_k1
          obtain ⟨c_k0, c_k1⟩ := hh
          replace z_k := blt hb9 z_k
          have HB9 := Lib.hid (below_via hb9 HB8.out HB8.out.size)
          have HC9 := Lib.hid (below_via hb9 HC8.out HC8.out.size)
          have HE9 := Lib.hid (below_via hb9 HE8.out HE8.out.size)
          have HN9 := Lib.hid (HN8.out.below hb9)
          have HX9 := Lib.hid (HX8.out.below hb9)
          obtain ⟨f1, q1, rfl, i1, -, -, -, -⟩ := row_of_owns r1
          obtain ⟨f2, q2, rfl, i2, -, -, -, -⟩ := row_of_owns r2
          obtain ⟨f3, q3, rfl, i3, -, -, -, -⟩ := row_of_owns r3
          obtain ⟨f4, q4, rfl, i4, -, -, -, -⟩ := row_of_owns r4
          obtain ⟨f5, q5, rfl, i5, -, -, -, -⟩ := row_of_owns r5
          obtain ⟨f6, q6, rfl, i6, -, -, -, -⟩ := row_of_owns r6
          have HY9 : Hid (SlIn w9 nc ⟨f1, f2, f3, f4, q1, q2, q3, q4⟩) := Lib.hid ⟨i1, i2, i3, i4, HNU.out⟩
          clear hb9 r1 r2 r3 r4 r5 r6 i1 i2 i3 i4 i5 i6 HN8 HX8 HE8
          simp only [List.length_nil]
          as_aux_lemma =>
            go_upto_region 7 with (refine wpl_store_new 33 (.tmp 13) (.tmp 48) #[.int .u8 0, .int .i64 0, .int .i64 0, .int .i64 0, .int .i64 0, .int .i64 0, .int .i64 0, .int .i64 0, .int .i64 0, .int .i64 0, .slice none 0 0, .slice none 0 0, .slice none 0 0, .slice none 0 0, .int .u64 0, .slice none 0 0, .slice none 0 0, .int .u64 0] #[.int .u8 nf.tag, .int .i64 nf.most, .int .i64 nf.seg, .int .i64 nf.least, .int .i64 nf.den, .int .i64 nf.ll, .int .i64 nf.rl, .int .i64 nf.rh, .int .i64 nf.lh, .int .i64 nc.seg, .slice f1 nc.ws.length q1, .slice f2 nc.ks.length q2, .slice f3 nc.vs.length q3, .slice f4 nc.cs.length q4, .int .u64 nc.laid, .slice f5 0 q5, .slice f6 0 q6, .int .u64 0] rfl rfl rfl rfl (by kernel_rfl) rfl (by simp [Value.oneCell']) ?_)
            generalize hw10 : w9.alloc (.cells #[.int .u8 nf.tag, .int .i64 nf.most, .int .i64 nf.seg, .int .i64 nf.least, .int .i64 nf.den, .int .i64 nf.ll, .int .i64 nf.rl, .int .i64 nf.rh, .int .i64 nf.lh, .int .i64 nc.seg, .slice f1 nc.ws.length q1, .slice f2 nc.ks.length q2, .slice f3 nc.vs.length q3, .slice f4 nc.cs.length q4, .int .u64 nc.laid, .slice f5 0 q5, .slice f6 0 q6, .int .u64 0] 33) = w10
            replace P_m : Hid (PB w10 (w.heap.size) [.int .u8 c.tag, .int .i64 c.most, .int .i64 c.seg, .int .i64 c.least, .int .i64 c.den, .int .i64 c.ll, .int .i64 c.rl, .int .i64 c.rh, .int .i64 c.lh, .int .i64 s.seg, .slice wa s.ws.length wc, .slice ka s.ks.length kc, .slice va s.vs.length vc, .slice ca s.cs.length cc, .int .u64 s.laid, .slice ga gs.length gc, .slice pa ps.length pc, .int .u64 mv]) := by rw [← hw10]; exact Lib.hid (pb_alloc (P_m.out) Z_m _)
            replace Z_m : w.heap.size < w10.heap.size := by rw [← hw10]; simp only [World.size_alloc]; omega
            replace P_o : Hid (PB w10 (w.heap.size + 1) [.int .u8 d.tag, .int .i64 d.most, .int .i64 d.seg, .int .i64 d.least, .int .i64 d.den, .int .i64 d.ll, .int .i64 d.rl, .int .i64 d.rh, .int .i64 d.lh, .int .i64 t.seg, .slice wa' t.ws.length wc', .slice ka' t.ks.length kc', .slice va' t.vs.length vc', .slice ca' t.cs.length cc', .int .u64 t.laid, .slice ga' gs'.length gc', .slice pa' ps'.length pc', .int .u64 mv']) := by rw [← hw10]; exact Lib.hid (pb_alloc (P_o.out) Z_o _)
            replace Z_o : w.heap.size + 1 < w10.heap.size := by rw [← hw10]; simp only [World.size_alloc]; omega
            replace P_n : Hid (PB w10 (w3.heap.size) [.int .u8 c.tag, .int .i64 c.most, .int .i64 c.seg, .int .i64 c.least, .int .i64 c.den, .int .i64 c.ll, .int .i64 c.rl, .int .i64 c.rh, .int .i64 c.lh, .int .i64 s.seg, .slice a1 s.ws.length k1, .slice a2 s.ks.length k2, .slice a3 s.vs.length k3, .slice a4 s.cs.length k4, .int .u64 s.laid, .slice a5 gs.length k5, .slice a6 ps.length k6, .int .u64 mv]) := by rw [← hw10]; exact Lib.hid (pb_alloc (P_n.out) Z_n _)
            replace Z_n : w3.heap.size < w10.heap.size := by rw [← hw10]; simp only [World.size_alloc]; omega
            replace P_t : Hid (PB w10 (w5.heap.size) [.int .u8 c.tag, .int .i64 c.most, .int .i64 c.seg, .int .i64 c.least, .int .i64 c.den, .int .i64 c.ll, .int .i64 c.rl, .int .i64 c.rh, .int .i64 c.lh, .int .i64 s.seg, .slice b1 s.ws.length j1, .slice b2 s.ks.length j2, .slice b3 s.vs.length j3, .slice b4 s.cs.length j4, .int .u64 s.laid, .slice b5 gs.length j5, .slice b6 ps.length j6, .int .u64 mv]) := by rw [← hw10]; exact Lib.hid (pb_alloc (P_t.out) Z_t _)
            replace Z_t : w5.heap.size < w10.heap.size := by rw [← hw10]; simp only [World.size_alloc]; omega
            replace P_x : Hid (PB w10 (w7.heap.size) [.int .u8 nf.tag, .int .i64 nf.most, .int .i64 nf.seg, .int .i64 nf.least, .int .i64 nf.den, .int .i64 nf.ll, .int .i64 nf.rl, .int .i64 nf.rh, .int .i64 nf.lh, .int .i64 nc.seg, .slice e1 nc.ws.length l1, .slice e2 nc.ks.length l2, .slice e3 nc.vs.length l3, .slice e4 nc.cs.length l4, .int .u64 nc.laid, .slice e5 0 l5, .slice e6 0 l6, .int .u64 0]) := by rw [← hw10]; exact Lib.hid (pb_alloc (P_x.out) Z_x _)
            replace Z_x : w7.heap.size < w10.heap.size := by rw [← hw10]; simp only [World.size_alloc]; omega
            have P_y : Hid (PB w10 (w9.heap.size) [.int .u8 nf.tag, .int .i64 nf.most, .int .i64 nf.seg, .int .i64 nf.least, .int .i64 nf.den, .int .i64 nf.ll, .int .i64 nf.rl, .int .i64 nf.rh, .int .i64 nf.lh, .int .i64 nc.seg, .slice f1 nc.ws.length q1, .slice f2 nc.ks.length q2, .slice f3 nc.vs.length q3, .slice f4 nc.cs.length q4, .int .u64 nc.laid, .slice f5 0 q5, .slice f6 0 q6, .int .u64 0]) := by rw [← hw10]; exact Lib.hid (pb_new _ _ _ (by simp))
            have Z_y : w9.heap.size < w10.heap.size := by rw [← hw10]; simp only [World.size_alloc]; omega
            have hh := ec2 hw10 (au2 (⟨c_h0, c_h1⟩))
            clear c_h0 c_h1
            obtain ⟨c_h0, c_h1⟩ := hh
            replace z_h := elt hw10 (auz (z_h))
            have hh := ec2 hw10 (au2 (⟨c_k0, c_k1⟩))
            clear c_k0 c_k1
            obtain ⟨c_k0, c_k1⟩ := hh
            replace z_k := elt hw10 (auz (z_k))
            have hb10 : Below w9.heap.size w9 w10 := by rw [← hw10]; exact (Below.refl _ _).alloc (Nat.le_refl _) _
            have HB10 := Lib.hid (below_via hb10 HB9.out HB9.out.size)
            have HC10 := Lib.hid (below_via hb10 HC9.out HC9.out.size)
            have HE10 := Lib.hid (below_via hb10 HE9.out HE9.out.size)
            have HN10 := Lib.hid (HN9.out.below hb10)
            have HX10 := Lib.hid (HX9.out.below hb10)
            have HY10 := Lib.hid (HY9.out.below hb10)
            have HF10 := Lib.hid (Below.refl w10.heap.size w10)
            clear hw10 hb10 HN9 HX9 HY9 HE9
            generalize HVy : Value.agg #[.int .u8 nf.tag, .int .i64 nf.most, .int .i64 nf.seg, .int .i64 nf.least, .int .i64 nf.den, .int .i64 nf.ll, .int .i64 nf.rl, .int .i64 nf.rh, .int .i64 nf.lh, .int .i64 nc.seg, .slice f1 nc.ws.length q1, .slice f2 nc.ks.length q2, .slice f3 nc.vs.length q3, .slice f4 nc.cs.length q4, .int .u64 nc.laid, .slice f5 0 q5, .slice f6 0 q6, .int .u64 0] = v_y at ⊢
            have HV_y := Lib.hid HVy
            clear HVy
            as_aux_lemma =>
              have LS10 := Lib.hid (LS.out w10 ⟨a1, a2, a3, a4, k1, k2, k3, k4⟩ a5 a6 k5 k6 HB10.out (HN10.out.below HF10.out) HCC.out)
              dsimp only [omV] at LS10
              rw [HV_n.out] at LS10
              go_wp2_with (first | refine wpl_loadv 33 (.tmp 9) (w3.heap.size) [.int .u8 c.tag, .int .i64 c.most, .int .i64 c.seg, .int .i64 c.least, .int .i64 c.den, .int .i64 c.ll, .int .i64 c.rl, .int .i64 c.rh, .int .i64 c.lh, .int .i64 s.seg, .slice a1 s.ws.length k1, .slice a2 s.ks.length k2, .slice a3 s.vs.length k3, .slice a4 s.cs.length k4, .int .u64 s.laid, .slice a5 gs.length k5, .slice a6 ps.length k6, .int .u64 mv] v_n HV_n.out rfl rfl rfl Tryz.underlying33 rfl (by kernel_rfl) P_n.out ?_)
              go_wp2_with fail
              refine (LS10.out).mono ?_
              rintro e w11 ⟨lva, rfl, hoA, hb11⟩
              replace P_m := Lib.hid (pb_below hb11 P_m.out Z_m)
              replace Z_m := Nat.lt_of_lt_of_le Z_m hb11.size
              replace P_o := Lib.hid (pb_below hb11 P_o.out Z_o)
              replace Z_o := Nat.lt_of_lt_of_le Z_o hb11.size
              replace P_n := Lib.hid (pb_below hb11 P_n.out Z_n)
              replace Z_n := Nat.lt_of_lt_of_le Z_n hb11.size
              replace P_t := Lib.hid (pb_below hb11 P_t.out Z_t)
              replace Z_t := Nat.lt_of_lt_of_le Z_t hb11.size
              replace P_x := Lib.hid (pb_below hb11 P_x.out Z_x)
              replace Z_x := Nat.lt_of_lt_of_le Z_x hb11.size
              replace P_y := Lib.hid (pb_below hb11 P_y.out Z_y)
              replace Z_y := Nat.lt_of_lt_of_le Z_y hb11.size
              have hz_w11 := hb11.size
              try simp only [World.size_alloc, World.size_setCell] at hz_w11
              have hh := bc2 hb11 ⟨c_h0, c_h1⟩
              clear c_h0 c_h1
              obtain ⟨c_h0, c_h1⟩ := hh
              replace z_h := blt hb11 z_h
              have hh := bc2 hb11 ⟨c_k0, c_k1⟩
              clear c_k0 c_k1
              obtain ⟨c_k0, c_k1⟩ := hh
              replace z_k := blt hb11 z_k
              have HB11 := Lib.hid (below_via hb11 HB10.out HB10.out.size)
              have HF11 := Lib.hid (below_via hb11 HF10.out HF10.out.size)
              obtain ⟨la, lca, rfl, -, -, -, -, -⟩ := row_of_owns hoA
              have HLA := Lib.hid hoA
              clear hoA LS10
              clear hb11 HB10 HF10
              go_wp2_with (first | refine wpl_loadv 33 (.tmp 4) (w.heap.size) [.int .u8 c.tag, .int .i64 c.most, .int .i64 c.seg, .int .i64 c.least, .int .i64 c.den, .int .i64 c.ll, .int .i64 c.rl, .int .i64 c.rh, .int .i64 c.lh, .int .i64 s.seg, .slice wa s.ws.length wc, .slice ka s.ks.length kc, .slice va s.vs.length vc, .slice ca s.cs.length cc, .int .u64 s.laid, .slice ga gs.length gc, .slice pa ps.length pc, .int .u64 mv] v_m HV_m.out rfl rfl rfl Tryz.underlying33 rfl (by kernel_rfl) P_m.out ?_)
              go_wp2_with fail
              refine (LR.out _ HB11.out).mono ?_
              rintro e w12 ⟨lvb, rfl, hoB, hb12⟩
              replace P_m := Lib.hid (pb_below hb12 P_m.out Z_m)
              replace Z_m := Nat.lt_of_lt_of_le Z_m hb12.size
              replace P_o := Lib.hid (pb_below hb12 P_o.out Z_o)
              replace Z_o := Nat.lt_of_lt_of_le Z_o hb12.size
              replace P_n := Lib.hid (pb_below hb12 P_n.out Z_n)
              replace Z_n := Nat.lt_of_lt_of_le Z_n hb12.size
              replace P_t := Lib.hid (pb_below hb12 P_t.out Z_t)
              replace Z_t := Nat.lt_of_lt_of_le Z_t hb12.size
              replace P_x := Lib.hid (pb_below hb12 P_x.out Z_x)
              replace Z_x := Nat.lt_of_lt_of_le Z_x hb12.size
              replace P_y := Lib.hid (pb_below hb12 P_y.out Z_y)
              replace Z_y := Nat.lt_of_lt_of_le Z_y hb12.size
              have hz_w12 := hb12.size
              try simp only [World.size_alloc, World.size_setCell] at hz_w12
              have hh := bc2 hb12 ⟨c_h0, c_h1⟩
              clear c_h0 c_h1
              obtain ⟨c_h0, c_h1⟩ := hh
              replace z_h := blt hb12 z_h
              have hh := bc2 hb12 ⟨c_k0, c_k1⟩
              clear c_k0 c_k1
              obtain ⟨c_k0, c_k1⟩ := hh
              replace z_k := blt hb12 z_k
              have HB12 := Lib.hid (below_via hb12 HB11.out HB11.out.size)
              have HF12 := Lib.hid (below_via hb12 HF11.out HF11.out.size)
              obtain ⟨lb, lcb, rfl, -, -, -, -, -⟩ := row_of_owns hoB
              have HLB := Lib.hid hoB
              have HLA2 := Lib.hid (owns_below HLA.out hb12)
              clear hoB HLA
              clear hb12 HB11 HF11
              as_aux_lemma =>
                have CP12 := Lib.hid (CP.out w12 ⟨a1, a2, a3, a4, k1, k2, k3, k4⟩ a5 a6 k5 k6 HB12.out (HN10.out.below HF12.out) HCC.out)
                dsimp only [omV] at CP12
                rw [HV_n.out] at CP12
                go_wp2_with (first | refine wpl_loadv 33 (.tmp 9) (w3.heap.size) [.int .u8 c.tag, .int .i64 c.most, .int .i64 c.seg, .int .i64 c.least, .int .i64 c.den, .int .i64 c.ll, .int .i64 c.rl, .int .i64 c.rh, .int .i64 c.lh, .int .i64 s.seg, .slice a1 s.ws.length k1, .slice a2 s.ks.length k2, .slice a3 s.vs.length k3, .slice a4 s.cs.length k4, .int .u64 s.laid, .slice a5 gs.length k5, .slice a6 ps.length k6, .int .u64 mv] v_n HV_n.out rfl rfl rfl Tryz.underlying33 rfl (by kernel_rfl) P_n.out ?_)
                go_wp2_with fail
                refine (CP12.out).mono ?_
                rintro e w13 ⟨rfl, hb13⟩
                replace P_m := Lib.hid (pb_below hb13 P_m.out Z_m)
                replace Z_m := Nat.lt_of_lt_of_le Z_m hb13.size
                replace P_o := Lib.hid (pb_below hb13 P_o.out Z_o)
                replace Z_o := Nat.lt_of_lt_of_le Z_o hb13.size
                replace P_n := Lib.hid (pb_below hb13 P_n.out Z_n)
                replace Z_n := Nat.lt_of_lt_of_le Z_n hb13.size
                replace P_t := Lib.hid (pb_below hb13 P_t.out Z_t)
                replace Z_t := Nat.lt_of_lt_of_le Z_t hb13.size
                replace P_x := Lib.hid (pb_below hb13 P_x.out Z_x)
                replace Z_x := Nat.lt_of_lt_of_le Z_x hb13.size
                replace P_y := Lib.hid (pb_below hb13 P_y.out Z_y)
                replace Z_y := Nat.lt_of_lt_of_le Z_y hb13.size
                have hz_w13 := hb13.size
                try simp only [World.size_alloc, World.size_setCell] at hz_w13
                have hh := bc2 hb13 ⟨c_h0, c_h1⟩
                clear c_h0 c_h1
                obtain ⟨c_h0, c_h1⟩ := hh
                replace z_h := blt hb13 z_h
                have hh := bc2 hb13 ⟨c_k0, c_k1⟩
                clear c_k0 c_k1
                obtain ⟨c_k0, c_k1⟩ := hh
                replace z_k := blt hb13 z_k
                have HB13 := Lib.hid (below_via hb13 HB12.out HB12.out.size)
                have HF13 := Lib.hid (below_via hb13 HF12.out HF12.out.size)
                have HLA3 := Lib.hid (owns_below HLA2.out hb13)
                have HLB3 := Lib.hid (owns_below HLB.out hb13)
                clear CP12 HLA2 HLB
                clear hb13 HB12 HF12
                go_wp2_with (first | refine wpl_loadv 33 (.tmp 4) (w.heap.size) [.int .u8 c.tag, .int .i64 c.most, .int .i64 c.seg, .int .i64 c.least, .int .i64 c.den, .int .i64 c.ll, .int .i64 c.rl, .int .i64 c.rh, .int .i64 c.lh, .int .i64 s.seg, .slice wa s.ws.length wc, .slice ka s.ks.length kc, .slice va s.vs.length vc, .slice ca s.cs.length cc, .int .u64 s.laid, .slice ga gs.length gc, .slice pa ps.length pc, .int .u64 mv] v_m HV_m.out rfl rfl rfl Tryz.underlying33 rfl (by kernel_rfl) P_m.out ?_)
                go_wp2_with fail
                refine (CR.out _ HB13.out).mono ?_
                rintro e w14 ⟨rfl, hb14⟩
                replace P_m := Lib.hid (pb_below hb14 P_m.out Z_m)
                replace Z_m := Nat.lt_of_lt_of_le Z_m hb14.size
                replace P_o := Lib.hid (pb_below hb14 P_o.out Z_o)
                replace Z_o := Nat.lt_of_lt_of_le Z_o hb14.size
                replace P_n := Lib.hid (pb_below hb14 P_n.out Z_n)
                replace Z_n := Nat.lt_of_lt_of_le Z_n hb14.size
                replace P_t := Lib.hid (pb_below hb14 P_t.out Z_t)
                replace Z_t := Nat.lt_of_lt_of_le Z_t hb14.size
                replace P_x := Lib.hid (pb_below hb14 P_x.out Z_x)
                replace Z_x := Nat.lt_of_lt_of_le Z_x hb14.size
                replace P_y := Lib.hid (pb_below hb14 P_y.out Z_y)
                replace Z_y := Nat.lt_of_lt_of_le Z_y hb14.size
                have hz_w14 := hb14.size
                try simp only [World.size_alloc, World.size_setCell] at hz_w14
                have hh := bc2 hb14 ⟨c_h0, c_h1⟩
                clear c_h0 c_h1
                obtain ⟨c_h0, c_h1⟩ := hh
                replace z_h := blt hb14 z_h
                have hh := bc2 hb14 ⟨c_k0, c_k1⟩
                clear c_k0 c_k1
                obtain ⟨c_k0, c_k1⟩ := hh
                replace z_k := blt hb14 z_k
                have HB14 := Lib.hid (below_via hb14 HB13.out HB13.out.size)
                have HF14 := Lib.hid (below_via hb14 HF13.out HF13.out.size)
                have HLA4 := Lib.hid (owns_below HLA3.out hb14)
                have HLB4 := Lib.hid (owns_below HLB3.out hb14)
                clear HLA3 HLB3
                clear hb14 HB13 HF13
                as_aux_lemma =>
                  have LB14 := Lib.hid (LB.out w14 ⟨a1, a2, a3, a4, k1, k2, k3, k4⟩ a5 a6 k5 k6 HB14.out (HN10.out.below HF14.out) HCC.out)
                  dsimp only [omV] at LB14
                  rw [HV_n.out] at LB14
                  go_wp2_with (first | refine wpl_loadv 33 (.tmp 9) (w3.heap.size) [.int .u8 c.tag, .int .i64 c.most, .int .i64 c.seg, .int .i64 c.least, .int .i64 c.den, .int .i64 c.ll, .int .i64 c.rl, .int .i64 c.rh, .int .i64 c.lh, .int .i64 s.seg, .slice a1 s.ws.length k1, .slice a2 s.ks.length k2, .slice a3 s.vs.length k3, .slice a4 s.cs.length k4, .int .u64 s.laid, .slice a5 gs.length k5, .slice a6 ps.length k6, .int .u64 mv] v_n HV_n.out rfl rfl rfl Tryz.underlying33 rfl (by kernel_rfl) P_n.out ?_)
                  go_wp2_with fail
                  refine (LB14.out).mono ?_
                  rintro e w15 ⟨rfl, hb15⟩
                  replace P_m := Lib.hid (pb_below hb15 P_m.out Z_m)
                  replace Z_m := Nat.lt_of_lt_of_le Z_m hb15.size
                  replace P_o := Lib.hid (pb_below hb15 P_o.out Z_o)
                  replace Z_o := Nat.lt_of_lt_of_le Z_o hb15.size
                  replace P_n := Lib.hid (pb_below hb15 P_n.out Z_n)
                  replace Z_n := Nat.lt_of_lt_of_le Z_n hb15.size
                  replace P_t := Lib.hid (pb_below hb15 P_t.out Z_t)
                  replace Z_t := Nat.lt_of_lt_of_le Z_t hb15.size
                  replace P_x := Lib.hid (pb_below hb15 P_x.out Z_x)
                  replace Z_x := Nat.lt_of_lt_of_le Z_x hb15.size
                  replace P_y := Lib.hid (pb_below hb15 P_y.out Z_y)
                  replace Z_y := Nat.lt_of_lt_of_le Z_y hb15.size
                  have hz_w15 := hb15.size
                  try simp only [World.size_alloc, World.size_setCell] at hz_w15
                  have hh := bc2 hb15 ⟨c_h0, c_h1⟩
                  clear c_h0 c_h1
                  obtain ⟨c_h0, c_h1⟩ := hh
                  replace z_h := blt hb15 z_h
                  have hh := bc2 hb15 ⟨c_k0, c_k1⟩
                  clear c_k0 c_k1
                  obtain ⟨c_k0, c_k1⟩ := hh
                  replace z_k := blt hb15 z_k
                  have HB15 := Lib.hid (below_via hb15 HB14.out HB14.out.size)
                  have HF15 := Lib.hid (below_via hb15 HF14.out HF14.out.size)
                  have HLA5 := Lib.hid (owns_below HLA4.out hb15)
                  have HLB5 := Lib.hid (owns_below HLB4.out hb15)
                  clear LB14 HLA4 HLB4
                  clear hb15 HB14 HF14
                  go_wp2_with (first | refine wpl_loadv 33 (.tmp 4) (w.heap.size) [.int .u8 c.tag, .int .i64 c.most, .int .i64 c.seg, .int .i64 c.least, .int .i64 c.den, .int .i64 c.ll, .int .i64 c.rl, .int .i64 c.rh, .int .i64 c.lh, .int .i64 s.seg, .slice wa s.ws.length wc, .slice ka s.ks.length kc, .slice va s.vs.length vc, .slice ca s.cs.length cc, .int .u64 s.laid, .slice ga gs.length gc, .slice pa ps.length pc, .int .u64 mv] v_m HV_m.out rfl rfl rfl Tryz.underlying33 rfl (by kernel_rfl) P_m.out ?_)
                  go_wp2_with fail
                  refine (LQ.out _ HB15.out).mono ?_
                  rintro e w16 ⟨rfl, hb16⟩
                  replace P_m := Lib.hid (pb_below hb16 P_m.out Z_m)
                  replace Z_m := Nat.lt_of_lt_of_le Z_m hb16.size
                  replace P_o := Lib.hid (pb_below hb16 P_o.out Z_o)
                  replace Z_o := Nat.lt_of_lt_of_le Z_o hb16.size
                  replace P_n := Lib.hid (pb_below hb16 P_n.out Z_n)
                  replace Z_n := Nat.lt_of_lt_of_le Z_n hb16.size
                  replace P_t := Lib.hid (pb_below hb16 P_t.out Z_t)
                  replace Z_t := Nat.lt_of_lt_of_le Z_t hb16.size
                  replace P_x := Lib.hid (pb_below hb16 P_x.out Z_x)
                  replace Z_x := Nat.lt_of_lt_of_le Z_x hb16.size
                  replace P_y := Lib.hid (pb_below hb16 P_y.out Z_y)
                  replace Z_y := Nat.lt_of_lt_of_le Z_y hb16.size
                  have hz_w16 := hb16.size
                  try simp only [World.size_alloc, World.size_setCell] at hz_w16
                  have hh := bc2 hb16 ⟨c_h0, c_h1⟩
                  clear c_h0 c_h1
                  obtain ⟨c_h0, c_h1⟩ := hh
                  replace z_h := blt hb16 z_h
                  have hh := bc2 hb16 ⟨c_k0, c_k1⟩
                  clear c_k0 c_k1
                  obtain ⟨c_k0, c_k1⟩ := hh
                  replace z_k := blt hb16 z_k
                  have HB16 := Lib.hid (below_via hb16 HB15.out HB15.out.size)
                  have HF16 := Lib.hid (below_via hb16 HF15.out HF15.out.size)
                  have HLA6 := Lib.hid (owns_below HLA5.out hb16)
                  have HLB6 := Lib.hid (owns_below HLB5.out hb16)
                  clear HLA5 HLB5
                  clear hb16 HB15 HF15
                  as_aux_lemma =>
                    go_upto_region 13 with (fail)
                    have HN16 := Lib.hid (HN10.out.below HF16.out)
                    have HX16 := Lib.hid (HX10.out.below HF16.out)
                    have HY16 := Lib.hid (HY10.out.below HF16.out)
                    have HC16 := Lib.hid (below_via HF16.out HC10.out HC10.out.size)
                    have HE16 := Lib.hid (below_via HF16.out HE10.out HE10.out.size)
                    have HT16 := Lib.hid (HT5.out.below HE16.out)
                    replace CO := Lib.hid (fun W' (h : Below w16.heap.size w16 W') => CO.out W' ⟨a1, a2, a3, a4, k1, k2, k3, k4⟩ a5 a6 k5 k6 (below_via h HB16.out HB16.out.size) (HN16.out.below h) HCC.out)
                    replace CM := Lib.hid (fun W' (h : Below w16.heap.size w16 W') => CM.out W' (below_via h HB16.out HB16.out.size))
                    replace S1 := Lib.hid (fun W' (h : Below w16.heap.size w16 W') => S1.out W' ⟨a1, a2, a3, a4, k1, k2, k3, k4⟩ a5 a6 k5 k6 (below_via h HB16.out HB16.out.size) (HN16.out.below h))
                    replace S2 := Lib.hid (fun W' (h : Below w16.heap.size w16 W') => S2.out W' (below_via h HB16.out HB16.out.size))
                    replace S3 := Lib.hid (fun W' (h : Below w16.heap.size w16 W') => S3.out W' ⟨a1, a2, a3, a4, k1, k2, k3, k4⟩ a5 a6 k5 k6 (below_via h HB16.out HB16.out.size) (HN16.out.below h))
                    have S6 := S4
                    replace S4 := Lib.hid (fun W' (h : Below w16.heap.size w16 W') => S4.out W' ⟨b1, b2, b3, b4, j1, j2, j3, j4⟩ b5 b6 j5 j6 (below_via h HB16.out HB16.out.size) (HT16.out.below h))
                    replace S5 := Lib.hid (fun W' (h : Below w16.heap.size w16 W') => S5.out W' ⟨e1, e2, e3, e4, l1, l2, l3, l4⟩ e5 e6 l5 l6 ⟨f1, f2, f3, f4, q1, q2, q3, q4⟩ f5 f6 q5 q6 (below_via h HB16.out HB16.out.size) (HX16.out.below h) (HY16.out.below h))
                    dsimp only [omV, List.length_nil] at CO CM S1 S2 S3 S4 S5
                    as_aux_lemma =>
                      refine Code.wp_mono ?_ (OT_reg w16 _ _ _ _ _ _ _ _ _ _ _ _ _ _ _ _ _ _ _ _ _ _ _ _ _ _ _ _ _ _ _ _ _ _ _ _ _ _ _ _ _ _ _ _ _ _ _ _ _ _ _ _ _ _ _ _ _ _ _ _ _ _ _ _ _ _ _ _ _ _ _ _ _ _ _ _ _ _ _ _ _ _ _ _ _ _ _ _ _ _ _ _ _ _ _ _ _ _ _ _ _ _ _ _ _ _ _ _ _ _ _ _ _ _ _ _ _ _ _ _ _ _ _ _ _ _ _ _ _ _ _ _ _ _ _ _ _ _ _ _ _ _ _ _ _ _ _ _ _ _ _ _ _ _ _ _ _ _ _ _ _ _ _ _ _ _ _ _ _ _ _ _ _ _ _ _ _ _ _ _ _ _ _ _ _ _ _ _ _ _ _ _ _ _ _ _ _ _ _ _ _ _ _ _ _ _ _ _ _ _ _ _ _ _ _ _ _ _ _ _ _ _ _ _ _ _ _ _ _ _ _ _ _ _ _ _ _ _ _ _ _ _ _ _ _ _ _ _ _ _ _ _ _ _ _ _ _ _ _ _ _ _ _ _ _ pe ce bb P_m P_o P_n P_t P_x P_y CO CM S1 S2 S3 S4 S5)
                      intro e a' wx hq
                      cases e with
                      | exit id => exact hq.elim
                      | goto l => exact hq.elim
                      | ret => exact hq.elim
                      | panic ch => exact hq.elim
                      | outgrown => exact hq.elim
                      | normal =>
                      obtain ⟨⟨dq, osq, hwq⟩, u86, u87, u88, u89, u90, u91, u92, u93, u94, u95, u96, u97, u98, u99, u100, u101, u102, u103, u104, u105, u106, u107, u108, u109, u110, u111, u112, u113, u114, u115, u116, u117, u118, u119, rfl⟩ := hq
                      have hbq : Below w16.heap.size w16 wx := by rw [hwq]; exact below_regrown w16 dq osq
                      clear hwq
                      clear CO CM S1 S2 S3 S4 S5
                      as_aux_lemma =>
                        replace P_m := Lib.hid (pb_below hbq P_m.out Z_m)
                        replace Z_m := Nat.lt_of_lt_of_le Z_m hbq.size
                        replace P_n := Lib.hid (pb_below hbq P_n.out Z_n)
                        replace Z_n := Nat.lt_of_lt_of_le Z_n hbq.size
                        replace P_t := Lib.hid (pb_below hbq P_t.out Z_t)
                        replace Z_t := Nat.lt_of_lt_of_le Z_t hbq.size
                        have hz_wx := hbq.size
                        try simp only [World.size_alloc, World.size_setCell] at hz_wx
                        have HBx := Lib.hid (below_via hbq HB16.out HB16.out.size)
                        have HCx := Lib.hid (below_via hbq HC16.out HC16.out.size)
                        have HLA7 := Lib.hid (owns_below HLA6.out hbq)
                        have HLB7 := Lib.hid (owns_below HLB6.out hbq)
                        have HEx := Lib.hid (below_via hbq HE16.out HE16.out.size)
                        have SP := Lib.hid (spoil15_ok c s.seg s.laid mv w4.heap.size b1 b2 b3 b4 b5 b6 j1 j2 j3 j4 j5 j6 s.ws.length s.ks.length s.vs.length s.cs.length gs.length ps.length wx ⟨s.ks, rfl, owns_below HQ5.out.2.1 HEx.out⟩ ⟨s.cs, rfl, owns_below HQ5.out.2.2.2.1 HEx.out⟩ ⟨ps, rfl, owns_below HQ5.out.2.2.2.2.2 HEx.out⟩ ⟨gs, rfl, owns_below HQ5.out.2.2.2.2.1 HEx.out⟩ HCx.out.size HBD.out.1 HBD.out.2.1 HBD.out.2.2.2 HBD.out.2.2.1)
                        rw [HV_t.out] at SP
                        clear hbq HQ5
                        go_wp2_with (first | refine wpl_loadv 33 (.tmp 10) (w5.heap.size) [.int .u8 c.tag, .int .i64 c.most, .int .i64 c.seg, .int .i64 c.least, .int .i64 c.den, .int .i64 c.ll, .int .i64 c.rl, .int .i64 c.rh, .int .i64 c.lh, .int .i64 s.seg, .slice b1 s.ws.length j1, .slice b2 s.ks.length j2, .slice b3 s.vs.length j3, .slice b4 s.cs.length j4, .int .u64 s.laid, .slice b5 gs.length j5, .slice b6 ps.length j6, .int .u64 mv] v_t HV_t.out rfl rfl rfl Tryz.underlying33 rfl (by kernel_rfl) P_t.out ?_)
                        refine SP.out.mono ?_
                        rintro e' wA ⟨⟨vv, rfl⟩, hbA, hkA⟩
                        obtain ⟨xa, xca, hxa, hla, -, -, -, -⟩ := row_of_owns (hkA.owns HLA7.out (by decide) (by decide))
                        cases hxa
                        obtain ⟨xb, xcb, hxb, hlb, -, -, -, -⟩ := row_of_owns (hkA.owns HLB7.out (by decide) (by decide))
                        cases hxb
                        have HCA := Lib.hid (HCx.out.trans hbA)
                        have hzA := hbA.size
                        have hcA : ∀ {p : Addr} {v : Value}, p.block < w4.heap.size → wx.cell? p = some v → wA.cell? p = some v := fun hp hc => (hbA.cell hp).trans hc
                        replace P_m := Lib.hid (pb_via (fun p v => hcA (p := p) (v := v)) P_m.out hzm4)
                        replace P_n := Lib.hid (pb_via (fun p v => hcA (p := p) (v := v)) P_n.out hz34)
                        replace Z_m := Nat.lt_of_lt_of_le Z_m hzA
                        replace Z_n := Nat.lt_of_lt_of_le Z_n hzA
                        have HBA := Lib.hid (below_via HCA.out HB4.out HB4.out.size)
                        have HNA := Lib.hid (HN4'.out.below HCA.out)
                        have SHA := Lib.hid (SH.out wA la lb lca lcb hla hlb)
                        clear hcA hbA hkA hla hlb SP HLA7 HLB7
                        as_aux_lemma =>
                          go_wp2_with fail
                          refine SHA.out.mono ?_
                          rintro e' wB ⟨rfl, hbB⟩
                          have HBB := Lib.hid (below_via hbB HBA.out HBA.out.size)
                          have SA := Lib.hid (S6.out wB ⟨a1, a2, a3, a4, k1, k2, k3, k4⟩ a5 a6 k5 k6 HBB.out (HNA.out.below hbB))
                          dsimp only [omV] at SA
                          rw [HV_n.out, HV_m.out] at SA
                          replace P_m := Lib.hid (pb_below hbB P_m.out Z_m)
                          replace P_n := Lib.hid (pb_below hbB P_n.out Z_n)
                          clear hbB SHA
                          as_aux_lemma =>
                            go_wp2_with (first | refine wpl_loadv 33 (.tmp 9) (w3.heap.size) [.int .u8 c.tag, .int .i64 c.most, .int .i64 c.seg, .int .i64 c.least, .int .i64 c.den, .int .i64 c.ll, .int .i64 c.rl, .int .i64 c.rh, .int .i64 c.lh, .int .i64 s.seg, .slice a1 s.ws.length k1, .slice a2 s.ks.length k2, .slice a3 s.vs.length k3, .slice a4 s.cs.length k4, .int .u64 s.laid, .slice a5 gs.length k5, .slice a6 ps.length k6, .int .u64 mv] v_n HV_n.out rfl rfl rfl Tryz.underlying33 rfl (by kernel_rfl) P_n.out ?_ | refine wpl_loadv 33 (.tmp 4) (w.heap.size) [.int .u8 c.tag, .int .i64 c.most, .int .i64 c.seg, .int .i64 c.least, .int .i64 c.den, .int .i64 c.ll, .int .i64 c.rl, .int .i64 c.rh, .int .i64 c.lh, .int .i64 s.seg, .slice wa s.ws.length wc, .slice ka s.ks.length kc, .slice va s.vs.length vc, .slice ca s.cs.length cc, .int .u64 s.laid, .slice ga gs.length gc, .slice pa ps.length pc, .int .u64 mv] v_m HV_m.out rfl rfl rfl Tryz.underlying33 rfl (by kernel_rfl) P_m.out ?_)
                            refine SA.out.mono ?_
                            rintro e' wC ⟨rfl, hbC⟩
                            have HBC := Lib.hid (below_via hbC HBB.out HBB.out.size)
                            clear hbC
                            as_aux_lemma =>
                              go_wp2
                              go_ret
                              exact ⟨rfl, HBC.out⟩
end
end Go.Proofs.YtjhpblejlchhjaaGreat

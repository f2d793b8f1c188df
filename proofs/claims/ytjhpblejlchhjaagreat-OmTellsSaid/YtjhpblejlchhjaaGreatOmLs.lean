/- List. -/
import Derived.Test.YtjhpblejlchhjaaGreatOmAl
import Derived.Test.YtjhpblejlchhjaaGreatOmTw
namespace Go.Proofs.YtjhpblejlchhjaaGreat
set_option maxRecDepth 100000
set_option maxHeartbeats 4000000
open Go.RowKit Go.Shelf
attribute [local go_sem] Oper.semAt_some
set_option linter.unusedVariables false
set_option linter.unusedSimpArgs false

theorem List15_err (c : Cfg) (s : SlC) (wa ka va ca : Option Addr) (wc kc vc cc : Nat) (gs ps : List Int) (mv : Int) (ga pa : Option Addr) (gc pc : Nat) (e : Int) (he : e ≠ 0) (w : World) (CK : Hid (∀ W, Below w.heap.size w W → Calls Tryz.prog 16 #[.agg #[.int .u8 c.tag, .int .i64 c.most, .int .i64 c.seg, .int .i64 c.least, .int .i64 c.den, .int .i64 c.ll, .int .i64 c.rl, .int .i64 c.rh, .int .i64 c.lh, .int .i64 s.seg, .slice wa s.ws.length wc, .slice ka s.ks.length kc, .slice va s.vs.length vc, .slice ca s.cs.length cc, .int .u64 s.laid, .slice ga gs.length gc, .slice pa ps.length pc, .int .u64 mv]] W (AnsB W (.int .i64 e)))) :
    Calls Tryz.prog 10 #[.agg #[.int .u8 c.tag, .int .i64 c.most, .int .i64 c.seg, .int .i64 c.least, .int .i64 c.den, .int .i64 c.ll, .int .i64 c.rl, .int .i64 c.rh, .int .i64 c.lh, .int .i64 s.seg, .slice wa s.ws.length wc, .slice ka s.ks.length kc, .slice va s.vs.length vc, .slice ca s.cs.length cc, .int .u64 s.laid, .slice ga gs.length gc, .slice pa ps.length pc, .int .u64 mv]] w (FreshHd2 w [] (.int .i64 e)) := by
  have g1 : (e != 0) = true := by simpa using he
  go_enter Tryz.func10, Tryz.ntmps10
  go_upto_region 1 with (fail)
  generalize hw0 : (w.alloc (.cells #[.int .u8 c.tag, .int .i64 c.most, .int .i64 c.seg, .int .i64 c.least, .int .i64 c.den, .int .i64 c.ll, .int .i64 c.rl, .int .i64 c.rh, .int .i64 c.lh, .int .i64 s.seg, .slice wa s.ws.length wc, .slice ka s.ks.length kc, .slice va s.vs.length vc, .slice ca s.cs.length cc, .int .u64 s.laid, .slice ga gs.length gc, .slice pa ps.length pc, .int .u64 mv] 33)) = w0
  have hh := ec18 hw0 (al18 (b := w.heap.size) (by simp))
  obtain ⟨c_t0, c_t1, c_t2, c_t3, c_t4, c_t5, c_t6, c_t7, c_t8, c_t9, c_t10, c_t11, c_t12, c_t13, c_t14, c_t15, c_t16, c_t17⟩ := hh
  have z_t := elt hw0 (alz (b := w.heap.size) (by simp))
  have HB0 : Hid (Below w.heap.size w w0) := by rw [← hw0]; exact Lib.hid ((Below.refl _ _).alloc (by first | exact Nat.le_refl _ | (simp; done) | (simp; omega)) _)
  clear hw0
  go_wp2_with (refine wpl_load 33 (.tmp 1) (w.heap.size) [.int .u8 c.tag, .int .i64 c.most, .int .i64 c.seg, .int .i64 c.least, .int .i64 c.den, .int .i64 c.ll, .int .i64 c.rl, .int .i64 c.rh, .int .i64 c.lh, .int .i64 s.seg, .slice wa s.ws.length wc, .slice ka s.ks.length kc, .slice va s.vs.length vc, .slice ca s.cs.length cc, .int .u64 s.laid, .slice ga gs.length gc, .slice pa ps.length pc, .int .u64 mv] rfl rfl rfl Tryz.underlying33 rfl (by kernel_rfl) (list18 ⟨c_t0, c_t1, c_t2, c_t3, c_t4, c_t5, c_t6, c_t7, c_t8, c_t9, c_t10, c_t11, c_t12, c_t13, c_t14, c_t15, c_t16, c_t17⟩) ?_)
  go_wp2_with fail
  refine (CK.out _ HB0.out).mono ?_
  rintro e w1 ⟨rfl, hb1⟩
  have hz_w1 := hb1.size
  try simp only [World.size_alloc, World.size_setCell] at hz_w1
  have hh := bc18 hb1 ⟨c_t0, c_t1, c_t2, c_t3, c_t4, c_t5, c_t6, c_t7, c_t8, c_t9, c_t10, c_t11, c_t12, c_t13, c_t14, c_t15, c_t16, c_t17⟩
  clear c_t0 c_t1 c_t2 c_t3 c_t4 c_t5 c_t6 c_t7 c_t8 c_t9 c_t10 c_t11 c_t12 c_t13 c_t14 c_t15 c_t16 c_t17
  obtain ⟨c_t0, c_t1, c_t2, c_t3, c_t4, c_t5, c_t6, c_t7, c_t8, c_t9, c_t10, c_t11, c_t12, c_t13, c_t14, c_t15, c_t16, c_t17⟩ := hh
  replace z_t := blt hb1 z_t
  have HB1 := Lib.hid (below_via hb1 HB0.out HB0.out.size)
  clear hb1
  go_wp2
  go_ret2
  exact ⟨_, rfl, World.ownsRow_nil _ _ _ _, HB1.out⟩
theorem omList_err (c : Cfg) (s : SlC) (wa ka va ca : Option Addr) (wc kc vc cc : Nat) (gs ps : List Int) (mv : Int) (ga pa : Option Addr) (gc pc : Nat) (e : Int) (he : e ≠ 0) (w : World) (CK : Hid (∀ W, Below w.heap.size w W → Calls Tryz.prog 15 #[.agg #[.int .u8 c.tag, .int .i64 c.most, .int .i64 c.seg, .int .i64 c.least, .int .i64 c.den, .int .i64 c.ll, .int .i64 c.rl, .int .i64 c.rh, .int .i64 c.lh, .int .i64 s.seg, .slice wa s.ws.length wc, .slice ka s.ks.length kc, .slice va s.vs.length vc, .slice ca s.cs.length cc, .int .u64 s.laid, .slice ga gs.length gc, .slice pa ps.length pc, .int .u64 mv]] W (AnsB W (.int .i64 e)))) :
    Calls Tryz.prog 9 #[.agg #[.int .u8 c.tag, .int .i64 c.most, .int .i64 c.seg, .int .i64 c.least, .int .i64 c.den, .int .i64 c.ll, .int .i64 c.rl, .int .i64 c.rh, .int .i64 c.lh, .int .i64 s.seg, .slice wa s.ws.length wc, .slice ka s.ks.length kc, .slice va s.vs.length vc, .slice ca s.cs.length cc, .int .u64 s.laid, .slice ga gs.length gc, .slice pa ps.length pc, .int .u64 mv]] w (FreshHd2 w [] (.int .i64 e)) := by
  have g1 : (e != 0) = true := by simpa using he
  go_enter Tryz.func9, Tryz.ntmps9
  go_upto_region 1 with (fail)
  generalize hw0 : (w.alloc (.cells #[.int .u8 c.tag, .int .i64 c.most, .int .i64 c.seg, .int .i64 c.least, .int .i64 c.den, .int .i64 c.ll, .int .i64 c.rl, .int .i64 c.rh, .int .i64 c.lh, .int .i64 s.seg, .slice wa s.ws.length wc, .slice ka s.ks.length kc, .slice va s.vs.length vc, .slice ca s.cs.length cc, .int .u64 s.laid, .slice ga gs.length gc, .slice pa ps.length pc, .int .u64 mv] 33)) = w0
  have hh := ec18 hw0 (al18 (b := w.heap.size) (by simp))
  obtain ⟨c_t0, c_t1, c_t2, c_t3, c_t4, c_t5, c_t6, c_t7, c_t8, c_t9, c_t10, c_t11, c_t12, c_t13, c_t14, c_t15, c_t16, c_t17⟩ := hh
  have z_t := elt hw0 (alz (b := w.heap.size) (by simp))
  have HB0 : Hid (Below w.heap.size w w0) := by rw [← hw0]; exact Lib.hid ((Below.refl _ _).alloc (by first | exact Nat.le_refl _ | (simp; done) | (simp; omega)) _)
  clear hw0
  go_wp2_with (refine wpl_load 33 (.tmp 1) (w.heap.size) [.int .u8 c.tag, .int .i64 c.most, .int .i64 c.seg, .int .i64 c.least, .int .i64 c.den, .int .i64 c.ll, .int .i64 c.rl, .int .i64 c.rh, .int .i64 c.lh, .int .i64 s.seg, .slice wa s.ws.length wc, .slice ka s.ks.length kc, .slice va s.vs.length vc, .slice ca s.cs.length cc, .int .u64 s.laid, .slice ga gs.length gc, .slice pa ps.length pc, .int .u64 mv] rfl rfl rfl Tryz.underlying33 rfl (by kernel_rfl) (list18 ⟨c_t0, c_t1, c_t2, c_t3, c_t4, c_t5, c_t6, c_t7, c_t8, c_t9, c_t10, c_t11, c_t12, c_t13, c_t14, c_t15, c_t16, c_t17⟩) ?_)
  go_wp2_with fail
  refine (CK.out _ HB0.out).mono ?_
  rintro e w1 ⟨rfl, hb1⟩
  have hz_w1 := hb1.size
  try simp only [World.size_alloc, World.size_setCell] at hz_w1
  have hh := bc18 hb1 ⟨c_t0, c_t1, c_t2, c_t3, c_t4, c_t5, c_t6, c_t7, c_t8, c_t9, c_t10, c_t11, c_t12, c_t13, c_t14, c_t15, c_t16, c_t17⟩
  clear c_t0 c_t1 c_t2 c_t3 c_t4 c_t5 c_t6 c_t7 c_t8 c_t9 c_t10 c_t11 c_t12 c_t13 c_t14 c_t15 c_t16 c_t17
  obtain ⟨c_t0, c_t1, c_t2, c_t3, c_t4, c_t5, c_t6, c_t7, c_t8, c_t9, c_t10, c_t11, c_t12, c_t13, c_t14, c_t15, c_t16, c_t17⟩ := hh
  replace z_t := blt hb1 z_t
  have HB1 := Lib.hid (below_via hb1 HB0.out HB0.out.size)
  clear hb1
  go_wp2
  go_ret2
  exact ⟨_, rfl, World.ownsRow_nil _ _ _ _, HB1.out⟩
theorem List15_in (c : Cfg) (s : SlC) (wa ka va ca : Option Addr) (wc kc vc cc : Nat) (gs ps : List Int) (mv : Int) (ga pa : Option Addr) (gc pc : Nat) (H : List (Int × Int)) (w : World) (CK : Hid (∀ W, Below w.heap.size w W → Calls Tryz.prog 16 #[.agg #[.int .u8 c.tag, .int .i64 c.most, .int .i64 c.seg, .int .i64 c.least, .int .i64 c.den, .int .i64 c.ll, .int .i64 c.rl, .int .i64 c.rh, .int .i64 c.lh, .int .i64 s.seg, .slice wa s.ws.length wc, .slice ka s.ks.length kc, .slice va s.vs.length vc, .slice ca s.cs.length cc, .int .u64 s.laid, .slice ga gs.length gc, .slice pa ps.length pc, .int .u64 mv]] W (AnsB W (.int .i64 0)))) (AL : Hid (∀ W, Below w.heap.size w W → Calls Tryz.prog 30 #[.agg #[.int .u8 c.tag, .int .i64 c.most, .int .i64 c.seg, .int .i64 c.least, .int .i64 c.den, .int .i64 c.ll, .int .i64 c.rl, .int .i64 c.rh, .int .i64 c.lh, .int .i64 s.seg, .slice wa s.ws.length wc, .slice ka s.ks.length kc, .slice va s.vs.length vc, .slice ca s.cs.length cc, .int .u64 s.laid, .slice ga gs.length gc, .slice pa ps.length pc, .int .u64 mv]] W (FreshHd W H))) :
    Calls Tryz.prog 10 #[.agg #[.int .u8 c.tag, .int .i64 c.most, .int .i64 c.seg, .int .i64 c.least, .int .i64 c.den, .int .i64 c.ll, .int .i64 c.rl, .int .i64 c.rh, .int .i64 c.lh, .int .i64 s.seg, .slice wa s.ws.length wc, .slice ka s.ks.length kc, .slice va s.vs.length vc, .slice ca s.cs.length cc, .int .u64 s.laid, .slice ga gs.length gc, .slice pa ps.length pc, .int .u64 mv]] w (FreshHd2 w H (.int .i64 0)) := by
  go_enter Tryz.func10, Tryz.ntmps10
  go_upto_region 1 with (fail)
  generalize hw0 : (w.alloc (.cells #[.int .u8 c.tag, .int .i64 c.most, .int .i64 c.seg, .int .i64 c.least, .int .i64 c.den, .int .i64 c.ll, .int .i64 c.rl, .int .i64 c.rh, .int .i64 c.lh, .int .i64 s.seg, .slice wa s.ws.length wc, .slice ka s.ks.length kc, .slice va s.vs.length vc, .slice ca s.cs.length cc, .int .u64 s.laid, .slice ga gs.length gc, .slice pa ps.length pc, .int .u64 mv] 33)) = w0
  have hh := ec18 hw0 (al18 (b := w.heap.size) (by simp))
  obtain ⟨c_t0, c_t1, c_t2, c_t3, c_t4, c_t5, c_t6, c_t7, c_t8, c_t9, c_t10, c_t11, c_t12, c_t13, c_t14, c_t15, c_t16, c_t17⟩ := hh
  have z_t := elt hw0 (alz (b := w.heap.size) (by simp))
  have HB0 : Hid (Below w.heap.size w w0) := by rw [← hw0]; exact Lib.hid ((Below.refl _ _).alloc (by first | exact Nat.le_refl _ | (simp; done) | (simp; omega)) _)
  clear hw0
  go_wp2_with (refine wpl_load 33 (.tmp 1) (w.heap.size) [.int .u8 c.tag, .int .i64 c.most, .int .i64 c.seg, .int .i64 c.least, .int .i64 c.den, .int .i64 c.ll, .int .i64 c.rl, .int .i64 c.rh, .int .i64 c.lh, .int .i64 s.seg, .slice wa s.ws.length wc, .slice ka s.ks.length kc, .slice va s.vs.length vc, .slice ca s.cs.length cc, .int .u64 s.laid, .slice ga gs.length gc, .slice pa ps.length pc, .int .u64 mv] rfl rfl rfl Tryz.underlying33 rfl (by kernel_rfl) (list18 ⟨c_t0, c_t1, c_t2, c_t3, c_t4, c_t5, c_t6, c_t7, c_t8, c_t9, c_t10, c_t11, c_t12, c_t13, c_t14, c_t15, c_t16, c_t17⟩) ?_)
  go_wp2_with fail
  refine (CK.out _ HB0.out).mono ?_
  rintro e w1 ⟨rfl, hb1⟩
  have hz_w1 := hb1.size
  try simp only [World.size_alloc, World.size_setCell] at hz_w1
  have hh := bc18 hb1 ⟨c_t0, c_t1, c_t2, c_t3, c_t4, c_t5, c_t6, c_t7, c_t8, c_t9, c_t10, c_t11, c_t12, c_t13, c_t14, c_t15, c_t16, c_t17⟩
  clear c_t0 c_t1 c_t2 c_t3 c_t4 c_t5 c_t6 c_t7 c_t8 c_t9 c_t10 c_t11 c_t12 c_t13 c_t14 c_t15 c_t16 c_t17
  obtain ⟨c_t0, c_t1, c_t2, c_t3, c_t4, c_t5, c_t6, c_t7, c_t8, c_t9, c_t10, c_t11, c_t12, c_t13, c_t14, c_t15, c_t16, c_t17⟩ := hh
  replace z_t := blt hb1 z_t
  have HB1 := Lib.hid (below_via hb1 HB0.out HB0.out.size)
  clear hb1
  go_wp2_with (refine wpl_load 33 (.tmp 1) (w.heap.size) [.int .u8 c.tag, .int .i64 c.most, .int .i64 c.seg, .int .i64 c.least, .int .i64 c.den, .int .i64 c.ll, .int .i64 c.rl, .int .i64 c.rh, .int .i64 c.lh, .int .i64 s.seg, .slice wa s.ws.length wc, .slice ka s.ks.length kc, .slice va s.vs.length vc, .slice ca s.cs.length cc, .int .u64 s.laid, .slice ga gs.length gc, .slice pa ps.length pc, .int .u64 mv] rfl rfl rfl Tryz.underlying33 rfl (by kernel_rfl) (list18 ⟨c_t0, c_t1, c_t2, c_t3, c_t4, c_t5, c_t6, c_t7, c_t8, c_t9, c_t10, c_t11, c_t12, c_t13, c_t14, c_t15, c_t16, c_t17⟩) ?_)
  go_wp2_with fail
  refine (AL.out _ HB1.out).mono ?_
  rintro e w2 ⟨v, rfl, ho, hb2⟩
  have hz_w2 := hb2.size
  try simp only [World.size_alloc, World.size_setCell] at hz_w2
  have hh := bc18 hb2 ⟨c_t0, c_t1, c_t2, c_t3, c_t4, c_t5, c_t6, c_t7, c_t8, c_t9, c_t10, c_t11, c_t12, c_t13, c_t14, c_t15, c_t16, c_t17⟩
  clear c_t0 c_t1 c_t2 c_t3 c_t4 c_t5 c_t6 c_t7 c_t8 c_t9 c_t10 c_t11 c_t12 c_t13 c_t14 c_t15 c_t16 c_t17
  obtain ⟨c_t0, c_t1, c_t2, c_t3, c_t4, c_t5, c_t6, c_t7, c_t8, c_t9, c_t10, c_t11, c_t12, c_t13, c_t14, c_t15, c_t16, c_t17⟩ := hh
  replace z_t := blt hb2 z_t
  have HB2 := Lib.hid (below_via hb2 HB1.out HB1.out.size)
  have HO := Lib.hid (owns_base ho HB1.out.size)
  obtain ⟨a1, k1, rfl, -⟩ := owns_news ho
  clear hb2 ho
  go_wp2
  go_ret2
  exact ⟨_, rfl, HO.out, HB2.out⟩
def FactR.hd1 (base : Nat) (x : Nat) (g : Int) : FactR RB :=
  ⟨fun v w => ∃ b, v = .slice (some ⟨b, 0, none⟩) 1 1 ∧ w.ownsRow base 35 2 (.slice (some ⟨b, 0, none⟩) 1 1) 1 [.int .i64 (x : Int), .int .i64 g], fun _ _ _ h ⟨b, e, h1⟩ => ⟨b, e, owns_below h1 h⟩⟩
theorem omList_in (c : Cfg) (s : SlC) (wa ka va ca : Option Addr) (wc kc vc cc : Nat) (gs ps : List Int) (mv : Int) (ga pa : Option Addr) (gc pc : Nat) (L H : List (Int × Int)) (m : Nat) (hm : L.length = m) (hH : H.length = m) (hm2 : m ≤ 65536) (hg : ∀ i, i < m → 0 ≤ (L.getD i (0, 0)).1 ∧ (L.getD i (0, 0)).1 < gs.length ∧ H.getD i (0, 0) = ((L.getD i (0, 0)).1, gs.getD (L.getD i (0, 0)).1.toNat 0)) (w : World) (hgs : IsRow .i64 w ga gs)
    (CK : Hid (∀ W, Below w.heap.size w W → Calls Tryz.prog 15 #[.agg #[.int .u8 c.tag, .int .i64 c.most, .int .i64 c.seg, .int .i64 c.least, .int .i64 c.den, .int .i64 c.ll, .int .i64 c.rl, .int .i64 c.rh, .int .i64 c.lh, .int .i64 s.seg, .slice wa s.ws.length wc, .slice ka s.ks.length kc, .slice va s.vs.length vc, .slice ca s.cs.length cc, .int .u64 s.laid, .slice ga gs.length gc, .slice pa ps.length pc, .int .u64 mv]] W (AnsB W (.int .i64 0)))) (PR : Hid (∀ W, Below w.heap.size w W → Calls Tryz.prog 29 #[.agg #[.int .i64 s.seg, .slice wa s.ws.length wc, .slice ka s.ks.length kc, .slice va s.vs.length vc, .slice ca s.cs.length cc, .int .u64 s.laid], .int .i64 0, .int .i64 s.ks.length] W (FreshPr2 W L (.int .i64 0)))) :
    Calls Tryz.prog 9 #[.agg #[.int .u8 c.tag, .int .i64 c.most, .int .i64 c.seg, .int .i64 c.least, .int .i64 c.den, .int .i64 c.ll, .int .i64 c.rl, .int .i64 c.rh, .int .i64 c.lh, .int .i64 s.seg, .slice wa s.ws.length wc, .slice ka s.ks.length kc, .slice va s.vs.length vc, .slice ca s.cs.length cc, .int .u64 s.laid, .slice ga gs.length gc, .slice pa ps.length pc, .int .u64 mv]] w (FreshHd2 w H (.int .i64 0)) := by
  have HGG := Lib.hid hg
  have HGS := Lib.hid hgs
  have HM := Lib.hid hm
  have HHL := Lib.hid hH
  have HTK := Lib.hid (fun k (h : k < m) x y hx => take_hd (l := H) (k := k) (by rw [hH]; exact h) (x := x) (y := y) hx)
  clear hg hgs hm hH
  go_enter Tryz.func9, Tryz.ntmps9
  go_upto_region 1 with (fail)
  generalize hw0 : (w.alloc (.cells #[.int .u8 c.tag, .int .i64 c.most, .int .i64 c.seg, .int .i64 c.least, .int .i64 c.den, .int .i64 c.ll, .int .i64 c.rl, .int .i64 c.rh, .int .i64 c.lh, .int .i64 s.seg, .slice wa s.ws.length wc, .slice ka s.ks.length kc, .slice va s.vs.length vc, .slice ca s.cs.length cc, .int .u64 s.laid, .slice ga gs.length gc, .slice pa ps.length pc, .int .u64 mv] 33)) = w0
  have hh := ec18 hw0 (al18 (b := w.heap.size) (by simp))
  obtain ⟨c_t0, c_t1, c_t2, c_t3, c_t4, c_t5, c_t6, c_t7, c_t8, c_t9, c_t10, c_t11, c_t12, c_t13, c_t14, c_t15, c_t16, c_t17⟩ := hh
  have z_t := elt hw0 (alz (b := w.heap.size) (by simp))
  have HB0 : Hid (Below w.heap.size w w0) := by rw [← hw0]; exact Lib.hid ((Below.refl _ _).alloc (by first | exact Nat.le_refl _ | (simp; done) | (simp; omega)) _)
  clear hw0
  go_wp2_with (refine wpl_load 33 (.tmp 1) (w.heap.size) [.int .u8 c.tag, .int .i64 c.most, .int .i64 c.seg, .int .i64 c.least, .int .i64 c.den, .int .i64 c.ll, .int .i64 c.rl, .int .i64 c.rh, .int .i64 c.lh, .int .i64 s.seg, .slice wa s.ws.length wc, .slice ka s.ks.length kc, .slice va s.vs.length vc, .slice ca s.cs.length cc, .int .u64 s.laid, .slice ga gs.length gc, .slice pa ps.length pc, .int .u64 mv] rfl rfl rfl Tryz.underlying33 rfl (by kernel_rfl) (list18 ⟨c_t0, c_t1, c_t2, c_t3, c_t4, c_t5, c_t6, c_t7, c_t8, c_t9, c_t10, c_t11, c_t12, c_t13, c_t14, c_t15, c_t16, c_t17⟩) ?_)
  go_wp2_with fail
  refine (CK.out _ HB0.out).mono ?_
  rintro e w1 ⟨rfl, hb1⟩
  have hz_w1 := hb1.size
  try simp only [World.size_alloc, World.size_setCell] at hz_w1
  have hh := bc18 hb1 ⟨c_t0, c_t1, c_t2, c_t3, c_t4, c_t5, c_t6, c_t7, c_t8, c_t9, c_t10, c_t11, c_t12, c_t13, c_t14, c_t15, c_t16, c_t17⟩
  clear c_t0 c_t1 c_t2 c_t3 c_t4 c_t5 c_t6 c_t7 c_t8 c_t9 c_t10 c_t11 c_t12 c_t13 c_t14 c_t15 c_t16 c_t17
  obtain ⟨c_t0, c_t1, c_t2, c_t3, c_t4, c_t5, c_t6, c_t7, c_t8, c_t9, c_t10, c_t11, c_t12, c_t13, c_t14, c_t15, c_t16, c_t17⟩ := hh
  replace z_t := blt hb1 z_t
  have HB1 := Lib.hid (below_via hb1 HB0.out HB0.out.size)
  clear hb1
  go_wp2_with fail
  refine (PR.out _ HB1.out).mono ?_
  rintro e w2 ⟨v, rfl, ho, hb2⟩
  have hz_w2 := hb2.size
  try simp only [World.size_alloc, World.size_setCell] at hz_w2
  have hh := bc18 hb2 ⟨c_t0, c_t1, c_t2, c_t3, c_t4, c_t5, c_t6, c_t7, c_t8, c_t9, c_t10, c_t11, c_t12, c_t13, c_t14, c_t15, c_t16, c_t17⟩
  clear c_t0 c_t1 c_t2 c_t3 c_t4 c_t5 c_t6 c_t7 c_t8 c_t9 c_t10 c_t11 c_t12 c_t13 c_t14 c_t15 c_t16 c_t17
  obtain ⟨c_t0, c_t1, c_t2, c_t3, c_t4, c_t5, c_t6, c_t7, c_t8, c_t9, c_t10, c_t11, c_t12, c_t13, c_t14, c_t15, c_t16, c_t17⟩ := hh
  replace z_t := blt hb2 z_t
  have HB2 := Lib.hid (below_via hb2 HB1.out HB1.out.size)
  have hz2 := HB2.out.size
  obtain ⟨la, lc, rfl, hi1, -, -, -, -⟩ := row_of_owns ho
  rw [HM.out]
  have HI := Lib.hid hi1
  clear hb2 ho hi1
  go_wp2
  go_loopg [2, 25] m (fun gk hv iv wr => ∃ i : Nat, i + gk = m ∧ iv = .int .i64 i ∧ Hid (wr.ownsRow w2.heap.size 35 2 hv i ((prI (H.take i)).map (Value.int .i64))) ∧ Hid (Below w2.heap.size w2 wr))
  case atStart => exact ⟨0, by omega, rfl, Lib.hid (World.ownsRow_nil _ _ _ _), Lib.hid (Below.refl _ _)⟩
  case round =>
    obtain ⟨i, hi, rfl, HO, HB⟩ := hrel
    obtain ⟨ao, co, rfl, -⟩ := owns_news HO.out
    have hbr := HB.out
    have hz_wr := hbr.size
    try simp only [World.size_alloc, World.size_setCell] at hz_wr
    have hh := bc18 hbr ⟨c_t0, c_t1, c_t2, c_t3, c_t4, c_t5, c_t6, c_t7, c_t8, c_t9, c_t10, c_t11, c_t12, c_t13, c_t14, c_t15, c_t16, c_t17⟩
    clear c_t0 c_t1 c_t2 c_t3 c_t4 c_t5 c_t6 c_t7 c_t8 c_t9 c_t10 c_t11 c_t12 c_t13 c_t14 c_t15 c_t16 c_t17
    obtain ⟨c_t0, c_t1, c_t2, c_t3, c_t4, c_t5, c_t6, c_t7, c_t8, c_t9, c_t10, c_t11, c_t12, c_t13, c_t14, c_t15, c_t16, c_t17⟩ := hh
    replace z_t := blt hbr z_t
    have HB3 := Lib.hid (below_via hbr HB2.out hz2)
    by_cases hlt : i < m
    · obtain ⟨b1, o1, rfl, c0, c1, z1⟩ := pr_get (HI.out.below hbr) (by rw [HM.out]; exact hlt)
      obtain ⟨hx0, hxg, hhg⟩ := HGG.out i hlt
      generalize (L.getD i (0, 0)).2 = yv at *
      generalize hxe : (L.getD i (0, 0)).1 = xv at *
      clear hxe
      obtain ⟨xn, rfl⟩ : ∃ xn : Nat, xv = xn := ⟨xv.toNat, by omega⟩
      rw [Int.toNat_natCast] at hhg
      have hxn : xn < gs.length := by omega
      obtain ⟨gb, go, g, rfl, hgx, hcg0, -⟩ := (HGS.out.below HB3.out).get (i := xn) hxn
      rw [hgx.out] at hhg
      have HT := Lib.hid (HTK.out i hlt _ _ hhg)
      have hlt1 : (prI (H.take i)).length = i * 2 := by rw [prI_length, List.length_take, HHL.out]; omega
      clear hbr hgx hhg
      go_upto_region 8 with (fail)
      generalize hwz : wr.alloc (.cells #[.int .i64 xn, .int .i64 yv] 71) = wz
      have hh := ec18 hwz (au18 (⟨c_t0, c_t1, c_t2, c_t3, c_t4, c_t5, c_t6, c_t7, c_t8, c_t9, c_t10, c_t11, c_t12, c_t13, c_t14, c_t15, c_t16, c_t17⟩))
      clear c_t0 c_t1 c_t2 c_t3 c_t4 c_t5 c_t6 c_t7 c_t8 c_t9 c_t10 c_t11 c_t12 c_t13 c_t14 c_t15 c_t16 c_t17
      obtain ⟨c_t0, c_t1, c_t2, c_t3, c_t4, c_t5, c_t6, c_t7, c_t8, c_t9, c_t10, c_t11, c_t12, c_t13, c_t14, c_t15, c_t16, c_t17⟩ := hh
      replace z_t := elt hwz (auz (z_t))
      have hh := ec2 hwz (al2 (b := wr.heap.size) (by simp))
      obtain ⟨c_p0, c_p1⟩ := hh
      have z_p := elt hwz (alz (b := wr.heap.size) (by simp))
      have hbz : Below wr.heap.size wr wz := by rw [← hwz]; exact (Below.refl _ _).alloc (Nat.le_refl _) _
      have hcg := (hbz.cell (World.block_lt_of_cell? _ _ hcg0)).trans hcg0
      have HOz := Lib.hid (owns_below HO.out hbz)
      have HBz := Lib.hid (below_via hbz HB.out HB.out.size)
      have hzz := HBz.out.size
      clear hwz hbz hcg0 c0 c1
      generalize wr.heap.size = bP at *
      refine wp_region_late 12 (by kernel_rfl) (N := 45) rfl (by kernel_rfl) (by kernel_rfl) (by decide) (fun w' => Below wz.heap.size wz w') RB (factRAt [.is (.slice ao i co), .is (.pointer (some ⟨bP, 0, none⟩)), .is (.int .i64 xn), .is (.pointer (some ⟨w.heap.size, 15, none⟩)), .is (.pointer (some ⟨w.heap.size, 15, none⟩)), .is (.slice (some ⟨gb, go, none⟩) gs.length gc), .is (.pointer (some ⟨bP, 0, none⟩)), .is (.int .i64 xn), .is (.pointer (some ⟨gb, go + xn, none⟩)), .is (.int .i64 g), .is (.agg #[.int .i64 xn, .int .i64 g]), .hd1 wz.heap.size xn g]) (factRAt_stays _) (Below.refl _ _).drew ?steps ?fin
      case steps =>
        refine ⟨?o0, ?o1, ?o2, ?o3, ?o4, ?o5, ?o6, ?o7, ?o8, ?o9, ?o10, ?o11, trivial⟩
        case o0 =>
          intro u a w' ev hJ hd K hK
          have e2 : a.tmps.getD 2 undef = .slice ao i co := ev 2 (by decide)
          have HK := Lib.hid hK
          clear hK ev hd
          go_simp
          exact HK.out _ _ (fun h => by cases h) hJ rfl (Below.refl _ _)
        case o1 =>
          intro u a w' ev hJ hd K hK
          have e7 : a.tmps.getD 7 undef = .pointer (some ⟨bP, 0, none⟩) := ev 7 (by decide)
          have HK := Lib.hid hK
          clear hK ev hd
          go_simp
          exact HK.out _ _ (fun h => by cases h) hJ rfl (Below.refl _ _)
        case o2 =>
          intro u a w' ev hJ hd K hK
          have e30 : a.tmps.getD 30 undef = .pointer (some ⟨bP, 0, none⟩) := (ev 30 (by decide)).trans (hd 1 _ (by kernel_rfl) rfl)
          have g0 := (hJ.cell (p := ⟨bP, 0, none⟩) (World.block_lt_of_cell? _ _ c_p0)).trans c_p0
          have HK := Lib.hid hK
          clear hK ev hd
          go_simp
          exact HK.out _ _ (fun h => by cases h) hJ rfl (Below.refl _ _)
        case o3 =>
          intro u a w' ev hJ hd K hK
          have e1 : a.tmps.getD 1 undef = .pointer (some ⟨w.heap.size, 0, none⟩) := ev 1 (by decide)
          have HK := Lib.hid hK
          clear hK ev hd
          go_simp
          exact HK.out _ _ (fun h => by cases h) hJ rfl (Below.refl _ _)
        case o4 =>
          intro u a w' ev hJ hd K hK
          have e32 : a.tmps.getD 32 undef = .pointer (some ⟨w.heap.size, 15, none⟩) := (ev 32 (by decide)).trans (hd 3 _ (by kernel_rfl) rfl)
          have HK := Lib.hid hK
          clear hK ev hd
          go_simp
          exact HK.out _ _ (fun h => by cases h) hJ rfl (Below.refl _ _)
        case o5 =>
          intro u a w' ev hJ hd K hK
          have e33 : a.tmps.getD 33 undef = .pointer (some ⟨w.heap.size, 15, none⟩) := (ev 33 (by decide)).trans (hd 4 _ (by kernel_rfl) rfl)
          have g0 := (hJ.cell (p := ⟨w.heap.size, 15, none⟩) (World.block_lt_of_cell? _ _ c_t15)).trans c_t15
          have HK := Lib.hid hK
          clear hK ev hd
          go_simp
          exact HK.out _ _ (fun h => by cases h) hJ rfl (Below.refl _ _)
        case o6 =>
          intro u a w' ev hJ hd K hK
          have e7 : a.tmps.getD 7 undef = .pointer (some ⟨bP, 0, none⟩) := ev 7 (by decide)
          have HK := Lib.hid hK
          clear hK ev hd
          go_simp
          exact HK.out _ _ (fun h => by cases h) hJ rfl (Below.refl _ _)
        case o7 =>
          intro u a w' ev hJ hd K hK
          have e35 : a.tmps.getD 35 undef = .pointer (some ⟨bP, 0, none⟩) := (ev 35 (by decide)).trans (hd 6 _ (by kernel_rfl) rfl)
          have g0 := (hJ.cell (p := ⟨bP, 0, none⟩) (World.block_lt_of_cell? _ _ c_p0)).trans c_p0
          have HK := Lib.hid hK
          clear hK ev hd
          go_simp
          exact HK.out _ _ (fun h => by cases h) hJ rfl (Below.refl _ _)
        case o8 =>
          intro u a w' ev hJ hd K hK
          have e34 : a.tmps.getD 34 undef = .slice (some ⟨gb, go, none⟩) gs.length gc := (ev 34 (by decide)).trans (hd 5 _ (by kernel_rfl) rfl)
          have e36 : a.tmps.getD 36 undef = .int .i64 xn := (ev 36 (by decide)).trans (hd 7 _ (by kernel_rfl) rfl)
          have HK := Lib.hid hK
          clear hK ev hd
          go_simp
          exact HK.out _ _ (fun h => by cases h) hJ rfl (Below.refl _ _)
        case o9 =>
          intro u a w' ev hJ hd K hK
          have e37 : a.tmps.getD 37 undef = .pointer (some ⟨gb, go + xn, none⟩) := (ev 37 (by decide)).trans (hd 8 _ (by kernel_rfl) rfl)
          have g0 := (hJ.cell (p := ⟨gb, go + xn, none⟩) (World.block_lt_of_cell? _ _ hcg)).trans hcg
          have HK := Lib.hid hK
          clear hK ev hd
          go_simp
          exact HK.out _ _ (fun h => by cases h) hJ rfl (Below.refl _ _)
        case o10 =>
          intro u a w' ev hJ hd K hK
          have e31 : a.tmps.getD 31 undef = .int .i64 xn := (ev 31 (by decide)).trans (hd 2 _ (by kernel_rfl) rfl)
          have e38 : a.tmps.getD 38 undef = .int .i64 g := (ev 38 (by decide)).trans (hd 9 _ (by kernel_rfl) rfl)
          have e31b := e31
          rw [Array.getD_eq_getD_getElem?] at e31b
          have e38b := e38
          rw [Array.getD_eq_getD_getElem?] at e38b
          have HK := Lib.hid hK
          clear hK ev hd
          go_simp
          exact HK.out _ _ (fun h => by cases h) hJ rfl (Below.refl _ _)
        case o11 =>
          intro u a w' ev hJ hd K hK
          have e39 : a.tmps.getD 39 undef = .agg #[.int .i64 xn, .int .i64 g] := (ev 39 (by decide)).trans (hd 10 _ (by kernel_rfl) rfl)
          have e39b := e39
          rw [Array.getD_eq_getD_getElem?] at e39b
          have HK := Lib.hid hK
          have hzJ := hJ.size
          clear hK ev hd
          go_simp
          exact HK.out _ _ (fun h => by cases h) (hJ.alloc hzJ _) ⟨_, rfl, World.ownsRow_lit w' #[.int .i64 xn, .int .i64 g] 1 hzJ (by decide) rfl⟩ ((Below.refl _ _).alloc (Nat.le_refl _) _)
      case fin =>
        intro u wq hJ hG
        have h29 : u 29 = .slice ao i co := hG 0 _ rfl
        obtain ⟨bn, h40, hon⟩ : (FactR.hd1 wz.heap.size xn g).holds (u 40) wq := hG 11 _ rfl
        have hz_wq := hJ.size
        try simp only [World.size_alloc, World.size_setCell] at hz_wq
        have hh := bc18 hJ ⟨c_t0, c_t1, c_t2, c_t3, c_t4, c_t5, c_t6, c_t7, c_t8, c_t9, c_t10, c_t11, c_t12, c_t13, c_t14, c_t15, c_t16, c_t17⟩
        clear c_t0 c_t1 c_t2 c_t3 c_t4 c_t5 c_t6 c_t7 c_t8 c_t9 c_t10 c_t11 c_t12 c_t13 c_t14 c_t15 c_t16 c_t17
        obtain ⟨c_t0, c_t1, c_t2, c_t3, c_t4, c_t5, c_t6, c_t7, c_t8, c_t9, c_t10, c_t11, c_t12, c_t13, c_t14, c_t15, c_t16, c_t17⟩ := hh
        replace z_t := blt hJ z_t
        have hh := bc2 hJ ⟨c_p0, c_p1⟩
        clear c_p0 c_p1
        obtain ⟨c_p0, c_p1⟩ := hh
        replace z_p := blt hJ z_p
        have HOq := Lib.hid (owns_below HOz.out hJ)
        have HBq := Lib.hid (below_via hJ HBz.out hzz)
        have hzq := HBq.out.size
        have HN := Lib.hid (fun ad (had : some (⟨bn, 0, none⟩ : Addr) = some ad) j u (hj : [Value.int .i64 (xn : Int), .int .i64 g][j]? = some u) => (by cases had; exact hon.cells rfl j u hj : wq.cell? (ad.add j) = some u))
        clear hG hJ hon
        simp only [mixFrame, mixL, dstsOf, List.take_succ_cons, List.take_zero, List.filterMap_cons, List.filterMap_nil, List.contains_cons, List.contains_nil, Nat.reduceBEq, Bool.or_false, Bool.false_or, Bool.or_true, Bool.true_or, if_true, if_false, Bool.false_eq_true, Nat.reduceAdd, Nat.zero_add, List.drop_succ_cons, List.drop_zero, h29, h40]
        go_wp2_with (at_builtin; refine wpl_append (.tmp 29) (.tmp 40) 43 35 (.agg #[.int .i64 0, .int .i64 0]) 2 16 Tryz.underlying43 info_Hd rfl (by decide) (by decide) w2.heap.size _ i _ (some ⟨bn, 0, none⟩) 1 1 [.int .i64 xn, .int .i64 g] HOq.out rfl (fun h => by cases h) HN.out (by simp [Value.oneCell']) (by omega) hzq rfl rfl rfl rfl ?_; intro v2 w3 ho2 hg2 _
                     obtain ⟨a2, c2, rfl, -⟩ := owns_news ho2
                     have HO2 := Lib.hid ho2
                     have HG2 := Lib.hid hg2
                     clear ho2 hg2)
        have HB4 := Lib.hid (HBq.out.grown HG2.out hzq (fun z hz => (HOq.out.lt z hz).1))
        go_roundg (gk - 1)
        case measure => omega
        case rel =>
          refine ⟨i + 1, by omega, by go_num, Lib.hid ?_, HB4⟩
          rw [HT.out, prI_append, List.map_append]
          exact HO2.out
    · have him : i = m := by omega
      subst him
      clear hbr
      go_wp2
      go_ret2
      refine ⟨_, rfl, ?_, HB3.out⟩
      have e := HO.out
      rw [List.take_of_length_le (by rw [HHL.out]; exact Nat.le_refl _)] at e
      rw [HHL.out]
      exact owns_base e hz2
end Go.Proofs.YtjhpblejlchhjaaGreat

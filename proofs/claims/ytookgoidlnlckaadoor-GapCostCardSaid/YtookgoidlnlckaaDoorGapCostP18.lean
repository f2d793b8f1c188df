/- Merged: GapChk, Filled, Empty04, Spr, LoadW. -/
import Derived.Test.YtookgoidlnlckaaDoorGapCostP17
import Derived.Test.YtookgoidlnlckaaDoorGapCostP7
import Derived.Test.YtookgoidlnlckaaDoorGapCostP14
import Derived.Test.YtookgoidlnlckaaDoorGapCostP5
import Derived.Test.YtookgoidlnlckaaDoorGapCostP2
import Derived.Deep.CutRange
import Derived.Test.YtookgoidlnlckaaDoorGapCostP8
import Derived.Test.YtookgoidlnlckaaDoorGapCostP9
import Derived.Test.YtookgoidlnlckaaDoorGapCostP12
namespace Go.Proofs.YtookgoidlnlckaaDoor
set_option maxRecDepth 100000
set_option maxHeartbeats 40000000
set_option linter.unusedVariables false
set_option linter.unusedSimpArgs false
section
open Go.RowKit Go.Shelf Go.Sort
theorem among_core (w : World) (seg : Int) (wa ka va : Option Addr) (wc kc vc cc lw n lv lc : Nat) (laid : Int) (cb co : Nat) (cs : List Int) (A B : Int) (S lo hi : Nat) (hseg : seg = S) (hS : 4 ≤ S) (hS2 : S ≤ 64) (hA : A = ((lo * S : Nat) : Int)) (hB : B = ((hi * S : Nat) : Int)) (h1 : lo ≤ hi) (h2 : hi ≤ lc) (h3 : lo < lc) (hcc : lc ≤ cc) (hlc : lc ≤ 65536) (hlen : cs.length = lc) (hcs : CntB cs S) (hcn : IsRow .i64 w (some ⟨cb, co, none⟩) cs) :
    Calls Tryd.prog 21 #[.agg #[.int .i64 seg, .slice wa lw wc, .slice ka n kc, .slice va lv vc, .slice (some ⟨cb, co, none⟩) lc cc, .int .u64 laid], .int .i64 A, .int .i64 B] w (AnsB w (.int .i64 (sumC cs lo hi))) := by
 have tA : A.tdiv seg = lo := by
  rw [hA, hseg, Int.tdiv_eq_ediv_of_nonneg xo, ← Int.natCast_ediv, Nat.mul_div_cancel _ xo]
 have tB : B.tdiv seg = hi := by
  rw [hB, hseg, Int.tdiv_eq_ediv_of_nonneg xo, ← Int.natCast_ediv, Nat.mul_div_cancel _ xo]
 have hs0 : (seg == 0) = false := by simp; omega
 have hs1 : ¬ seg = 0 := xo
 have wlo : IntKind.i64.wrap (lo : Int) = lo := IntWalk.i64_in _ xo
 have whi : IntKind.i64.wrap (hi : Int) = hi := IntWalk.i64_in _ xo
 have hne : ¬ cc = lo := xo
 have HN := hid (hcn.below ((Below.refl _ _).alloc (Nat.le_refl _) (.cells #[.int .i64 seg, .slice wa lw wc, .slice ka n kc, .slice va lv vc, .slice (some ⟨cb, co, none⟩) lc cc, .int .u64 laid] 29)))
 have HL := hid hlen
 have HC := hid hcs
 have HSS := hid (And.intro hS hS2)
 clear hA hB hseg hcn hlen hcs hS hS2
 go_enter Tryd.func21, Tryd.ntmps21
 go_upto_region 1 with (fail)
 generalize hwz : w.alloc (.cells #[.int .i64 seg, .slice wa lw wc, .slice ka n kc, .slice va lv vc, .slice (some ⟨cb, co, none⟩) lc cc, .int .u64 laid] 29) = wz
 have hh := ec6 hwz (al6 (b := w.heap.size) (by simp))
 obtain ⟨c_t0, c_t1, c_t2, c_t3, c_t4, c_t5⟩ := hh
 have z_t := elt hwz (alz (b := w.heap.size) (by simp))
 have HS : Hid (Below w.heap.size w wz) := by rw [← hwz]; exact hid ((Below.refl _ _).alloc (Nat.le_refl _) _)
 rw [hwz] at HN
 clear hwz
 have q0 := cell_regrown c_t0
 have q1 := cell_regrown c_t1
 have q2 := cell_regrown c_t2
 have q3 := cell_regrown c_t3
 have q4 := cell_regrown c_t4
 have q5 := cell_regrown c_t5
 refine wp_region_quiet_below xk xk ?_
 repeat (go_big_quiet_step (fail))
 refine wpQuiet_nil ?_
 intro _ hw'
 obtain ⟨⟨dq, osq⟩, hw''⟩ := hw'
 subst hw''
 have hbq := below_regrown wz dq osq
 clear q0 q1 q2 q3 q4 q5
 generalize Sort.grow (redrawn wz dq) osq = wx at *
 have HB2 := xv hbq HS
 have HN2 := hid (HN.out.below hbq)
 obtain ⟨m, hm⟩ : ∃ m, hi - lo = m := ⟨_, rfl⟩
 go_wp2
 go_loopg [6, 8, 21] m (fun gk sv x iv wr => ∃ i : Nat, i + gk = m ∧ iv = .int .i64 i ∧ sv = .int .i64 (sumC cs lo (lo + i)) ∧ wx = wr)
 case atStart => exact ⟨0, by omega, rfl, by rw [Nat.add_zero, sumC_nil], rfl⟩
 case round =>
  obtain ⟨i, hi2, rfl, rfl, rfl⟩ := hrel
  by_cases hlt : i < m
  · obtain ⟨b, off, x, hbe, hxx, hc, -⟩ := HN2.out.get (i := lo + i) (by rw [HL.out]; omega)
    cases hbe
    have hc' : wx.cell? ⟨cb, co + lo + i, none⟩ = some (.int .i64 x) := by rw [Nat.add_assoc]; exact hc
    have hsb := sumC_bd HC.out lo i
    have hx2 := HC.out (lo + i)
    have hsu := sumC_succ cs (a := lo) (b := lo + i) xo
    rw [hxx.out] at hsu hx2
    have hsn : S * i ≤ 64 * 65536 := Nat.mul_le_mul HSS.out.2 xo
    have hS64 := HSS.out.2
    generalize sumC cs lo (lo + i) = s0 at *
    have hw1 : IntKind.i64.wrap (s0 + x) = s0 + x := IntWalk.i64_in _ xo
    have HSU := hid hsu
    clear hc hxx hsu hx2 hsb
    go_wp2
    go_roundg (gk - 1)
    case measure => omega
    case rel => exact ⟨i + 1, by omega, by go_num, by rw [← Nat.add_assoc, HSU.out], rfl⟩
  · have him : i = m := xo
    subst him
    have e : sumC cs lo (lo + i) = sumC cs lo hi := by congr 1; omega
    rw [e]
    clear e
    go_wp2
    go_ret
    exact ⟨rfl, HB2.out⟩
theorem gapE_bad {c : Cfg} {s : SlC} (hc : cfMay c = true) (h : gapHead c s = false) : gapE c s = 8 := by simp [gapE, hc, gapMay, h]
theorem gapCheck_conf (c : Cfg) (hc : cfMay c = false) (seg : Int) (wa ka va ca : Option Addr) (wc kc vc cc lw n lv lc : Nat) (laid : Int) (w : World) :
    Calls Tryd.prog 18 #[.agg #[.int .u8 c.tag, .int .i64 c.most, .int .i64 c.seg, .int .i64 c.least, .int .i64 c.den, .int .i64 c.ll, .int .i64 c.rl, .int .i64 c.rh, .int .i64 c.lh], .agg #[.int .i64 seg, .slice wa lw wc, .slice ka n kc, .slice va lv vc, .slice ca lc cc, .int .u64 laid]] w (AnsB w (.int .i64 50)) := by
 have CK := hid (fun W => Check5_ok c W)
 rw [show cfE c = 50 by simp [cfE, hc]] at CK
 clear hc
 go_enter Tryd.func18, Tryd.ntmps18
 go_wp2_with fail
 refine (CK.out _).mono ?_
 rintro e w1 ⟨rfl, hb1⟩
 have hz_w1 := hb1.size
 try simp only [World.size_alloc, World.size_setCell] at hz_w1
 have hh := bc9 hb1 (au9 (al9 (b := w.heap.size) (by simp)))
 obtain ⟨c_t0, c_t1, c_t2, c_t3, c_t4, c_t5, c_t6, c_t7, c_t8⟩ := hh
 have z_t := blt hb1 (auz (alz (b := w.heap.size) (by simp)))
 have hh := bc6 hb1 (al6 (b := w.heap.size + 1) (by simp))
 obtain ⟨c_s0, c_s1, c_s2, c_s3, c_s4, c_s5⟩ := hh
 have z_s := blt hb1 (alz (b := w.heap.size + 1) (by simp))
 have hB1 : Below w.heap.size w w1 := xbel
 go_wp2
 go_ret
 exact ⟨rfl, hB1⟩
theorem gapCheck_high (c : Cfg) (hc : cfMay c = true) (seg : Int) (wa ka va ca : Option Addr) (wc kc vc cc lw n lv lc : Nat) (laid : Int) (hp : powB n c.least (taks c c.most) = false) (w : World) :
    Calls Tryd.prog 18 #[.agg #[.int .u8 c.tag, .int .i64 c.most, .int .i64 c.seg, .int .i64 c.least, .int .i64 c.den, .int .i64 c.ll, .int .i64 c.rl, .int .i64 c.rh, .int .i64 c.lh], .agg #[.int .i64 seg, .slice wa lw wc, .slice ka n kc, .slice va lv vc, .slice ca lc cc, .int .u64 laid]] w (AnsB w (.int .i64 8)) := by
 have CK := hid (fun W => Check5_ok c W)
 rw [cfE_ok hc] at CK
 have HI := hid (fun W => High_no c hc n hp W)
 clear hc hp
 go_enter Tryd.func18, Tryd.ntmps18
 go_wp2_with fail
 refine (CK.out _).mono ?_
 rintro e w1 ⟨rfl, hb1⟩
 have hz_w1 := hb1.size
 try simp only [World.size_alloc, World.size_setCell] at hz_w1
 have hh := bc9 hb1 (au9 (al9 (b := w.heap.size) (by simp)))
 obtain ⟨c_t0, c_t1, c_t2, c_t3, c_t4, c_t5, c_t6, c_t7, c_t8⟩ := hh
 have z_t := blt hb1 (auz (alz (b := w.heap.size) (by simp)))
 have hh := bc6 hb1 (al6 (b := w.heap.size + 1) (by simp))
 obtain ⟨c_s0, c_s1, c_s2, c_s3, c_s4, c_s5⟩ := hh
 have z_s := blt hb1 (alz (b := w.heap.size + 1) (by simp))
 have hB1 : Below w.heap.size w w1 := xbel
 have HB1 := hid hB1
 clear hb1 hB1
 go_wp2_with fail
 refine (HI.out _).mono ?_
 rintro e w2 ⟨rfl, hb2⟩
 have hz_w2 := hb2.size
 try simp only [World.size_alloc, World.size_setCell] at hz_w2
 have hh := bc9 hb2 ⟨c_t0, c_t1, c_t2, c_t3, c_t4, c_t5, c_t6, c_t7, c_t8⟩
 clear c_t0 c_t1 c_t2 c_t3 c_t4 c_t5 c_t6 c_t7 c_t8
 obtain ⟨c_t0, c_t1, c_t2, c_t3, c_t4, c_t5, c_t6, c_t7, c_t8⟩ := hh
 replace z_t := blt hb2 z_t
 have hh := bc6 hb2 ⟨c_s0, c_s1, c_s2, c_s3, c_s4, c_s5⟩
 clear c_s0 c_s1 c_s2 c_s3 c_s4 c_s5
 obtain ⟨c_s0, c_s1, c_s2, c_s3, c_s4, c_s5⟩ := hh
 replace z_s := blt hb2 z_s
 have HB2 := xv hb2 HB1
 clear hb2
 go_upto_region 6 with (fail)
 have q0 := cell_regrown c_t0
 have q1 := cell_regrown c_t1
 have q2 := cell_regrown c_t2
 have q3 := cell_regrown c_t3
 have q4 := cell_regrown c_t4
 have q5 := cell_regrown c_t5
 have q6 := cell_regrown c_t6
 have q7 := cell_regrown c_t7
 have q8 := cell_regrown c_t8
 have q9 := cell_regrown c_s0
 have q10 := cell_regrown c_s1
 have q11 := cell_regrown c_s2
 have q12 := cell_regrown c_s3
 have q13 := cell_regrown c_s4
 have q14 := cell_regrown c_s5
 refine wp_region_quiet_below xk xk ?_
 repeat (go_big_quiet_step (fail))
 refine wpQuiet_nil ?_
 intro _ hw'
 obtain ⟨⟨dq, osq⟩, hw''⟩ := hw'
 subst hw''
 have hbq := below_regrown w2 dq osq
 clear q0 q1 q2 q3 q4 q5 q6 q7 q8 q9 q10 q11 q12 q13 q14
 generalize Sort.grow (redrawn w2 dq) osq = wx at *
 have HB3 := xv hbq HB2
 go_wp2
 go_ret
 exact ⟨rfl, HB3.out⟩
theorem gapCheck_slots (c : Cfg) (hc : cfMay c = true) (seg : Int) (wa ka va ca : Option Addr) (wc kc vc cc lw n lv lc : Nat) (laid : Int) (hp : powB n c.least (taks c c.most) = true) (x : Int) (hx : x ≠ 0) (w : World)
    (SK : Hid (∀ W, Below w.heap.size w W → Calls Tryd.prog 46 #[.agg #[.int .i64 seg, .slice wa lw wc, .slice ka n kc, .slice va lv vc, .slice ca lc cc, .int .u64 laid]] W (AnsB W (.int .i64 x)))) :
    Calls Tryd.prog 18 #[.agg #[.int .u8 c.tag, .int .i64 c.most, .int .i64 c.seg, .int .i64 c.least, .int .i64 c.den, .int .i64 c.ll, .int .i64 c.rl, .int .i64 c.rh, .int .i64 c.lh], .agg #[.int .i64 seg, .slice wa lw wc, .slice ka n kc, .slice va lv vc, .slice ca lc cc, .int .u64 laid]] w (AnsB w (.int .i64 8)) := by
 have CK := hid (fun W => Check5_ok c W)
 rw [cfE_ok hc] at CK
 have HI := hid (fun W => High_in c hc n hp W)
 generalize ((htC c n : Nat) : Int) = HH at *
 have gx : (x != 0) = true := by simpa using hx
 clear hc hp hx
 go_enter Tryd.func18, Tryd.ntmps18
 go_wp2_with fail
 refine (CK.out _).mono ?_
 rintro e w1 ⟨rfl, hb1⟩
 have hz_w1 := hb1.size
 try simp only [World.size_alloc, World.size_setCell] at hz_w1
 have hh := bc9 hb1 (au9 (al9 (b := w.heap.size) (by simp)))
 obtain ⟨c_t0, c_t1, c_t2, c_t3, c_t4, c_t5, c_t6, c_t7, c_t8⟩ := hh
 have z_t := blt hb1 (auz (alz (b := w.heap.size) (by simp)))
 have hh := bc6 hb1 (al6 (b := w.heap.size + 1) (by simp))
 obtain ⟨c_s0, c_s1, c_s2, c_s3, c_s4, c_s5⟩ := hh
 have z_s := blt hb1 (alz (b := w.heap.size + 1) (by simp))
 have hB1 : Below w.heap.size w w1 := xbel
 have HB1 := hid hB1
 clear hb1 hB1
 go_wp2_with fail
 refine (HI.out _).mono ?_
 rintro e w2 ⟨rfl, hb2⟩
 have hz_w2 := hb2.size
 try simp only [World.size_alloc, World.size_setCell] at hz_w2
 have hh := bc9 hb2 ⟨c_t0, c_t1, c_t2, c_t3, c_t4, c_t5, c_t6, c_t7, c_t8⟩
 clear c_t0 c_t1 c_t2 c_t3 c_t4 c_t5 c_t6 c_t7 c_t8
 obtain ⟨c_t0, c_t1, c_t2, c_t3, c_t4, c_t5, c_t6, c_t7, c_t8⟩ := hh
 replace z_t := blt hb2 z_t
 have hh := bc6 hb2 ⟨c_s0, c_s1, c_s2, c_s3, c_s4, c_s5⟩
 clear c_s0 c_s1 c_s2 c_s3 c_s4 c_s5
 obtain ⟨c_s0, c_s1, c_s2, c_s3, c_s4, c_s5⟩ := hh
 replace z_s := blt hb2 z_s
 have HB2 := xv hb2 HB1
 clear hb2
 go_upto_region 6 with (fail)
 have K0 := hid (fun d os => Calls.regrown_of (w := w2) (d := d) (os := os) (SK.out (grow (redrawn w2 d) os) (below_via (below_regrown _ _ _) HB2.out HB2.out.size)))
 have q0 := cell_regrown c_t0
 have q1 := cell_regrown c_t1
 have q2 := cell_regrown c_t2
 have q3 := cell_regrown c_t3
 have q4 := cell_regrown c_t4
 have q5 := cell_regrown c_t5
 have q6 := cell_regrown c_t6
 have q7 := cell_regrown c_t7
 have q8 := cell_regrown c_t8
 have q9 := cell_regrown c_s0
 have q10 := cell_regrown c_s1
 have q11 := cell_regrown c_s2
 have q12 := cell_regrown c_s3
 have q13 := cell_regrown c_s4
 have q14 := cell_regrown c_s5
 refine wp_region_quiet_below xk xk ?_
 repeat (go_big_quiet_step (first | with_reducible exact K0.out _ _ | exact K0.out _ _))
 refine wpQuiet_nil ?_
 intro _ hw'
 obtain ⟨⟨dq, osq⟩, hw''⟩ := hw'
 subst hw''
 have hbq := below_regrown w2 dq osq
 clear q0 q1 q2 q3 q4 q5 q6 q7 q8 q9 q10 q11 q12 q13 q14 K0
 generalize Sort.grow (redrawn w2 dq) osq = wx at *
 have HB3 := xv hbq HB2
 go_wp2
 go_ret
 exact ⟨rfl, HB3.out⟩
theorem gapCheck_seg (c : Cfg) (hc : cfMay c = true) (seg : Int) (wa ka va ca : Option Addr) (wc kc vc cc lw n lv lc : Nat) (laid : Int) (hp : powB n c.least (taks c c.most) = true) (hs : seg ≠ c.seg) (w : World)
    (SK : Hid (∀ W, Below w.heap.size w W → Calls Tryd.prog 46 #[.agg #[.int .i64 seg, .slice wa lw wc, .slice ka n kc, .slice va lv vc, .slice ca lc cc, .int .u64 laid]] W (AnsB W (.int .i64 0)))) :
    Calls Tryd.prog 18 #[.agg #[.int .u8 c.tag, .int .i64 c.most, .int .i64 c.seg, .int .i64 c.least, .int .i64 c.den, .int .i64 c.ll, .int .i64 c.rl, .int .i64 c.rh, .int .i64 c.lh], .agg #[.int .i64 seg, .slice wa lw wc, .slice ka n kc, .slice va lv vc, .slice ca lc cc, .int .u64 laid]] w (AnsB w (.int .i64 8)) := by
 have CK := hid (fun W => Check5_ok c W)
 rw [cfE_ok hc] at CK
 have HI := hid (fun W => High_in c hc n hp W)
 generalize ((htC c n : Nat) : Int) = HH at *
 have gs : (seg != c.seg) = true := by simpa using hs
 clear hc hp hs
 go_enter Tryd.func18, Tryd.ntmps18
 go_wp2_with fail
 refine (CK.out _).mono ?_
 rintro e w1 ⟨rfl, hb1⟩
 have hz_w1 := hb1.size
 try simp only [World.size_alloc, World.size_setCell] at hz_w1
 have hh := bc9 hb1 (au9 (al9 (b := w.heap.size) (by simp)))
 obtain ⟨c_t0, c_t1, c_t2, c_t3, c_t4, c_t5, c_t6, c_t7, c_t8⟩ := hh
 have z_t := blt hb1 (auz (alz (b := w.heap.size) (by simp)))
 have hh := bc6 hb1 (al6 (b := w.heap.size + 1) (by simp))
 obtain ⟨c_s0, c_s1, c_s2, c_s3, c_s4, c_s5⟩ := hh
 have z_s := blt hb1 (alz (b := w.heap.size + 1) (by simp))
 have hB1 : Below w.heap.size w w1 := xbel
 have HB1 := hid hB1
 clear hb1 hB1
 go_wp2_with fail
 refine (HI.out _).mono ?_
 rintro e w2 ⟨rfl, hb2⟩
 have hz_w2 := hb2.size
 try simp only [World.size_alloc, World.size_setCell] at hz_w2
 have hh := bc9 hb2 ⟨c_t0, c_t1, c_t2, c_t3, c_t4, c_t5, c_t6, c_t7, c_t8⟩
 clear c_t0 c_t1 c_t2 c_t3 c_t4 c_t5 c_t6 c_t7 c_t8
 obtain ⟨c_t0, c_t1, c_t2, c_t3, c_t4, c_t5, c_t6, c_t7, c_t8⟩ := hh
 replace z_t := blt hb2 z_t
 have hh := bc6 hb2 ⟨c_s0, c_s1, c_s2, c_s3, c_s4, c_s5⟩
 clear c_s0 c_s1 c_s2 c_s3 c_s4 c_s5
 obtain ⟨c_s0, c_s1, c_s2, c_s3, c_s4, c_s5⟩ := hh
 replace z_s := blt hb2 z_s
 have HB2 := xv hb2 HB1
 clear hb2
 go_upto_region 6 with (fail)
 have K0 := hid (fun d os => Calls.regrown_of (w := w2) (d := d) (os := os) (SK.out (grow (redrawn w2 d) os) (below_via (below_regrown _ _ _) HB2.out HB2.out.size)))
 have q0 := cell_regrown c_t0
 have q1 := cell_regrown c_t1
 have q2 := cell_regrown c_t2
 have q3 := cell_regrown c_t3
 have q4 := cell_regrown c_t4
 have q5 := cell_regrown c_t5
 have q6 := cell_regrown c_t6
 have q7 := cell_regrown c_t7
 have q8 := cell_regrown c_t8
 have q9 := cell_regrown c_s0
 have q10 := cell_regrown c_s1
 have q11 := cell_regrown c_s2
 have q12 := cell_regrown c_s3
 have q13 := cell_regrown c_s4
 have q14 := cell_regrown c_s5
 refine wp_region_quiet_below xk xk ?_
 repeat (go_big_quiet_step (first | with_reducible exact K0.out _ _ | exact K0.out _ _))
 refine wpQuiet_nil ?_
 intro _ hw'
 obtain ⟨⟨dq, osq⟩, hw''⟩ := hw'
 subst hw''
 have hbq := below_regrown w2 dq osq
 clear q0 q1 q2 q3 q4 q5 q6 q7 q8 q9 q10 q11 q12 q13 q14 K0
 generalize Sort.grow (redrawn w2 dq) osq = wx at *
 have HB3 := xv hbq HB2
 go_wp2
 go_ret
 exact ⟨rfl, HB3.out⟩
theorem gapCheck_many (c : Cfg) (hc : cfMay c = true) (seg : Int) (wa ka va ca : Option Addr) (wc kc vc cc lw n lv lc : Nat) (laid : Int) (hp : powB n c.least (taks c c.most) = true) (hs : seg = c.seg) (many : Int) (hm : c.most < many) (w : World)
    (SK : Hid (∀ W, Below w.heap.size w W → Calls Tryd.prog 46 #[.agg #[.int .i64 seg, .slice wa lw wc, .slice ka n kc, .slice va lv vc, .slice ca lc cc, .int .u64 laid]] W (AnsB W (.int .i64 0))))
    (AM : Hid (∀ W, Below w.heap.size w W → Calls Tryd.prog 21 #[.agg #[.int .i64 seg, .slice wa lw wc, .slice ka n kc, .slice va lv vc, .slice ca lc cc, .int .u64 laid], .int .i64 0, .int .i64 n] W (AnsB W (.int .i64 many)))) :
    Calls Tryd.prog 18 #[.agg #[.int .u8 c.tag, .int .i64 c.most, .int .i64 c.seg, .int .i64 c.least, .int .i64 c.den, .int .i64 c.ll, .int .i64 c.rl, .int .i64 c.rh, .int .i64 c.lh], .agg #[.int .i64 seg, .slice wa lw wc, .slice ka n kc, .slice va lv vc, .slice ca lc cc, .int .u64 laid]] w (AnsB w (.int .i64 8)) := by
 have CK := hid (fun W => Check5_ok c W)
 rw [cfE_ok hc] at CK
 have HI := hid (fun W => High_in c hc n hp W)
 generalize ((htC c n : Nat) : Int) = HH at *
 have gs : (seg != c.seg) = false := by simpa using hs
 have gm : decide (c.most < many) = true := by simpa using hm
 clear hc hp hs
 go_enter Tryd.func18, Tryd.ntmps18
 go_wp2_with fail
 refine (CK.out _).mono ?_
 rintro e w1 ⟨rfl, hb1⟩
 have hz_w1 := hb1.size
 try simp only [World.size_alloc, World.size_setCell] at hz_w1
 have hh := bc9 hb1 (au9 (al9 (b := w.heap.size) (by simp)))
 obtain ⟨c_t0, c_t1, c_t2, c_t3, c_t4, c_t5, c_t6, c_t7, c_t8⟩ := hh
 have z_t := blt hb1 (auz (alz (b := w.heap.size) (by simp)))
 have hh := bc6 hb1 (al6 (b := w.heap.size + 1) (by simp))
 obtain ⟨c_s0, c_s1, c_s2, c_s3, c_s4, c_s5⟩ := hh
 have z_s := blt hb1 (alz (b := w.heap.size + 1) (by simp))
 have hB1 : Below w.heap.size w w1 := xbel
 have HB1 := hid hB1
 clear hb1 hB1
 go_wp2_with fail
 refine (HI.out _).mono ?_
 rintro e w2 ⟨rfl, hb2⟩
 have hz_w2 := hb2.size
 try simp only [World.size_alloc, World.size_setCell] at hz_w2
 have hh := bc9 hb2 ⟨c_t0, c_t1, c_t2, c_t3, c_t4, c_t5, c_t6, c_t7, c_t8⟩
 clear c_t0 c_t1 c_t2 c_t3 c_t4 c_t5 c_t6 c_t7 c_t8
 obtain ⟨c_t0, c_t1, c_t2, c_t3, c_t4, c_t5, c_t6, c_t7, c_t8⟩ := hh
 replace z_t := blt hb2 z_t
 have hh := bc6 hb2 ⟨c_s0, c_s1, c_s2, c_s3, c_s4, c_s5⟩
 clear c_s0 c_s1 c_s2 c_s3 c_s4 c_s5
 obtain ⟨c_s0, c_s1, c_s2, c_s3, c_s4, c_s5⟩ := hh
 replace z_s := blt hb2 z_s
 have HB2 := xv hb2 HB1
 clear hb2
 go_upto_region 6 with (fail)
 have K0 := hid (fun d os => Calls.regrown_of (w := w2) (d := d) (os := os) (SK.out (grow (redrawn w2 d) os) (below_via (below_regrown _ _ _) HB2.out HB2.out.size)))
 have K1 := hid (fun d os => Calls.regrown_of (w := w2) (d := d) (os := os) (AM.out (grow (redrawn w2 d) os) (below_via (below_regrown _ _ _) HB2.out HB2.out.size)))
 have q0 := cell_regrown c_t0
 have q1 := cell_regrown c_t1
 have q2 := cell_regrown c_t2
 have q3 := cell_regrown c_t3
 have q4 := cell_regrown c_t4
 have q5 := cell_regrown c_t5
 have q6 := cell_regrown c_t6
 have q7 := cell_regrown c_t7
 have q8 := cell_regrown c_t8
 have q9 := cell_regrown c_s0
 have q10 := cell_regrown c_s1
 have q11 := cell_regrown c_s2
 have q12 := cell_regrown c_s3
 have q13 := cell_regrown c_s4
 have q14 := cell_regrown c_s5
 refine wp_region_quiet_below xk xk ?_
 repeat (go_big_quiet_step (first | with_reducible exact K0.out _ _ | with_reducible exact K1.out _ _ | exact K0.out _ _ | exact K1.out _ _))
 refine wpQuiet_nil ?_
 intro _ hw'
 obtain ⟨⟨dq, osq⟩, hw''⟩ := hw'
 subst hw''
 have hbq := below_regrown w2 dq osq
 clear q0 q1 q2 q3 q4 q5 q6 q7 q8 q9 q10 q11 q12 q13 q14 K0 K1
 generalize Sort.grow (redrawn w2 dq) osq = wx at *
 have HB3 := xv hbq HB2
 go_wp2
 go_ret
 exact ⟨rfl, HB3.out⟩
theorem win_wd (i k : Nat) : (i + 1) * k - i * k = k := by rw [Nat.succ_mul, Nat.add_sub_cancel_left]
theorem winB_bad {c : Cfg} {s : SlC} {H h i : Nat} (hh : h < H + 1) (hi : i < s.cs.length / 2 ^ h) (hb : winB c s H h i = false) : denB c s H = false := by
 apply Bool.eq_false_iff.2
 intro hd
 have h1 := List.all_eq_true.1 hd h (List.mem_range.2 hh)
 have h2 := List.all_eq_true.1 h1 i (List.mem_range.2 hi)
 rw [hb] at h2
 cases h2
theorem gapCheck_core (c : Cfg) (s : SlC) (seg : Int) (wa ka va ca : Option Addr) (wc kc vc cc lw n lv lc : Nat) (laid : Int) (a H : Nat) (k : CapC c n a H) (hs : seg = c.seg) (hlc : s.cs.length = 2 ^ H) (hnk : s.ks.length = n) (hcb : CntB s.cs (2 ^ a)) (many : Int) (hm : many ≤ c.most) (z : Int) (hz : (if denB c s H = true then 0 else 8) = z) (w : World)
    (SK : Hid (∀ W, Below w.heap.size w W → Calls Tryd.prog 46 #[.agg #[.int .i64 seg, .slice wa lw wc, .slice ka n kc, .slice va lv vc, .slice ca lc cc, .int .u64 laid]] W (AnsB W (.int .i64 0))))
    (AM : Hid (∀ W, Below w.heap.size w W → Calls Tryd.prog 21 #[.agg #[.int .i64 seg, .slice wa lw wc, .slice ka n kc, .slice va lv vc, .slice ca lc cc, .int .u64 laid], .int .i64 0, .int .i64 n] W (AnsB W (.int .i64 many))))
    (AW : Hid (∀ h i, h ≤ H → i < 2 ^ (H - h) → ∀ W, Below w.heap.size w W → Calls Tryd.prog 21 #[.agg #[.int .i64 seg, .slice wa lw wc, .slice ka n kc, .slice va lv vc, .slice ca lc cc, .int .u64 laid], .int .i64 ((i * (2 ^ a * 2 ^ h) : Nat) : Int), .int .i64 (((i * (2 ^ a * 2 ^ h) : Nat) : Int) + ((2 ^ a * 2 ^ h : Nat) : Int))] W (AnsB W (.int .i64 (sumC s.cs (i * 2 ^ h) ((i + 1) * 2 ^ h)))))) :
    Calls Tryd.prog 18 #[.agg #[.int .u8 c.tag, .int .i64 c.most, .int .i64 c.seg, .int .i64 c.least, .int .i64 c.den, .int .i64 c.ll, .int .i64 c.rl, .int .i64 c.rh, .int .i64 c.lh], .agg #[.int .i64 seg, .slice wa lw wc, .slice ka n kc, .slice va lv vc, .slice ca lc cc, .int .u64 laid]] w (AnsB w (.int .i64 z)) := by
 have CK := hid (fun W => Check5_ok c W)
 rw [cfE_ok k.may] at CK
 have HI := hid (fun W => High_in c k.may n k.cap W)
 rw [k.hgt] at HI
 have hH := k.h14
 have KW : WinC c.seg n a H := ⟨k.seg, k.all, k.a2, k.a6, k.big⟩
 have RW := hid (fun h (hh : h ≤ H) W => Row_ok c.seg n a H h KW hh W)
 have FU := hid (fun h (hh : h ≤ H) x h0 h1 W => Full_ok c n a H h k hh x h0 h1 W)
 have SP := hid (fun h (hh : h ≤ H) x h0 h1 W => Sparse_in c n a H h k hh x h0 h1 W)
 have HZ := hid hz
 have HLC := hid hlc
 have HNK := hid hnk
 have hsum : ∀ h i, h ≤ H → 0 ≤ sumC s.cs (i * 2 ^ h) ((i + 1) * 2 ^ h) ∧ sumC s.cs (i * 2 ^ h) ((i + 1) * 2 ^ h) ≤ wdC c h ∧ wdC c h ≤ 65536 := by
  intro h i hh
  obtain ⟨e, -, e2, -⟩ := k.wd hh
  have := sumC_bd2 hcb (i * 2 ^ h) ((i + 1) * 2 ^ h)
  rw [win_wd] at this
  exact ⟨this.1, by rw [e]; exact this.2, e2⟩
 have HSM := hid hsum
 have gs : (seg != c.seg) = false := by simpa using hs
 have gm : decide (c.most < many) = false := by simp; omega
 have hw1 : IntKind.i64.wrap ((H : Int) + 1) = (H : Int) + 1 := IntWalk.i64_in _ xo
 clear hz hlc hnk hcb hsum KW k hs hm
 go_enter Tryd.func18, Tryd.ntmps18
 go_wp2_with fail
 refine (CK.out _).mono ?_
 rintro e w1 ⟨rfl, hb1⟩
 have hz_w1 := hb1.size
 try simp only [World.size_alloc, World.size_setCell] at hz_w1
 have hh := bc9 hb1 (au9 (al9 (b := w.heap.size) (by simp)))
 obtain ⟨c_t0, c_t1, c_t2, c_t3, c_t4, c_t5, c_t6, c_t7, c_t8⟩ := hh
 have z_t := blt hb1 (auz (alz (b := w.heap.size) (by simp)))
 have hh := bc6 hb1 (al6 (b := w.heap.size + 1) (by simp))
 obtain ⟨c_s0, c_s1, c_s2, c_s3, c_s4, c_s5⟩ := hh
 have z_s := blt hb1 (alz (b := w.heap.size + 1) (by simp))
 have hB1 : Below w.heap.size w w1 := xbel
 have HB1 := hid hB1
 clear hb1 hB1
 go_wp2_with fail
 refine (HI.out _).mono ?_
 rintro e w2 ⟨rfl, hb2⟩
 have hz_w2 := hb2.size
 try simp only [World.size_alloc, World.size_setCell] at hz_w2
 have hh := bc9 hb2 ⟨c_t0, c_t1, c_t2, c_t3, c_t4, c_t5, c_t6, c_t7, c_t8⟩
 clear c_t0 c_t1 c_t2 c_t3 c_t4 c_t5 c_t6 c_t7 c_t8
 obtain ⟨c_t0, c_t1, c_t2, c_t3, c_t4, c_t5, c_t6, c_t7, c_t8⟩ := hh
 replace z_t := blt hb2 z_t
 have hh := bc6 hb2 ⟨c_s0, c_s1, c_s2, c_s3, c_s4, c_s5⟩
 clear c_s0 c_s1 c_s2 c_s3 c_s4 c_s5
 obtain ⟨c_s0, c_s1, c_s2, c_s3, c_s4, c_s5⟩ := hh
 replace z_s := blt hb2 z_s
 have HB2 := xv hb2 HB1
 clear hb2
 go_upto_region 6 with (fail)
 have K0 := hid (fun d os => Calls.regrown_of (w := w2) (d := d) (os := os) (SK.out (grow (redrawn w2 d) os) (below_via (below_regrown _ _ _) HB2.out HB2.out.size)))
 have K1 := hid (fun d os => Calls.regrown_of (w := w2) (d := d) (os := os) (AM.out (grow (redrawn w2 d) os) (below_via (below_regrown _ _ _) HB2.out HB2.out.size)))
 have q0 := cell_regrown c_t0
 have q1 := cell_regrown c_t1
 have q2 := cell_regrown c_t2
 have q3 := cell_regrown c_t3
 have q4 := cell_regrown c_t4
 have q5 := cell_regrown c_t5
 have q6 := cell_regrown c_t6
 have q7 := cell_regrown c_t7
 have q8 := cell_regrown c_t8
 have q9 := cell_regrown c_s0
 have q10 := cell_regrown c_s1
 have q11 := cell_regrown c_s2
 have q12 := cell_regrown c_s3
 have q13 := cell_regrown c_s4
 have q14 := cell_regrown c_s5
 refine wp_region_quiet_below xk xk ?_
 repeat (go_big_quiet_step (first | with_reducible exact K0.out _ _ | with_reducible exact K1.out _ _ | exact K0.out _ _ | exact K1.out _ _))
 refine wpQuiet_nil ?_
 intro _ hw'
 obtain ⟨⟨dq, osq⟩, hw''⟩ := hw'
 subst hw''
 have hbq := below_regrown w2 dq osq
 clear q0 q1 q2 q3 q4 q5 q6 q7 q8 q9 q10 q11 q12 q13 q14 K0 K1
 generalize Sort.grow (redrawn w2 dq) osq = wx at *
 have HB3 := xv hbq HB2
 have hz_wx := hbq.size
 try simp only [World.size_alloc, World.size_setCell] at hz_wx
 have hh := bc9 hbq ⟨c_t0, c_t1, c_t2, c_t3, c_t4, c_t5, c_t6, c_t7, c_t8⟩
 clear c_t0 c_t1 c_t2 c_t3 c_t4 c_t5 c_t6 c_t7 c_t8
 obtain ⟨c_t0, c_t1, c_t2, c_t3, c_t4, c_t5, c_t6, c_t7, c_t8⟩ := hh
 replace z_t := blt hbq z_t
 have hh := bc6 hbq ⟨c_s0, c_s1, c_s2, c_s3, c_s4, c_s5⟩
 clear c_s0 c_s1 c_s2 c_s3 c_s4 c_s5
 obtain ⟨c_s0, c_s1, c_s2, c_s3, c_s4, c_s5⟩ := hh
 replace z_s := blt hbq z_s
 clear hbq
 go_wp2
 go_loopg [57] (H + 1) (fun gk iv wr => ∃ h : Nat, h + gk = H + 1 ∧ iv = .int .i64 h ∧ Hid (∀ h', h' < h → rowB c s H h' = true) ∧ Hid (Below wx.heap.size wx wr))
 case atStart => exact ⟨0, by omega, rfl, hid fun h' q => by omega, hid (Below.refl _ _)⟩
 case round =>
  obtain ⟨h, hk, rfl, HD, HB⟩ := hrel
  have hbr := HB.out
  have hz_wr := hbr.size
  try simp only [World.size_alloc, World.size_setCell] at hz_wr
  have hh := bc9 hbr ⟨c_t0, c_t1, c_t2, c_t3, c_t4, c_t5, c_t6, c_t7, c_t8⟩
  clear c_t0 c_t1 c_t2 c_t3 c_t4 c_t5 c_t6 c_t7 c_t8
  obtain ⟨c_t0, c_t1, c_t2, c_t3, c_t4, c_t5, c_t6, c_t7, c_t8⟩ := hh
  replace z_t := blt hbr z_t
  have hh := bc6 hbr ⟨c_s0, c_s1, c_s2, c_s3, c_s4, c_s5⟩
  clear c_s0 c_s1 c_s2 c_s3 c_s4 c_s5
  obtain ⟨c_s0, c_s1, c_s2, c_s3, c_s4, c_s5⟩ := hh
  replace z_s := blt hbr z_s
  have HB4 := xv hbr HB3
  have hz4 := HB4.out.size
  clear hbr
  by_cases hlt : h < H + 1
  · generalize gk = go at *
    have HK := hid hk
    clear hk
    go_wp2_with fail
    refine (RW.out h xo _).mono ?_
    rintro e w5 ⟨v5, rfl, ho5, hb5⟩
    have hz_w5 := hb5.size
    try simp only [World.size_alloc, World.size_setCell] at hz_w5
    have hh := bc9 hb5 ⟨c_t0, c_t1, c_t2, c_t3, c_t4, c_t5, c_t6, c_t7, c_t8⟩
    clear c_t0 c_t1 c_t2 c_t3 c_t4 c_t5 c_t6 c_t7 c_t8
    obtain ⟨c_t0, c_t1, c_t2, c_t3, c_t4, c_t5, c_t6, c_t7, c_t8⟩ := hh
    replace z_t := blt hb5 z_t
    have hh := bc6 hb5 ⟨c_s0, c_s1, c_s2, c_s3, c_s4, c_s5⟩
    clear c_s0 c_s1 c_s2 c_s3 c_s4 c_s5
    obtain ⟨c_s0, c_s1, c_s2, c_s3, c_s4, c_s5⟩ := hh
    replace z_s := blt hb5 z_s
    have HB5 := hid (below_via hb5 HB4.out hz4)
    have HW5 := xv hb5 HB
    have hz5 := hb5.size
    obtain ⟨ra, rc, rfl, hi5, -, -, hrc, -⟩ := row_of_owns ho5
    rw [rowL_length] at hrc ⊢
    have HR5 := hid hi5
    have hm0 : 2 ^ (H - h) ≤ 2 ^ 14 := Nat.pow_le_pow_right xo xo
    have AW2 := hid (fun i hi W hb => AW.out h i xo hi W hb)
    have SM2 := hid (fun i => HSM.out h i xo)
    have RG2 := hid (fun i (hi : i < 2 ^ (H - h)) => rowL_get (W := 2 ^ a * 2 ^ h) hi)
    have hbad : Hid (∀ i, i < 2 ^ (H - h) → winB c s H h i = false → z = 8) := hid fun i hi hb => by
     rw [← HZ.out, winB_bad hlt (by rw [HLC.out, Nat.pow_div xo xo]; exact hi) hb]
     rfl
    have hgood : Hid ((∀ i, i < 2 ^ (H - h) → winB c s H h i = true) → rowB c s H h = true) := hid fun hg => List.all_eq_true.2 fun i hi => hg i (by have := List.mem_range.1 hi; rwa [HLC.out, Nat.pow_div xo xo] at this)
    have HIL := hid (rowL_length (2 ^ a * 2 ^ h) (2 ^ (H - h)))
    generalize rowL (2 ^ a * 2 ^ h) (2 ^ (H - h)) = L at *
    generalize 2 ^ (H - h) = m at *
    clear hb5 ho5 hi5 hrc
    go_wp2
    go_loopg [70] m (fun gk2 iv wr2 => ∃ i : Nat, i + gk2 = m ∧ iv = .int .i64 i ∧ Hid (∀ j, j < i → winB c s H h j = true) ∧ Hid (Below w5.heap.size w5 wr2))
    case atStart => exact ⟨0, by omega, rfl, hid fun j q => by omega, hid (Below.refl _ _)⟩
    case round =>
     obtain ⟨i, hk2, rfl, HD2, HBB⟩ := hrel
     have hbr2 := HBB.out
     have hz_wr := hbr2.size
     try simp only [World.size_alloc, World.size_setCell] at hz_wr
     have hh := bc9 hbr2 ⟨c_t0, c_t1, c_t2, c_t3, c_t4, c_t5, c_t6, c_t7, c_t8⟩
     clear c_t0 c_t1 c_t2 c_t3 c_t4 c_t5 c_t6 c_t7 c_t8
     obtain ⟨c_t0, c_t1, c_t2, c_t3, c_t4, c_t5, c_t6, c_t7, c_t8⟩ := hh
     replace z_t := blt hbr2 z_t
     have hh := bc6 hbr2 ⟨c_s0, c_s1, c_s2, c_s3, c_s4, c_s5⟩
     clear c_s0 c_s1 c_s2 c_s3 c_s4 c_s5
     obtain ⟨c_s0, c_s1, c_s2, c_s3, c_s4, c_s5⟩ := hh
     replace z_s := blt hbr2 z_s
     have HB6 := xv hbr2 HB5
     have hz6 := HB6.out.size
     by_cases hlt2 : i < m
     · obtain ⟨bl, ol, rfl, cl0, cl1, zl⟩ := pr_get (HR5.out.below hbr2) (i := i) (by rw [HIL.out]; exact hlt2)
       rw [RG2.out i hlt2] at cl0 cl1
       clear hbr2
       dsimp only at cl0 cl1
       have AW3 := hid (fun W hb => AW2.out i hlt2 W hb)
       have sb := SM2.out i
       obtain ⟨sb1, sb2, sb3⟩ := sb
       have HWB : Hid (winB c s H h i = (fulB c H h (sumC s.cs (i * 2 ^ h) ((i + 1) * 2 ^ h)) && sprB c n H h (sumC s.cs (i * 2 ^ h) ((i + 1) * 2 ^ h)))) := hid (by rw [← HNK.out]; rfl)
       generalize sumC s.cs (i * 2 ^ h) ((i + 1) * 2 ^ h) = sm at *
       generalize ((i * (2 ^ a * 2 ^ h) : Nat) : Int) = x0 at *
       generalize x0 + ((2 ^ a * 2 ^ h : Nat) : Int) = x1 at *
       have FU2 := hid (fun W => FU.out h xo sm sb1 xo W)
       have SP2 := hid (fun W => SP.out h xo sm sb1 sb2 W)
       have HK2 := hid hk2
       clear hk2
       go_wp2_with fail
       refine (AW3.out _ xbel).mono ?_
       rintro e w7 ⟨rfl, hb7⟩
       have hz_w7 := hb7.size
       try simp only [World.size_alloc, World.size_setCell] at hz_w7
       have hh := bc9 hb7 (au9 (⟨c_t0, c_t1, c_t2, c_t3, c_t4, c_t5, c_t6, c_t7, c_t8⟩))
       clear c_t0 c_t1 c_t2 c_t3 c_t4 c_t5 c_t6 c_t7 c_t8
       obtain ⟨c_t0, c_t1, c_t2, c_t3, c_t4, c_t5, c_t6, c_t7, c_t8⟩ := hh
       replace z_t := blt hb7 (auz (z_t))
       have hh := bc6 hb7 (au6 (⟨c_s0, c_s1, c_s2, c_s3, c_s4, c_s5⟩))
       clear c_s0 c_s1 c_s2 c_s3 c_s4 c_s5
       obtain ⟨c_s0, c_s1, c_s2, c_s3, c_s4, c_s5⟩ := hh
       replace z_s := blt hb7 (auz (z_s))
       have hh := bc2 hb7 (al2 (b := wr.heap.size) (by simp))
       obtain ⟨c_x0, c_x1⟩ := hh
       have z_x := blt hb7 (alz (b := wr.heap.size) (by simp))
       have HB7 := hid (show Below w.heap.size w w7 by (exact xbel))
       have HC7 := hid (show Below w5.heap.size w5 w7 by (exact xbel))
       clear hb7
       go_wp2_with fail
       refine (FU2.out _).mono ?_
       rintro e w8 ⟨rfl, hb8⟩
       have hz_w8 := hb8.size
       try simp only [World.size_alloc, World.size_setCell] at hz_w8
       have hh := bc9 hb8 ⟨c_t0, c_t1, c_t2, c_t3, c_t4, c_t5, c_t6, c_t7, c_t8⟩
       clear c_t0 c_t1 c_t2 c_t3 c_t4 c_t5 c_t6 c_t7 c_t8
       obtain ⟨c_t0, c_t1, c_t2, c_t3, c_t4, c_t5, c_t6, c_t7, c_t8⟩ := hh
       replace z_t := blt hb8 z_t
       have hh := bc6 hb8 ⟨c_s0, c_s1, c_s2, c_s3, c_s4, c_s5⟩
       clear c_s0 c_s1 c_s2 c_s3 c_s4 c_s5
       obtain ⟨c_s0, c_s1, c_s2, c_s3, c_s4, c_s5⟩ := hh
       replace z_s := blt hb8 z_s
       have HB8 := xv hb8 HB7
       have HC8 := xv hb8 HC7
       clear hb8
       go_wp2_with fail
       refine (SP2.out _).mono ?_
       rintro e w9 ⟨rfl, hb9⟩
       have hz_w9 := hb9.size
       try simp only [World.size_alloc, World.size_setCell] at hz_w9
       have hh := bc9 hb9 ⟨c_t0, c_t1, c_t2, c_t3, c_t4, c_t5, c_t6, c_t7, c_t8⟩
       clear c_t0 c_t1 c_t2 c_t3 c_t4 c_t5 c_t6 c_t7 c_t8
       obtain ⟨c_t0, c_t1, c_t2, c_t3, c_t4, c_t5, c_t6, c_t7, c_t8⟩ := hh
       replace z_t := blt hb9 z_t
       have hh := bc6 hb9 ⟨c_s0, c_s1, c_s2, c_s3, c_s4, c_s5⟩
       clear c_s0 c_s1 c_s2 c_s3 c_s4 c_s5
       obtain ⟨c_s0, c_s1, c_s2, c_s3, c_s4, c_s5⟩ := hh
       replace z_s := blt hb9 z_s
       have HB9 := xv hb9 HB8
       have HC9 := xv hb9 HC8
       clear hb9
       cases hf : fulB c H h sm with
       | false =>
        have hz8 := hbad.out i hlt2 (by rw [HWB.out, hf]; rfl)
        subst hz8
        go_wp2
        go_ret
        exact ⟨rfl, HB9.out⟩
       | true =>
        cases hg : sprB c n H h sm with
        | false =>
         have hz8 := hbad.out i hlt2 (by rw [HWB.out, hf, hg]; rfl)
         subst hz8
         go_wp2
         go_ret
         exact ⟨rfl, HB9.out⟩
        | true =>
         go_wp2
         go_roundg (gk - 1)
         case measure => have := HK2.out; omega
         case rel =>
          refine ⟨i + 1, by have := HK2.out; omega, by go_num, hid fun j hj => ?_, HC9⟩
          by_cases hji : j = i
          · rw [hji, HWB.out, hf, hg]; rfl
          · exact HD2.out j xo
     · have HK2 := hid hk2
       clear hk2
       go_wp2
       go_roundg (go - 1)
       case measure => have := HK.out; omega
       case rel =>
        refine ⟨h + 1, by have := HK.out; omega, by go_num, hid fun h' hh' => ?_, hid (below_via HBB.out HW5.out HW5.out.size)⟩
        by_cases hji : h' = h
        · rw [hji]; exact hgood.out fun j hj => HD2.out j (by have := HK2.out; omega)
        · exact HD.out h' xo
  · have hz0 : z = 0 := by
      rw [← HZ.out, if_pos]
      exact List.all_eq_true.2 fun h' hh' => HD.out h' (by have := List.mem_range.1 hh'; omega)
    subst hz0
    clear hk
    go_wp2
    go_ret
    exact ⟨rfl, HB4.out⟩
end
section
open Go.RowKit Go.Shelf
attribute [local go_sem] Oper.semAt_some
structure FilK (w w2 W : World) : Prop where
 bel : Below w.heap.size w W
 keep : ∀ q, q < w.heap.size + 2 → q ≠ w.heap.size → W.heap[q]? = w2.heap[q]?
 size : w.heap.size + 2 ≤ W.heap.size
theorem FilK.below {w w2 W W' : World} (h : FilK w w2 W) (hb : Below W.heap.size W W') : FilK w w2 W' :=
  ⟨below_via hb h.bel (by have := h.size; omega), fun q hq hne => (hb.block q (by have := h.size; omega)).trans (h.keep q hq hne), Nat.le_trans h.size hb.size⟩
theorem FilK.drew {w w2 W : World} (h : FilK w w2 W) : FilK w w2 W.drew := ⟨h.bel.drew, h.keep, h.size⟩
theorem FilK.setCell {w w2 W : World} (h : FilK w w2 W) {a : Addr} (ha : a.block = w.heap.size ∨ w.heap.size + 2 ≤ a.block) (v : Value) : FilK w w2 (W.setCell a v) :=
  ⟨h.bel.setCell xo v, fun q hq hne => (heap_setCell_ne _ _ _ xo).trans (h.keep q hq hne), by rw [World.size_setCell]; exact h.size⟩
end
section
open Go.RowKit Go.Shelf
attribute [local go_sem] Oper.semAt_some
end
section
open Go.RowKit
theorem gd_may {c : SlC} {S lw n lc : Nat} (h : SlGd c S lw n lc) (hS : pwB (S : Int) = true) (hM : pwB (lc : Int) = true) (hlw : lw = (n + 63) / 64) : slMay c = true := by
 have hlc1 : 1 ≤ lc := by
  rcases Nat.eq_zero_or_pos lc with e | e
  · rw [e] at hM; cases hM
  · exact e
 have h4 := h.s4
 have hn : (n : Int) / (S : Int) = lc := by
  rw [h.cn, Int.natCast_mul, Int.mul_ediv_cancel_left _ xo]
 have hn2 : (n : Int) % (S : Int) = 0 := by
  rw [h.cn, Int.natCast_mul, Int.mul_emod_right]
 have hle : S * 1 ≤ S * lc := Nat.mul_le_mul_left _ hlc1
 simp only [slMay, slHead, fitB, wMayB, clrB, cntB, Bool.and_eq_true, decide_eq_true_eq, List.all_eq_true]
 rw [h.elk, h.elv, h.elw, h.elc, h.seg, hn, hn2]
 refine ⟨⟨⟨⟨⟨⟨⟨⟨⟨⟨⟨by have := h.s4; omega, by have := h.s64; omega⟩, hS⟩, by have := h.cn; omega⟩, by have := h.nm; omega⟩, rfl⟩, hM⟩, rfl⟩, hlw, ?_⟩, rfl⟩, ?_⟩, ?_⟩
 · intro i hi
   have := (List.mem_range'_1.1 hi).1
   rw [h.hi i this]
   rfl
 · intro i hi
   cases hb : bitW c.ws i with
   | true => rfl
   | false =>
    have := h.clr i hb
    simp only [Bool.false_or, Bool.and_eq_true, beq_iff_eq]
    exact this
 · intro k hk
   have := h.cnt k (List.mem_range.1 hk)
   rw [Int.toNat_natCast, this, beq_self_eq_true]
theorem gd_fit {c : SlC} {S lw n lc : Nat} (h : SlGd c S lw n lc) (hm : slMay c = true) : fitB (S : Int) n = true := by
 simp only [slMay, slHead, Bool.and_eq_true] at hm
 have := hm.1.1.1.1.1
 rwa [h.elk, h.seg] at this
theorem over_ok {c : SlC} {S lw n lc : Nat} (h : SlGd c S lw n lc) (hm : slMay c = true) (sa : SlA) (lo hi : Nat) (hlo : lo ≤ hi) (hhi : hi ≤ n) (L : List (Int × Int)) (hL : L.length ≤ hi - lo) (la : Option Addr) (pl : Nat) (w : World) (hin : SlIn w c sa) (hla : IsRow .i64 w la (prI L)) :
    Calls Tryd.prog 50 #[slV c sa, .int .i64 lo, .int .i64 hi, .slice la L.length pl] w (FreshSl2 w (spC c lo hi L) (.int .i64 0)) := by
 have n1 := h.n1
 have nm := h.nm
 have s4 := h.s4
 have wn := h.wn
 have hlc : 0 < lc := by
  rcases Nat.eq_zero_or_pos lc with e | e
  · have := h.cn; rw [e] at this; omega
  · exact e
 have hlc2 : lc ≤ 65536 := by
  have h9 : 1 * lc ≤ S * lc := Nat.mul_le_mul_right _ xo
  have := h.cn
  omega
 have hlw2 : lw ≤ 65536 := by
  have := slHead_facts (slMay_head hm)
  obtain ⟨S', M, -, -, -, b3, -, -, -, b7, -, b9, -⟩ := this
  rw [h.elw] at b9
  omega
 refine over_core w c.seg sa.wa sa.ka sa.va sa.ca sa.wc sa.kc sa.vc sa.cc c.ws.length c.ks.length c.vs.length c.cs.length c.laid lo hi L.length (ints (plR L.length lo hi)) la pl (spC c lo hi L) (by rw [ints_length, plR_length]) (hid fun W hb => ?_) (hid fun W hb => Places_ok L.length lo hi hlo xo hL W) (hid fun W pa pc hb hp => ?_)
 · have := slCheck_ok c sa (by rw [h.elw]; omega) (by rw [h.elk]; omega) W (hin.below hb)
   rwa [show slE c = 0 by simp [slE, hm]] at this
 · have hin2 := hin.below hb
   have e1 := h.elw
   have e2 := h.elk
   have e3 := h.elv
   have e4 := h.elc
   rw [e1, e2, e3, e4]
   refine slFill_core W c.seg sa.wa sa.ka sa.va sa.ca sa.wc sa.kc sa.vc sa.cc lw n lc c.laid c lo hi L.length S (plR L.length lo hi) L pa la pc pl rfl rfl e1 e2 e3 e4 xo xo hlc nm hlw2 hlc2 h.seg s4 hlo hhi wn h.cn (plR_length _ _ _) rfl xo (fun k hk => plR_pv hk hL) (fun j hj => (h.tks j xo).ok) (fun k hk => (SlGd.lys (h.tks (hi - lo) xo) (fun k => plR_ltn hL hhi xo k) L k).ok) (hid hp) (hid (hla.below hb)) (hid fun W' hb' => ?_) (hid fun W' hb' => ?_)
   · have := part_ok c sa (by rw [e1]; omega) (by rw [e2]; omega) lo hi W' (hin2.below hb')
     rw [show partE c lo hi = 0 by unfold partE; rw [if_pos hm, if_pos (by rw [e2]; omega)]] at this
     simpa only [slV, e1, e2, e3, e4] using this
   · have := slTwin_ok c sa W' (hin2.below hb') (by rw [e1]; omega) (by rw [e2]; omega) (by rw [e3]; omega) (by rw [e4]; omega)
     simpa only [slV, e1, e2, e3, e4] using this
def emptyL (S M : Nat) (laid : Int) : SlC := ⟨S, List.replicate ((S * M + 63) / 64) 0, List.replicate (S * M) 0, List.replicate (S * M) 0, List.replicate M 0, laid⟩
theorem emptyL_gd {S M : Nat} (h4 : 4 ≤ S) (h6 : S ≤ 64) (hM : 1 ≤ M) (hm : S * M ≤ 65536) (laid : Int) : SlGd (emptyL S M laid) S ((S * M + 63) / 64) (S * M) M := by
 have z := zero_gd h4 h6 hM hm (lw := (S * M + 63) / 64) rfl
 exact ⟨z.seg, z.elw, z.elk, z.elv, z.elc, z.s4, z.s64, z.cn, z.wn, z.n1, z.nm, z.u, z.cnt, z.hi, z.clr⟩
def wideC (S M : Nat) (laid : Int) (L : List (Int × Int)) : SlC := spC (emptyL S M laid) 0 (S * M) L
theorem new_nums {S M : Nat} (h4 : 4 ≤ S) (hm : S * M ≤ 65536) : (((S * M : Nat) : Int) + 63).tdiv 64 = ((S * M + 63) / 64 : Nat) ∧ ((S * M : Nat) : Int).tdiv S = M ∧ (S * M + 63) / 64 ≤ 2000 ∧ M ≤ 65536 := by
 have h9 : 1 * M ≤ S * M := Nat.mul_le_mul_right _ xo
 refine ⟨?_, ?_, by omega, by omega⟩
 · rw [Int.tdiv_eq_ediv_of_nonneg xo]; omega
 · rw [Int.tdiv_eq_ediv_of_nonneg xo, Int.natCast_mul, Int.mul_ediv_cancel_left _ xo]
theorem Into_ok {c : SlC} {S lw n lc : Nat} (h : SlGd c S lw n lc) (hm : slMay c = true) (sa : SlA) (M : Nat) (hM : 1 ≤ M) (hS : pwB (S : Int) = true) (hMp : pwB (M : Int) = true) (hsm : S * M ≤ 65536) (L : List (Int × Int)) (hL : L.length ≤ S * M) (la : Option Addr) (pl : Nat) (w : World) (hin : SlIn w c sa) (hla : IsRow .i64 w la (prI L)) :
    Calls Tryd.prog 29 #[slV c sa, .int .i64 ((S * M : Nat) : Int), .slice la L.length pl] w (FreshSl2 w (wideC S M c.laid L) (.int .i64 0)) := by
 obtain ⟨q1, q2, q3, q4⟩ := new_nums (M := M) h.s4 hsm
 have ge := emptyL_gd h.s4 h.s64 hM hsm c.laid
 have gm := gd_may ge hS hMp rfl
 refine Into_core w c.seg sa.wa sa.ka sa.va sa.ca sa.wc sa.kc sa.vc sa.cc c.ws.length c.ks.length c.vs.length c.cs.length c.laid (S * M) L.length la pl (zeroSl S (S * M) ((S * M + 63) / 64) M) (wideC S M c.laid L) ge.u (hid fun W hb => ?_) (hid fun W hb => ?_) (hid fun W sa' hb hi z1 z2 z3 z4 => ?_)
 · have := slCheck_ok c sa (by rw [h.elw]; have := slHead_facts (slMay_head hm); obtain ⟨S', M', -, -, -, b3, -, -, -, b7, -, b9, -⟩ := this; rw [h.elw] at b9; omega) (by rw [h.elk]; have := h.nm; omega) W (hin.below hb)
   rwa [show slE c = 0 by simp [slE, hm]] at this
 · rw [h.seg]
   refine slNew_core W S (S * M) ((S * M + 63) / 64) M h.s4 hsm h.s64 q1 q2 xo q4 (hid fun W' => ?_)
   have := fits_ok (S : Int) ((S * M : Nat) : Int) W'
   rwa [gd_fit ge gm] at this
 · exact over_ok ge gm sa' 0 (S * M) (Nat.zero_le _) (Nat.le_refl _) L xo la pl W hi (hla.below hb)
end
section
open Go.RowKit Go.Shelf
attribute [local go_sem] Oper.semAt_some
end
end Go.Proofs.YtookgoidlnlckaaDoor

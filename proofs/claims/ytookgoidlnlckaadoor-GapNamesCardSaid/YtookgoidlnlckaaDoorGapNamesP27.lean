/- Merged: GTake. -/
import Derived.Test.YtookgoidlnlckaaDoorGapNamesP25
import Derived.Test.YtookgoidlnlckaaDoorGapNamesP26
namespace Go.Proofs.YtookgoidlnlckaaDoor
set_option maxRecDepth 100000
set_option maxHeartbeats 40000000
set_option linter.unusedVariables false
set_option linter.unusedSimpArgs false
section
open Go.RowKit Go.Shelf Go.Sort
attribute [local go_sem] Oper.semAt_some
theorem gTake_err (c : Cfg) (seg : Int) (wa ka va ca : Option Addr) (wc kc vc cc lw n lv lc : Nat) (laid : Int) (k e : Int) (he : e ≠ 0) (w : World) (CK : Hid (∀ W, Below w.heap.size w W → Calls Tryd.prog 18 #[.agg #[.int .u8 c.tag, .int .i64 c.most, .int .i64 c.seg, .int .i64 c.least, .int .i64 c.den, .int .i64 c.ll, .int .i64 c.rl, .int .i64 c.rh, .int .i64 c.lh], .agg #[.int .i64 seg, .slice wa lw wc, .slice ka n kc, .slice va lv vc, .slice ca lc cc, .int .u64 laid]] W (AnsB W (.int .i64 e)))) :
    Calls Tryd.prog 13 #[.agg #[.int .u8 c.tag, .int .i64 c.most, .int .i64 c.seg, .int .i64 c.least, .int .i64 c.den, .int .i64 c.ll, .int .i64 c.rl, .int .i64 c.rh, .int .i64 c.lh], .agg #[.int .i64 seg, .slice wa lw wc, .slice ka n kc, .slice va lv vc, .slice ca lc cc, .int .u64 laid], .int .i64 k] w (FreshSl2 w ⟨0, [], [], [], [], 0⟩ (.int .i64 e)) := by
 have ge : (e != 0) = true := by simpa using he
 clear he
 go_enter Tryd.func13, Tryd.ntmps13
 go_wp2_with fail
 refine (CK.out _ xbel).mono ?_
 rintro e w1 ⟨rfl, hb1⟩
 have hz_w1 := hb1.size
 try simp only [World.size_alloc, World.size_setCell] at hz_w1
 have hh := bc9 hb1 (au9 (au9 (al9 (b := w.heap.size) (by simp))))
 obtain ⟨c_m0, c_m1, c_m2, c_m3, c_m4, c_m5, c_m6, c_m7, c_m8⟩ := hh
 have z_m := blt hb1 (auz (auz (alz (b := w.heap.size) (by simp))))
 have hh := bc6 hb1 (au6 (al6 (b := w.heap.size + 1) (by simp)))
 obtain ⟨c_t0, c_t1, c_t2, c_t3, c_t4, c_t5⟩ := hh
 have hh := bf6 hb1 (auz (alz (b := w.heap.size + 1) (by simp))) (auf6 (alz (b := w.heap.size + 1) (by simp)) (alf6 (b := w.heap.size + 1) (by simp)))
 obtain ⟨f_t0, f_t1, f_t2, f_t3, f_t4, f_t5⟩ := hh
 have z_t := blt hb1 (auz (alz (b := w.heap.size + 1) (by simp)))
 have hh := bc6 hb1 (al6 (b := w.heap.size + 1 + 1) (by simp))
 obtain ⟨c_r0, c_r1, c_r2, c_r3, c_r4, c_r5⟩ := hh
 have hh := bf6 hb1 (alz (b := w.heap.size + 1 + 1) (by simp)) (alf6 (b := w.heap.size + 1 + 1) (by simp))
 obtain ⟨f_r0, f_r1, f_r2, f_r3, f_r4, f_r5⟩ := hh
 have z_r := blt hb1 (alz (b := w.heap.size + 1 + 1) (by simp))
 have hB1 : Below w.heap.size w w1 := xbel
 have HB1 := hid hB1
 have hz1 : w.heap.size + 1 + 1 < w1.heap.size := z_r
 clear hb1 hB1
 go_wp2
 have HC := hid (six_some ⟨c_r0, c_r1, c_r2, c_r3, c_r4, c_r5⟩)
 refine bodyPost_ret (results_ct rfl rfl (run_loadVar_many _ Tryd.underlying29 rfl xk (setCs_all (W := w1) (b := w.heap.size + 1 + 1) (l := [.int .i64 0, .slice none 0 0, .slice none 0 0, .slice none 0 0, .slice none 0 0, .int .u64 0]) HC.out))) rfl ⟨_, _, _, _, rfl, ?_, ?_, ?_, ?_, ?_⟩
 · exact World.ownsRow_nil _ _ _ _
 · exact World.ownsRow_nil _ _ _ _
 · exact World.ownsRow_nil _ _ _ _
 · exact World.ownsRow_nil _ _ _ _
 · exact setCs_below (b := w.heap.size + 1 + 1) xo [.int .i64 0, .slice none 0 0, .slice none 0 0, .slice none 0 0, .slice none 0 0, .int .u64 0] _ 0 HB1.out
theorem gTake_neg (c : Cfg) (seg : Int) (wa ka va ca : Option Addr) (wc kc vc cc lw n lv lc : Nat) (laid : Int) (k : Int) (hk : k < 0) (w : World) (CK : Hid (∀ W, Below w.heap.size w W → Calls Tryd.prog 18 #[.agg #[.int .u8 c.tag, .int .i64 c.most, .int .i64 c.seg, .int .i64 c.least, .int .i64 c.den, .int .i64 c.ll, .int .i64 c.rl, .int .i64 c.rh, .int .i64 c.lh], .agg #[.int .i64 seg, .slice wa lw wc, .slice ka n kc, .slice va lv vc, .slice ca lc cc, .int .u64 laid]] W (AnsB W (.int .i64 0)))) :
    Calls Tryd.prog 13 #[.agg #[.int .u8 c.tag, .int .i64 c.most, .int .i64 c.seg, .int .i64 c.least, .int .i64 c.den, .int .i64 c.ll, .int .i64 c.rl, .int .i64 c.rh, .int .i64 c.lh], .agg #[.int .i64 seg, .slice wa lw wc, .slice ka n kc, .slice va lv vc, .slice ca lc cc, .int .u64 laid], .int .i64 k] w (FreshSl2 w ⟨0, [], [], [], [], 0⟩ (.int .i64 2)) := by
 have g1 : decide (k < 0) = true := by simpa using hk
 go_enter Tryd.func13, Tryd.ntmps13
 go_wp2_with fail
 refine (CK.out _ xbel).mono ?_
 rintro e w1 ⟨rfl, hb1⟩
 have hz_w1 := hb1.size
 try simp only [World.size_alloc, World.size_setCell] at hz_w1
 have hh := bc9 hb1 (au9 (au9 (al9 (b := w.heap.size) (by simp))))
 obtain ⟨c_m0, c_m1, c_m2, c_m3, c_m4, c_m5, c_m6, c_m7, c_m8⟩ := hh
 have z_m := blt hb1 (auz (auz (alz (b := w.heap.size) (by simp))))
 have hh := bc6 hb1 (au6 (al6 (b := w.heap.size + 1) (by simp)))
 obtain ⟨c_t0, c_t1, c_t2, c_t3, c_t4, c_t5⟩ := hh
 have hh := bf6 hb1 (auz (alz (b := w.heap.size + 1) (by simp))) (auf6 (alz (b := w.heap.size + 1) (by simp)) (alf6 (b := w.heap.size + 1) (by simp)))
 obtain ⟨f_t0, f_t1, f_t2, f_t3, f_t4, f_t5⟩ := hh
 have z_t := blt hb1 (auz (alz (b := w.heap.size + 1) (by simp)))
 have hh := bc6 hb1 (al6 (b := w.heap.size + 1 + 1) (by simp))
 obtain ⟨c_r0, c_r1, c_r2, c_r3, c_r4, c_r5⟩ := hh
 have hh := bf6 hb1 (alz (b := w.heap.size + 1 + 1) (by simp)) (alf6 (b := w.heap.size + 1 + 1) (by simp))
 obtain ⟨f_r0, f_r1, f_r2, f_r3, f_r4, f_r5⟩ := hh
 have z_r := blt hb1 (alz (b := w.heap.size + 1 + 1) (by simp))
 have hB1 : Below w.heap.size w w1 := xbel
 have HB1 := hid hB1
 have hz1 : w.heap.size + 1 + 1 < w1.heap.size := z_r
 clear hb1 hB1
 go_wp2
 have HC := hid (six_some ⟨c_r0, c_r1, c_r2, c_r3, c_r4, c_r5⟩)
 refine bodyPost_ret (results_ct rfl rfl (run_loadVar_many _ Tryd.underlying29 rfl xk (setCs_all (W := w1) (b := w.heap.size + 1 + 1) (l := [.int .i64 0, .slice none 0 0, .slice none 0 0, .slice none 0 0, .slice none 0 0, .int .u64 0]) HC.out))) rfl ⟨_, _, _, _, rfl, ?_, ?_, ?_, ?_, ?_⟩
 · exact World.ownsRow_nil _ _ _ _
 · exact World.ownsRow_nil _ _ _ _
 · exact World.ownsRow_nil _ _ _ _
 · exact World.ownsRow_nil _ _ _ _
 · exact setCs_below (b := w.heap.size + 1 + 1) xo [.int .i64 0, .slice none 0 0, .slice none 0 0, .slice none 0 0, .slice none 0 0, .int .u64 0] _ 0 HB1.out
theorem gTake_arg (c : Cfg) (seg : Int) (wa ka va ca : Option Addr) (wc kc vc cc lw n lv lc : Nat) (laid : Int) (k many : Int) (hk : ¬ k < 0) (hm : many ≤ k) (w : World) (CK : Hid (∀ W, Below w.heap.size w W → Calls Tryd.prog 18 #[.agg #[.int .u8 c.tag, .int .i64 c.most, .int .i64 c.seg, .int .i64 c.least, .int .i64 c.den, .int .i64 c.ll, .int .i64 c.rl, .int .i64 c.rh, .int .i64 c.lh], .agg #[.int .i64 seg, .slice wa lw wc, .slice ka n kc, .slice va lv vc, .slice ca lc cc, .int .u64 laid]] W (AnsB W (.int .i64 0)))) (AM : Hid (∀ W, Below w.heap.size w W → Calls Tryd.prog 21 #[.agg #[.int .i64 seg, .slice wa lw wc, .slice ka n kc, .slice va lv vc, .slice ca lc cc, .int .u64 laid], .int .i64 0, .int .i64 n] W (AnsB W (.int .i64 many)))) :
    Calls Tryd.prog 13 #[.agg #[.int .u8 c.tag, .int .i64 c.most, .int .i64 c.seg, .int .i64 c.least, .int .i64 c.den, .int .i64 c.ll, .int .i64 c.rl, .int .i64 c.rh, .int .i64 c.lh], .agg #[.int .i64 seg, .slice wa lw wc, .slice ka n kc, .slice va lv vc, .slice ca lc cc, .int .u64 laid], .int .i64 k] w (FreshSl2 w ⟨0, [], [], [], [], 0⟩ (.int .i64 2)) := by
 have g1 : decide (k < 0) = false := by simpa using hk
 have g2 : decide (k ≥ many) = true := by simpa using hm
 have g2b : decide (many ≤ k) = true := by simpa using hm
 go_enter Tryd.func13, Tryd.ntmps13
 go_wp2_with fail
 refine (CK.out _ xbel).mono ?_
 rintro e w1 ⟨rfl, hb1⟩
 have hz_w1 := hb1.size
 try simp only [World.size_alloc, World.size_setCell] at hz_w1
 have hh := bc9 hb1 (au9 (au9 (al9 (b := w.heap.size) (by simp))))
 obtain ⟨c_m0, c_m1, c_m2, c_m3, c_m4, c_m5, c_m6, c_m7, c_m8⟩ := hh
 have z_m := blt hb1 (auz (auz (alz (b := w.heap.size) (by simp))))
 have hh := bc6 hb1 (au6 (al6 (b := w.heap.size + 1) (by simp)))
 obtain ⟨c_t0, c_t1, c_t2, c_t3, c_t4, c_t5⟩ := hh
 have hh := bf6 hb1 (auz (alz (b := w.heap.size + 1) (by simp))) (auf6 (alz (b := w.heap.size + 1) (by simp)) (alf6 (b := w.heap.size + 1) (by simp)))
 obtain ⟨f_t0, f_t1, f_t2, f_t3, f_t4, f_t5⟩ := hh
 have z_t := blt hb1 (auz (alz (b := w.heap.size + 1) (by simp)))
 have hh := bc6 hb1 (al6 (b := w.heap.size + 1 + 1) (by simp))
 obtain ⟨c_r0, c_r1, c_r2, c_r3, c_r4, c_r5⟩ := hh
 have hh := bf6 hb1 (alz (b := w.heap.size + 1 + 1) (by simp)) (alf6 (b := w.heap.size + 1 + 1) (by simp))
 obtain ⟨f_r0, f_r1, f_r2, f_r3, f_r4, f_r5⟩ := hh
 have z_r := blt hb1 (alz (b := w.heap.size + 1 + 1) (by simp))
 have hB1 : Below w.heap.size w w1 := xbel
 have HB1 := hid hB1
 have hz1 : w.heap.size + 1 + 1 < w1.heap.size := z_r
 clear hb1 hB1
 go_wp2_with fail
 refine (AM.out _ HB1.out).mono ?_
 rintro e w2 ⟨rfl, hb2⟩
 have hz_w2 := hb2.size
 try simp only [World.size_alloc, World.size_setCell] at hz_w2
 have hh := bc9 hb2 ⟨c_m0, c_m1, c_m2, c_m3, c_m4, c_m5, c_m6, c_m7, c_m8⟩
 clear c_m0 c_m1 c_m2 c_m3 c_m4 c_m5 c_m6 c_m7 c_m8
 obtain ⟨c_m0, c_m1, c_m2, c_m3, c_m4, c_m5, c_m6, c_m7, c_m8⟩ := hh
 replace z_m := blt hb2 z_m
 have hh := bc6 hb2 ⟨c_t0, c_t1, c_t2, c_t3, c_t4, c_t5⟩
 clear c_t0 c_t1 c_t2 c_t3 c_t4 c_t5
 obtain ⟨c_t0, c_t1, c_t2, c_t3, c_t4, c_t5⟩ := hh
 have hh := bf6 hb2 z_t ⟨f_t0, f_t1, f_t2, f_t3, f_t4, f_t5⟩
 clear f_t0 f_t1 f_t2 f_t3 f_t4 f_t5
 obtain ⟨f_t0, f_t1, f_t2, f_t3, f_t4, f_t5⟩ := hh
 replace z_t := blt hb2 z_t
 have hh := bc6 hb2 ⟨c_r0, c_r1, c_r2, c_r3, c_r4, c_r5⟩
 clear c_r0 c_r1 c_r2 c_r3 c_r4 c_r5
 obtain ⟨c_r0, c_r1, c_r2, c_r3, c_r4, c_r5⟩ := hh
 have hh := bf6 hb2 z_r ⟨f_r0, f_r1, f_r2, f_r3, f_r4, f_r5⟩
 clear f_r0 f_r1 f_r2 f_r3 f_r4 f_r5
 obtain ⟨f_r0, f_r1, f_r2, f_r3, f_r4, f_r5⟩ := hh
 replace z_r := blt hb2 z_r
 have HB2 := xv hb2 HB1
 have hz2 : w.heap.size + 1 + 1 < w2.heap.size := z_r
 clear hb2
 go_wp2
 have HC := hid (six_some ⟨c_r0, c_r1, c_r2, c_r3, c_r4, c_r5⟩)
 refine bodyPost_ret (results_ct rfl rfl (run_loadVar_many _ Tryd.underlying29 rfl xk (setCs_all (W := w2) (b := w.heap.size + 1 + 1) (l := [.int .i64 0, .slice none 0 0, .slice none 0 0, .slice none 0 0, .slice none 0 0, .int .u64 0]) HC.out))) rfl ⟨_, _, _, _, rfl, ?_, ?_, ?_, ?_, ?_⟩
 · exact World.ownsRow_nil _ _ _ _
 · exact World.ownsRow_nil _ _ _ _
 · exact World.ownsRow_nil _ _ _ _
 · exact World.ownsRow_nil _ _ _ _
 · exact setCs_below (b := w.heap.size + 1 + 1) xo [.int .i64 0, .slice none 0 0, .slice none 0 0, .slice none 0 0, .slice none 0 0, .int .u64 0] _ 0 HB2.out
theorem gTake_none (c : Cfg) (seg : Int) (wa ka va ca : Option Addr) (wc kc vc cc lw n lv lc : Nat) (laid : Int) (a H at_ k : Nat) (many t : Int) (z : SlC) (hzu : U64s z.ws) (hm : ¬ many ≤ (k : Int)) (ht : t = -1) (w : World) (CK : Hid (∀ W, Below w.heap.size w W → Calls Tryd.prog 18 #[.agg #[.int .u8 c.tag, .int .i64 c.most, .int .i64 c.seg, .int .i64 c.least, .int .i64 c.den, .int .i64 c.ll, .int .i64 c.rl, .int .i64 c.rh, .int .i64 c.lh], .agg #[.int .i64 seg, .slice wa lw wc, .slice ka n kc, .slice va lv vc, .slice ca lc cc, .int .u64 laid]] W (AnsB W (.int .i64 0)))) (AM : Hid (∀ W, Below w.heap.size w W → Calls Tryd.prog 21 #[.agg #[.int .i64 seg, .slice wa lw wc, .slice ka n kc, .slice va lv vc, .slice ca lc cc, .int .u64 laid], .int .i64 0, .int .i64 n] W (AnsB W (.int .i64 many))))
    (NT : Hid (∀ W, Below w.heap.size w W → Calls Tryd.prog 10 #[.slice wa lw wc, .int .i64 n, .int .i64 k] W (AnsB W (.tuple #[.int .i64 at_, .int .i64 0]))))
    (CL : Hid (∀ W, Below w.heap.size w W → Calls Tryd.prog 14 #[.agg #[.int .i64 seg, .slice wa lw wc, .slice ka n kc, .slice va lv vc, .slice ca lc cc, .int .u64 laid], .int .i64 at_] W (FreshSl2 W z (.int .i64 0))))
    (HI : Hid (∀ W (zb : SlA), Below w.heap.size w W → SlIn W z zb → z.cs.length ≤ zb.cc → W.cell? ⟨w.heap.size, 0, none⟩ = some (.int .u8 c.tag) → W.cell? ⟨w.heap.size, 1, none⟩ = some (.int .i64 c.most) → W.cell? ⟨w.heap.size, 2, none⟩ = some (.int .i64 c.seg) → W.cell? ⟨w.heap.size, 3, none⟩ = some (.int .i64 c.least) → W.cell? ⟨w.heap.size, 4, none⟩ = some (.int .i64 c.den) → W.cell? ⟨w.heap.size, 5, none⟩ = some (.int .i64 c.ll) → W.cell? ⟨w.heap.size, 6, none⟩ = some (.int .i64 c.rl) → W.cell? ⟨w.heap.size, 7, none⟩ = some (.int .i64 c.rh) → W.cell? ⟨w.heap.size, 8, none⟩ = some (.int .i64 c.lh) → W.cell? ⟨w.heap.size + 1, 0, none⟩ = some (.int .i64 z.seg) → W.cell? ⟨w.heap.size + 1, 1, none⟩ = some (.slice zb.wa z.ws.length zb.wc) → W.cell? ⟨w.heap.size + 1, 2, none⟩ = some (.slice zb.ka z.ks.length zb.kc) → W.cell? ⟨w.heap.size + 1, 3, none⟩ = some (.slice zb.va z.vs.length zb.vc) → W.cell? ⟨w.heap.size + 1, 4, none⟩ = some (.slice zb.ca z.cs.length zb.cc) → W.cell? ⟨w.heap.size + 1, 5, none⟩ = some (.int .u64 z.laid) → Calls Tryd.prog 24 #[.agg #[.int .i64 z.seg, .slice zb.wa z.ws.length zb.wc, .slice zb.ka z.ks.length zb.kc, .slice zb.va z.vs.length zb.vc, .slice zb.ca z.cs.length zb.cc, .int .u64 z.laid], .int .i64 at_, .func (.func 37) #[] #[.pointer (some ⟨w.heap.size, 0, none⟩), .pointer (some ⟨w.heap.size + 1, 0, none⟩)]] W (HighR W a at_ H t))) :
    Calls Tryd.prog 13 #[.agg #[.int .u8 c.tag, .int .i64 c.most, .int .i64 c.seg, .int .i64 c.least, .int .i64 c.den, .int .i64 c.ll, .int .i64 c.rl, .int .i64 c.rh, .int .i64 c.lh], .agg #[.int .i64 seg, .slice wa lw wc, .slice ka n kc, .slice va lv vc, .slice ca lc cc, .int .u64 laid], .int .i64 k] w (FreshSl2 w z (.int .i64 0)) := by
 have g1 : decide ((k : Int) < 0) = false := by simp
 have g2 : decide ((k : Int) ≥ many) = false := by simpa using hm
 have g2b : decide (many ≤ (k : Int)) = false := by simpa using hm
 have HZU := hid hzu
 clear hzu
 have g4 : (t == -1) = true := by rw [beq_iff_eq]; exact ht
 clear ht
 go_enter Tryd.func13, Tryd.ntmps13
 go_wp2_with fail
 refine (CK.out _ xbel).mono ?_
 rintro e w1 ⟨rfl, hb1⟩
 have hz_w1 := hb1.size
 try simp only [World.size_alloc, World.size_setCell] at hz_w1
 have hh := bc9 hb1 (au9 (au9 (al9 (b := w.heap.size) (by simp))))
 obtain ⟨c_m0, c_m1, c_m2, c_m3, c_m4, c_m5, c_m6, c_m7, c_m8⟩ := hh
 have z_m := blt hb1 (auz (auz (alz (b := w.heap.size) (by simp))))
 have hh := bc6 hb1 (au6 (al6 (b := w.heap.size + 1) (by simp)))
 obtain ⟨c_t0, c_t1, c_t2, c_t3, c_t4, c_t5⟩ := hh
 have hh := bf6 hb1 (auz (alz (b := w.heap.size + 1) (by simp))) (auf6 (alz (b := w.heap.size + 1) (by simp)) (alf6 (b := w.heap.size + 1) (by simp)))
 obtain ⟨f_t0, f_t1, f_t2, f_t3, f_t4, f_t5⟩ := hh
 have z_t := blt hb1 (auz (alz (b := w.heap.size + 1) (by simp)))
 have hh := bc6 hb1 (al6 (b := w.heap.size + 1 + 1) (by simp))
 obtain ⟨c_r0, c_r1, c_r2, c_r3, c_r4, c_r5⟩ := hh
 have hh := bf6 hb1 (alz (b := w.heap.size + 1 + 1) (by simp)) (alf6 (b := w.heap.size + 1 + 1) (by simp))
 obtain ⟨f_r0, f_r1, f_r2, f_r3, f_r4, f_r5⟩ := hh
 have z_r := blt hb1 (alz (b := w.heap.size + 1 + 1) (by simp))
 have hB1 : Below w.heap.size w w1 := xbel
 have HB1 := hid hB1
 have hz1 : w.heap.size + 1 + 1 < w1.heap.size := z_r
 clear hb1 hB1
 go_wp2_with fail
 refine (AM.out _ HB1.out).mono ?_
 rintro e w2 ⟨rfl, hb2⟩
 have hz_w2 := hb2.size
 try simp only [World.size_alloc, World.size_setCell] at hz_w2
 have hh := bc9 hb2 ⟨c_m0, c_m1, c_m2, c_m3, c_m4, c_m5, c_m6, c_m7, c_m8⟩
 clear c_m0 c_m1 c_m2 c_m3 c_m4 c_m5 c_m6 c_m7 c_m8
 obtain ⟨c_m0, c_m1, c_m2, c_m3, c_m4, c_m5, c_m6, c_m7, c_m8⟩ := hh
 replace z_m := blt hb2 z_m
 have hh := bc6 hb2 ⟨c_t0, c_t1, c_t2, c_t3, c_t4, c_t5⟩
 clear c_t0 c_t1 c_t2 c_t3 c_t4 c_t5
 obtain ⟨c_t0, c_t1, c_t2, c_t3, c_t4, c_t5⟩ := hh
 have hh := bf6 hb2 z_t ⟨f_t0, f_t1, f_t2, f_t3, f_t4, f_t5⟩
 clear f_t0 f_t1 f_t2 f_t3 f_t4 f_t5
 obtain ⟨f_t0, f_t1, f_t2, f_t3, f_t4, f_t5⟩ := hh
 replace z_t := blt hb2 z_t
 have hh := bc6 hb2 ⟨c_r0, c_r1, c_r2, c_r3, c_r4, c_r5⟩
 clear c_r0 c_r1 c_r2 c_r3 c_r4 c_r5
 obtain ⟨c_r0, c_r1, c_r2, c_r3, c_r4, c_r5⟩ := hh
 have hh := bf6 hb2 z_r ⟨f_r0, f_r1, f_r2, f_r3, f_r4, f_r5⟩
 clear f_r0 f_r1 f_r2 f_r3 f_r4 f_r5
 obtain ⟨f_r0, f_r1, f_r2, f_r3, f_r4, f_r5⟩ := hh
 replace z_r := blt hb2 z_r
 have HB2 := xv hb2 HB1
 have hz2 : w.heap.size + 1 + 1 < w2.heap.size := z_r
 clear hb2
 go_wp2_with fail
 refine (NT.out _ HB2.out).mono ?_
 rintro e w3 ⟨rfl, hb3⟩
 have hz_w3 := hb3.size
 try simp only [World.size_alloc, World.size_setCell] at hz_w3
 have hh := bc9 hb3 ⟨c_m0, c_m1, c_m2, c_m3, c_m4, c_m5, c_m6, c_m7, c_m8⟩
 clear c_m0 c_m1 c_m2 c_m3 c_m4 c_m5 c_m6 c_m7 c_m8
 obtain ⟨c_m0, c_m1, c_m2, c_m3, c_m4, c_m5, c_m6, c_m7, c_m8⟩ := hh
 replace z_m := blt hb3 z_m
 have hh := bc6 hb3 ⟨c_t0, c_t1, c_t2, c_t3, c_t4, c_t5⟩
 clear c_t0 c_t1 c_t2 c_t3 c_t4 c_t5
 obtain ⟨c_t0, c_t1, c_t2, c_t3, c_t4, c_t5⟩ := hh
 have hh := bf6 hb3 z_t ⟨f_t0, f_t1, f_t2, f_t3, f_t4, f_t5⟩
 clear f_t0 f_t1 f_t2 f_t3 f_t4 f_t5
 obtain ⟨f_t0, f_t1, f_t2, f_t3, f_t4, f_t5⟩ := hh
 replace z_t := blt hb3 z_t
 have hh := bc6 hb3 ⟨c_r0, c_r1, c_r2, c_r3, c_r4, c_r5⟩
 clear c_r0 c_r1 c_r2 c_r3 c_r4 c_r5
 obtain ⟨c_r0, c_r1, c_r2, c_r3, c_r4, c_r5⟩ := hh
 have hh := bf6 hb3 z_r ⟨f_r0, f_r1, f_r2, f_r3, f_r4, f_r5⟩
 clear f_r0 f_r1 f_r2 f_r3 f_r4 f_r5
 obtain ⟨f_r0, f_r1, f_r2, f_r3, f_r4, f_r5⟩ := hh
 replace z_r := blt hb3 z_r
 have HB3 := xv hb3 HB2
 have hz3 : w.heap.size + 1 + 1 < w3.heap.size := z_r
 clear hb3
 go_wp2_with fail
 refine (CL.out _ HB3.out).mono ?_
 rintro e w4 ⟨v1, v2, v3, v4, rfl, p1, p2, p3, p4, hb4⟩
 have hz_w4 := hb4.size
 try simp only [World.size_alloc, World.size_setCell] at hz_w4
 have hh := bc9 hb4 ⟨c_m0, c_m1, c_m2, c_m3, c_m4, c_m5, c_m6, c_m7, c_m8⟩
 clear c_m0 c_m1 c_m2 c_m3 c_m4 c_m5 c_m6 c_m7 c_m8
 obtain ⟨c_m0, c_m1, c_m2, c_m3, c_m4, c_m5, c_m6, c_m7, c_m8⟩ := hh
 replace z_m := blt hb4 z_m
 have hh := bc6 hb4 ⟨c_t0, c_t1, c_t2, c_t3, c_t4, c_t5⟩
 clear c_t0 c_t1 c_t2 c_t3 c_t4 c_t5
 obtain ⟨c_t0, c_t1, c_t2, c_t3, c_t4, c_t5⟩ := hh
 have hh := bf6 hb4 z_t ⟨f_t0, f_t1, f_t2, f_t3, f_t4, f_t5⟩
 clear f_t0 f_t1 f_t2 f_t3 f_t4 f_t5
 obtain ⟨f_t0, f_t1, f_t2, f_t3, f_t4, f_t5⟩ := hh
 replace z_t := blt hb4 z_t
 have hh := bc6 hb4 ⟨c_r0, c_r1, c_r2, c_r3, c_r4, c_r5⟩
 clear c_r0 c_r1 c_r2 c_r3 c_r4 c_r5
 obtain ⟨c_r0, c_r1, c_r2, c_r3, c_r4, c_r5⟩ := hh
 have hh := bf6 hb4 z_r ⟨f_r0, f_r1, f_r2, f_r3, f_r4, f_r5⟩
 clear f_r0 f_r1 f_r2 f_r3 f_r4 f_r5
 obtain ⟨f_r0, f_r1, f_r2, f_r3, f_r4, f_r5⟩ := hh
 replace z_r := blt hb4 z_r
 have HB4 := xv hb4 HB3
 obtain ⟨b1, j1, rfl, -, -, -, -, -⟩ := row_of_owns p1
 obtain ⟨b2, j2, rfl, -, -, -, -, -⟩ := row_of_owns p2
 obtain ⟨b3, j3, rfl, -, -, -, -, -⟩ := row_of_owns p3
 obtain ⟨b4, j4, rfl, -, -, -, hjc, -⟩ := row_of_owns p4
 have HP4 := hid (And.intro p1 (And.intro p2 (And.intro p3 p4)))
 have HJC := hid hjc
 have hz4 : w.heap.size + 1 + 1 < w4.heap.size := z_r
 clear hb4 p1 p2 p3 p4 hjc
 go_upto_region 8 with (fail)
 generalize hw5 : ((((((w4).setCell ⟨w.heap.size + 1, 0, none⟩ (.int .i64 z.seg)).setCell ⟨w.heap.size + 1, 1, none⟩ (.slice b1 z.ws.length j1)).setCell ⟨w.heap.size + 1, 2, none⟩ (.slice b2 z.ks.length j2)).setCell ⟨w.heap.size + 1, 3, none⟩ (.slice b3 z.vs.length j3)).setCell ⟨w.heap.size + 1, 4, none⟩ (.slice b4 z.cs.length j4)).setCell ⟨w.heap.size + 1, 5, none⟩ (.int .u64 z.laid) = w5
 have HCS := six_some ⟨c_t0, c_t1, c_t2, c_t3, c_t4, c_t5⟩
 replace c_m0 : w5.cell? ⟨w.heap.size, 0, none⟩ = some (.int .u8 c.tag) := by rw [← hw5]; exact (setCs_other (p := ⟨w.heap.size, 0, none⟩) (b := w.heap.size + 1) (by dsimp only; omega) [.int .i64 z.seg, .slice b1 z.ws.length j1, .slice b2 z.ks.length j2, .slice b3 z.vs.length j3, .slice b4 z.cs.length j4, .int .u64 z.laid] w4 0).trans c_m0
 replace c_m1 : w5.cell? ⟨w.heap.size, 1, none⟩ = some (.int .i64 c.most) := by rw [← hw5]; exact (setCs_other (p := ⟨w.heap.size, 1, none⟩) (b := w.heap.size + 1) (by dsimp only; omega) [.int .i64 z.seg, .slice b1 z.ws.length j1, .slice b2 z.ks.length j2, .slice b3 z.vs.length j3, .slice b4 z.cs.length j4, .int .u64 z.laid] w4 0).trans c_m1
 replace c_m2 : w5.cell? ⟨w.heap.size, 2, none⟩ = some (.int .i64 c.seg) := by rw [← hw5]; exact (setCs_other (p := ⟨w.heap.size, 2, none⟩) (b := w.heap.size + 1) (by dsimp only; omega) [.int .i64 z.seg, .slice b1 z.ws.length j1, .slice b2 z.ks.length j2, .slice b3 z.vs.length j3, .slice b4 z.cs.length j4, .int .u64 z.laid] w4 0).trans c_m2
 replace c_m3 : w5.cell? ⟨w.heap.size, 3, none⟩ = some (.int .i64 c.least) := by rw [← hw5]; exact (setCs_other (p := ⟨w.heap.size, 3, none⟩) (b := w.heap.size + 1) (by dsimp only; omega) [.int .i64 z.seg, .slice b1 z.ws.length j1, .slice b2 z.ks.length j2, .slice b3 z.vs.length j3, .slice b4 z.cs.length j4, .int .u64 z.laid] w4 0).trans c_m3
 replace c_m4 : w5.cell? ⟨w.heap.size, 4, none⟩ = some (.int .i64 c.den) := by rw [← hw5]; exact (setCs_other (p := ⟨w.heap.size, 4, none⟩) (b := w.heap.size + 1) (by dsimp only; omega) [.int .i64 z.seg, .slice b1 z.ws.length j1, .slice b2 z.ks.length j2, .slice b3 z.vs.length j3, .slice b4 z.cs.length j4, .int .u64 z.laid] w4 0).trans c_m4
 replace c_m5 : w5.cell? ⟨w.heap.size, 5, none⟩ = some (.int .i64 c.ll) := by rw [← hw5]; exact (setCs_other (p := ⟨w.heap.size, 5, none⟩) (b := w.heap.size + 1) (by dsimp only; omega) [.int .i64 z.seg, .slice b1 z.ws.length j1, .slice b2 z.ks.length j2, .slice b3 z.vs.length j3, .slice b4 z.cs.length j4, .int .u64 z.laid] w4 0).trans c_m5
 replace c_m6 : w5.cell? ⟨w.heap.size, 6, none⟩ = some (.int .i64 c.rl) := by rw [← hw5]; exact (setCs_other (p := ⟨w.heap.size, 6, none⟩) (b := w.heap.size + 1) (by dsimp only; omega) [.int .i64 z.seg, .slice b1 z.ws.length j1, .slice b2 z.ks.length j2, .slice b3 z.vs.length j3, .slice b4 z.cs.length j4, .int .u64 z.laid] w4 0).trans c_m6
 replace c_m7 : w5.cell? ⟨w.heap.size, 7, none⟩ = some (.int .i64 c.rh) := by rw [← hw5]; exact (setCs_other (p := ⟨w.heap.size, 7, none⟩) (b := w.heap.size + 1) (by dsimp only; omega) [.int .i64 z.seg, .slice b1 z.ws.length j1, .slice b2 z.ks.length j2, .slice b3 z.vs.length j3, .slice b4 z.cs.length j4, .int .u64 z.laid] w4 0).trans c_m7
 replace c_m8 : w5.cell? ⟨w.heap.size, 8, none⟩ = some (.int .i64 c.lh) := by rw [← hw5]; exact (setCs_other (p := ⟨w.heap.size, 8, none⟩) (b := w.heap.size + 1) (by dsimp only; omega) [.int .i64 z.seg, .slice b1 z.ws.length j1, .slice b2 z.ks.length j2, .slice b3 z.vs.length j3, .slice b4 z.cs.length j4, .int .u64 z.laid] w4 0).trans c_m8
 replace z_m : w.heap.size < w5.heap.size := by rw [← hw5]; exact Nat.lt_of_lt_of_eq z_m (setCs_size [.int .i64 z.seg, .slice b1 z.ws.length j1, .slice b2 z.ks.length j2, .slice b3 z.vs.length j3, .slice b4 z.cs.length j4, .int .u64 z.laid] w4 (w.heap.size + 1) 0).symm
 replace c_t0 : w5.cell? ⟨w.heap.size + 1, 0, none⟩ = some (.int .i64 z.seg) := by rw [← hw5]; exact setCs_all (W := w4) (b := w.heap.size + 1) (l := [.int .i64 z.seg, .slice b1 z.ws.length j1, .slice b2 z.ks.length j2, .slice b3 z.vs.length j3, .slice b4 z.cs.length j4, .int .u64 z.laid]) HCS 0 _ rfl
 replace f_t0 : w5.frozen? ⟨w.heap.size + 1, 0, none⟩ = false := by rw [← hw5]; exact (setCs_frozen (W := w4) (b := w.heap.size + 1) [.int .i64 z.seg, .slice b1 z.ws.length j1, .slice b2 z.ks.length j2, .slice b3 z.vs.length j3, .slice b4 z.cs.length j4, .int .u64 z.laid] 0 _).trans f_t0
 replace c_t1 : w5.cell? ⟨w.heap.size + 1, 1, none⟩ = some (.slice b1 z.ws.length j1) := by rw [← hw5]; exact setCs_all (W := w4) (b := w.heap.size + 1) (l := [.int .i64 z.seg, .slice b1 z.ws.length j1, .slice b2 z.ks.length j2, .slice b3 z.vs.length j3, .slice b4 z.cs.length j4, .int .u64 z.laid]) HCS 1 _ rfl
 replace f_t1 : w5.frozen? ⟨w.heap.size + 1, 1, none⟩ = false := by rw [← hw5]; exact (setCs_frozen (W := w4) (b := w.heap.size + 1) [.int .i64 z.seg, .slice b1 z.ws.length j1, .slice b2 z.ks.length j2, .slice b3 z.vs.length j3, .slice b4 z.cs.length j4, .int .u64 z.laid] 0 _).trans f_t1
 replace c_t2 : w5.cell? ⟨w.heap.size + 1, 2, none⟩ = some (.slice b2 z.ks.length j2) := by rw [← hw5]; exact setCs_all (W := w4) (b := w.heap.size + 1) (l := [.int .i64 z.seg, .slice b1 z.ws.length j1, .slice b2 z.ks.length j2, .slice b3 z.vs.length j3, .slice b4 z.cs.length j4, .int .u64 z.laid]) HCS 2 _ rfl
 replace f_t2 : w5.frozen? ⟨w.heap.size + 1, 2, none⟩ = false := by rw [← hw5]; exact (setCs_frozen (W := w4) (b := w.heap.size + 1) [.int .i64 z.seg, .slice b1 z.ws.length j1, .slice b2 z.ks.length j2, .slice b3 z.vs.length j3, .slice b4 z.cs.length j4, .int .u64 z.laid] 0 _).trans f_t2
 replace c_t3 : w5.cell? ⟨w.heap.size + 1, 3, none⟩ = some (.slice b3 z.vs.length j3) := by rw [← hw5]; exact setCs_all (W := w4) (b := w.heap.size + 1) (l := [.int .i64 z.seg, .slice b1 z.ws.length j1, .slice b2 z.ks.length j2, .slice b3 z.vs.length j3, .slice b4 z.cs.length j4, .int .u64 z.laid]) HCS 3 _ rfl
 replace f_t3 : w5.frozen? ⟨w.heap.size + 1, 3, none⟩ = false := by rw [← hw5]; exact (setCs_frozen (W := w4) (b := w.heap.size + 1) [.int .i64 z.seg, .slice b1 z.ws.length j1, .slice b2 z.ks.length j2, .slice b3 z.vs.length j3, .slice b4 z.cs.length j4, .int .u64 z.laid] 0 _).trans f_t3
 replace c_t4 : w5.cell? ⟨w.heap.size + 1, 4, none⟩ = some (.slice b4 z.cs.length j4) := by rw [← hw5]; exact setCs_all (W := w4) (b := w.heap.size + 1) (l := [.int .i64 z.seg, .slice b1 z.ws.length j1, .slice b2 z.ks.length j2, .slice b3 z.vs.length j3, .slice b4 z.cs.length j4, .int .u64 z.laid]) HCS 4 _ rfl
 replace f_t4 : w5.frozen? ⟨w.heap.size + 1, 4, none⟩ = false := by rw [← hw5]; exact (setCs_frozen (W := w4) (b := w.heap.size + 1) [.int .i64 z.seg, .slice b1 z.ws.length j1, .slice b2 z.ks.length j2, .slice b3 z.vs.length j3, .slice b4 z.cs.length j4, .int .u64 z.laid] 0 _).trans f_t4
 replace c_t5 : w5.cell? ⟨w.heap.size + 1, 5, none⟩ = some (.int .u64 z.laid) := by rw [← hw5]; exact setCs_all (W := w4) (b := w.heap.size + 1) (l := [.int .i64 z.seg, .slice b1 z.ws.length j1, .slice b2 z.ks.length j2, .slice b3 z.vs.length j3, .slice b4 z.cs.length j4, .int .u64 z.laid]) HCS 5 _ rfl
 replace f_t5 : w5.frozen? ⟨w.heap.size + 1, 5, none⟩ = false := by rw [← hw5]; exact (setCs_frozen (W := w4) (b := w.heap.size + 1) [.int .i64 z.seg, .slice b1 z.ws.length j1, .slice b2 z.ks.length j2, .slice b3 z.vs.length j3, .slice b4 z.cs.length j4, .int .u64 z.laid] 0 _).trans f_t5
 replace z_t : w.heap.size + 1 < w5.heap.size := by rw [← hw5]; exact Nat.lt_of_lt_of_eq z_t (setCs_size [.int .i64 z.seg, .slice b1 z.ws.length j1, .slice b2 z.ks.length j2, .slice b3 z.vs.length j3, .slice b4 z.cs.length j4, .int .u64 z.laid] w4 (w.heap.size + 1) 0).symm
 replace c_r0 : w5.cell? ⟨w.heap.size + 1 + 1, 0, none⟩ = some (.int .i64 0) := by rw [← hw5]; exact (setCs_other (p := ⟨w.heap.size + 1 + 1, 0, none⟩) (b := w.heap.size + 1) (by dsimp only; omega) [.int .i64 z.seg, .slice b1 z.ws.length j1, .slice b2 z.ks.length j2, .slice b3 z.vs.length j3, .slice b4 z.cs.length j4, .int .u64 z.laid] w4 0).trans c_r0
 replace f_r0 : w5.frozen? ⟨w.heap.size + 1 + 1, 0, none⟩ = false := by rw [← hw5]; exact (setCs_frozen (W := w4) (b := w.heap.size + 1) [.int .i64 z.seg, .slice b1 z.ws.length j1, .slice b2 z.ks.length j2, .slice b3 z.vs.length j3, .slice b4 z.cs.length j4, .int .u64 z.laid] 0 _).trans f_r0
 replace c_r1 : w5.cell? ⟨w.heap.size + 1 + 1, 1, none⟩ = some (.slice none 0 0) := by rw [← hw5]; exact (setCs_other (p := ⟨w.heap.size + 1 + 1, 1, none⟩) (b := w.heap.size + 1) (by dsimp only; omega) [.int .i64 z.seg, .slice b1 z.ws.length j1, .slice b2 z.ks.length j2, .slice b3 z.vs.length j3, .slice b4 z.cs.length j4, .int .u64 z.laid] w4 0).trans c_r1
 replace f_r1 : w5.frozen? ⟨w.heap.size + 1 + 1, 1, none⟩ = false := by rw [← hw5]; exact (setCs_frozen (W := w4) (b := w.heap.size + 1) [.int .i64 z.seg, .slice b1 z.ws.length j1, .slice b2 z.ks.length j2, .slice b3 z.vs.length j3, .slice b4 z.cs.length j4, .int .u64 z.laid] 0 _).trans f_r1
 replace c_r2 : w5.cell? ⟨w.heap.size + 1 + 1, 2, none⟩ = some (.slice none 0 0) := by rw [← hw5]; exact (setCs_other (p := ⟨w.heap.size + 1 + 1, 2, none⟩) (b := w.heap.size + 1) (by dsimp only; omega) [.int .i64 z.seg, .slice b1 z.ws.length j1, .slice b2 z.ks.length j2, .slice b3 z.vs.length j3, .slice b4 z.cs.length j4, .int .u64 z.laid] w4 0).trans c_r2
 replace f_r2 : w5.frozen? ⟨w.heap.size + 1 + 1, 2, none⟩ = false := by rw [← hw5]; exact (setCs_frozen (W := w4) (b := w.heap.size + 1) [.int .i64 z.seg, .slice b1 z.ws.length j1, .slice b2 z.ks.length j2, .slice b3 z.vs.length j3, .slice b4 z.cs.length j4, .int .u64 z.laid] 0 _).trans f_r2
 replace c_r3 : w5.cell? ⟨w.heap.size + 1 + 1, 3, none⟩ = some (.slice none 0 0) := by rw [← hw5]; exact (setCs_other (p := ⟨w.heap.size + 1 + 1, 3, none⟩) (b := w.heap.size + 1) (by dsimp only; omega) [.int .i64 z.seg, .slice b1 z.ws.length j1, .slice b2 z.ks.length j2, .slice b3 z.vs.length j3, .slice b4 z.cs.length j4, .int .u64 z.laid] w4 0).trans c_r3
 replace f_r3 : w5.frozen? ⟨w.heap.size + 1 + 1, 3, none⟩ = false := by rw [← hw5]; exact (setCs_frozen (W := w4) (b := w.heap.size + 1) [.int .i64 z.seg, .slice b1 z.ws.length j1, .slice b2 z.ks.length j2, .slice b3 z.vs.length j3, .slice b4 z.cs.length j4, .int .u64 z.laid] 0 _).trans f_r3
 replace c_r4 : w5.cell? ⟨w.heap.size + 1 + 1, 4, none⟩ = some (.slice none 0 0) := by rw [← hw5]; exact (setCs_other (p := ⟨w.heap.size + 1 + 1, 4, none⟩) (b := w.heap.size + 1) (by dsimp only; omega) [.int .i64 z.seg, .slice b1 z.ws.length j1, .slice b2 z.ks.length j2, .slice b3 z.vs.length j3, .slice b4 z.cs.length j4, .int .u64 z.laid] w4 0).trans c_r4
 replace f_r4 : w5.frozen? ⟨w.heap.size + 1 + 1, 4, none⟩ = false := by rw [← hw5]; exact (setCs_frozen (W := w4) (b := w.heap.size + 1) [.int .i64 z.seg, .slice b1 z.ws.length j1, .slice b2 z.ks.length j2, .slice b3 z.vs.length j3, .slice b4 z.cs.length j4, .int .u64 z.laid] 0 _).trans f_r4
 replace c_r5 : w5.cell? ⟨w.heap.size + 1 + 1, 5, none⟩ = some (.int .u64 0) := by rw [← hw5]; exact (setCs_other (p := ⟨w.heap.size + 1 + 1, 5, none⟩) (b := w.heap.size + 1) (by dsimp only; omega) [.int .i64 z.seg, .slice b1 z.ws.length j1, .slice b2 z.ks.length j2, .slice b3 z.vs.length j3, .slice b4 z.cs.length j4, .int .u64 z.laid] w4 0).trans c_r5
 replace f_r5 : w5.frozen? ⟨w.heap.size + 1 + 1, 5, none⟩ = false := by rw [← hw5]; exact (setCs_frozen (W := w4) (b := w.heap.size + 1) [.int .i64 z.seg, .slice b1 z.ws.length j1, .slice b2 z.ks.length j2, .slice b3 z.vs.length j3, .slice b4 z.cs.length j4, .int .u64 z.laid] 0 _).trans f_r5
 replace z_r : w.heap.size + 1 + 1 < w5.heap.size := by rw [← hw5]; exact Nat.lt_of_lt_of_eq z_r (setCs_size [.int .i64 z.seg, .slice b1 z.ws.length j1, .slice b2 z.ks.length j2, .slice b3 z.vs.length j3, .slice b4 z.cs.length j4, .int .u64 z.laid] w4 (w.heap.size + 1) 0).symm
 clear HCS
 have HB5 : Hid (Below w.heap.size w w5) := by rw [← hw5]; exact hid (setCs_below (b := w.heap.size + 1) xo [.int .i64 z.seg, .slice b1 z.ws.length j1, .slice b2 z.ks.length j2, .slice b3 z.vs.length j3, .slice b4 z.cs.length j4, .int .u64 z.laid] w4 0 HB4.out)
 have HP5 : Hid (w5.ownsRow w3.heap.size 27 1 (.slice b1 z.ws.length j1) z.ws.length (z.ws.map (Value.int .u64)) ∧ w5.ownsRow w3.heap.size 2 1 (.slice b2 z.ks.length j2) z.ks.length (z.ks.map (Value.int .i64)) ∧ w5.ownsRow w3.heap.size 2 1 (.slice b3 z.vs.length j3) z.vs.length (z.vs.map (Value.int .i64)) ∧ w5.ownsRow w3.heap.size 3 1 (.slice b4 z.cs.length j4) z.cs.length (z.cs.map (Value.int .i64))) := by
  rw [← hw5]
  exact hid ⟨setCs_owns (b := w.heap.size + 1) (i := 0) xo [.int .i64 z.seg, .slice b1 z.ws.length j1, .slice b2 z.ks.length j2, .slice b3 z.vs.length j3, .slice b4 z.cs.length j4, .int .u64 z.laid] HP4.out.1, setCs_owns (b := w.heap.size + 1) (i := 0) xo [.int .i64 z.seg, .slice b1 z.ws.length j1, .slice b2 z.ks.length j2, .slice b3 z.vs.length j3, .slice b4 z.cs.length j4, .int .u64 z.laid] HP4.out.2.1, setCs_owns (b := w.heap.size + 1) (i := 0) xo [.int .i64 z.seg, .slice b1 z.ws.length j1, .slice b2 z.ks.length j2, .slice b3 z.vs.length j3, .slice b4 z.cs.length j4, .int .u64 z.laid] HP4.out.2.2.1, setCs_owns (b := w.heap.size + 1) (i := 0) xo [.int .i64 z.seg, .slice b1 z.ws.length j1, .slice b2 z.ks.length j2, .slice b3 z.vs.length j3, .slice b4 z.cs.length j4, .int .u64 z.laid] HP4.out.2.2.2⟩
 clear hw5 HP4
 have HN5 : Hid (SlIn w5 z ⟨b1, b2, b3, b4, j1, j2, j3, j4⟩) := hid (by
  obtain ⟨q1, q2, q3, q4⟩ := HP5.out
  obtain ⟨_, _, he1, i1, -⟩ := row_of_owns q1
  obtain ⟨_, _, he2, i2, -⟩ := row_of_owns q2
  obtain ⟨_, _, he3, i3, -⟩ := row_of_owns q3
  obtain ⟨_, _, he4, i4, -⟩ := row_of_owns q4
  cases he1; cases he2; cases he3; cases he4
  exact ⟨i1, i2, i3, i4, HZU.out⟩)
 have HI5 := hid (HI.out w5 ⟨b1, b2, b3, b4, j1, j2, j3, j4⟩ HB5.out HN5.out HJC.out c_m0 c_m1 c_m2 c_m3 c_m4 c_m5 c_m6 c_m7 c_m8 c_t0 c_t1 c_t2 c_t3 c_t4 c_t5)
 clear HI
 go_wp2_with fail
 refine (HI5.out).mono ?_
 rintro e w6 ⟨v, rfl, ho6, hb6⟩
 have hz_w6 := hb6.size
 try simp only [World.size_alloc, World.size_setCell] at hz_w6
 have hh := bc9 hb6 ⟨c_m0, c_m1, c_m2, c_m3, c_m4, c_m5, c_m6, c_m7, c_m8⟩
 clear c_m0 c_m1 c_m2 c_m3 c_m4 c_m5 c_m6 c_m7 c_m8
 obtain ⟨c_m0, c_m1, c_m2, c_m3, c_m4, c_m5, c_m6, c_m7, c_m8⟩ := hh
 replace z_m := blt hb6 z_m
 have hh := bc6 hb6 ⟨c_t0, c_t1, c_t2, c_t3, c_t4, c_t5⟩
 clear c_t0 c_t1 c_t2 c_t3 c_t4 c_t5
 obtain ⟨c_t0, c_t1, c_t2, c_t3, c_t4, c_t5⟩ := hh
 have hh := bf6 hb6 z_t ⟨f_t0, f_t1, f_t2, f_t3, f_t4, f_t5⟩
 clear f_t0 f_t1 f_t2 f_t3 f_t4 f_t5
 obtain ⟨f_t0, f_t1, f_t2, f_t3, f_t4, f_t5⟩ := hh
 replace z_t := blt hb6 z_t
 have hh := bc6 hb6 ⟨c_r0, c_r1, c_r2, c_r3, c_r4, c_r5⟩
 clear c_r0 c_r1 c_r2 c_r3 c_r4 c_r5
 obtain ⟨c_r0, c_r1, c_r2, c_r3, c_r4, c_r5⟩ := hh
 have hh := bf6 hb6 z_r ⟨f_r0, f_r1, f_r2, f_r3, f_r4, f_r5⟩
 clear f_r0 f_r1 f_r2 f_r3 f_r4 f_r5
 obtain ⟨f_r0, f_r1, f_r2, f_r3, f_r4, f_r5⟩ := hh
 replace z_r := blt hb6 z_r
 have HB6 := xv hb6 HB5
 have HN6 := hid (HN5.out.below hb6)
 have HP6 := hid (And.intro (owns_below HP5.out.1 hb6) (And.intro (owns_below HP5.out.2.1 hb6) (And.intro (owns_below HP5.out.2.2.1 hb6) (owns_below HP5.out.2.2.2 hb6))))
 obtain ⟨ra, rc, rfl, hi6, -, -, hrc, -⟩ := row_of_owns ho6
 have HI6 := hid hi6
 clear hb6 ho6 hi6 HI5 HN5 HP5
 go_wp2
 have HC := hid (six_some ⟨c_r0, c_r1, c_r2, c_r3, c_r4, c_r5⟩)
 refine bodyPost_ret (results_ct rfl rfl (run_loadVar_many _ Tryd.underlying29 rfl xk (setCs_all (W := w6) (b := w.heap.size + 1 + 1) (l := [.int .i64 z.seg, .slice b1 z.ws.length j1, .slice b2 z.ks.length j2, .slice b3 z.vs.length j3, .slice b4 z.cs.length j4, .int .u64 z.laid]) HC.out))) rfl ⟨_, _, _, _, rfl, ?_, ?_, ?_, ?_, ?_⟩
 · exact owns_base (setCs_owns (b := w.heap.size + 1 + 1) (i := 0) hz3 [.int .i64 z.seg, .slice b1 z.ws.length j1, .slice b2 z.ks.length j2, .slice b3 z.vs.length j3, .slice b4 z.cs.length j4, .int .u64 z.laid] HP6.out.1) xo
 · exact owns_base (setCs_owns (b := w.heap.size + 1 + 1) (i := 0) hz3 [.int .i64 z.seg, .slice b1 z.ws.length j1, .slice b2 z.ks.length j2, .slice b3 z.vs.length j3, .slice b4 z.cs.length j4, .int .u64 z.laid] HP6.out.2.1) xo
 · exact owns_base (setCs_owns (b := w.heap.size + 1 + 1) (i := 0) hz3 [.int .i64 z.seg, .slice b1 z.ws.length j1, .slice b2 z.ks.length j2, .slice b3 z.vs.length j3, .slice b4 z.cs.length j4, .int .u64 z.laid] HP6.out.2.2.1) xo
 · exact owns_base (setCs_owns (b := w.heap.size + 1 + 1) (i := 0) hz3 [.int .i64 z.seg, .slice b1 z.ws.length j1, .slice b2 z.ks.length j2, .slice b3 z.vs.length j3, .slice b4 z.cs.length j4, .int .u64 z.laid] HP6.out.2.2.2) xo
 · exact setCs_below (b := w.heap.size + 1 + 1) xo [.int .i64 z.seg, .slice b1 z.ws.length j1, .slice b2 z.ks.length j2, .slice b3 z.vs.length j3, .slice b4 z.cs.length j4, .int .u64 z.laid] _ 0 HB6.out
theorem gTake_wide (c : Cfg) (seg : Int) (wa ka va ca : Option Addr) (wc kc vc cc lw n lv lc : Nat) (laid : Int) (a H at_ k : Nat) (many t : Int) (z : SlC) (hzu : U64s z.ws) (hm : ¬ many ≤ (k : Int)) (size2 : Int) (L : List (Int × Int)) (d : SlC) (hH : H ≤ 14) (ht : t = (H : Nat)) (w : World) (CK : Hid (∀ W, Below w.heap.size w W → Calls Tryd.prog 18 #[.agg #[.int .u8 c.tag, .int .i64 c.most, .int .i64 c.seg, .int .i64 c.least, .int .i64 c.den, .int .i64 c.ll, .int .i64 c.rl, .int .i64 c.rh, .int .i64 c.lh], .agg #[.int .i64 seg, .slice wa lw wc, .slice ka n kc, .slice va lv vc, .slice ca lc cc, .int .u64 laid]] W (AnsB W (.int .i64 0)))) (AM : Hid (∀ W, Below w.heap.size w W → Calls Tryd.prog 21 #[.agg #[.int .i64 seg, .slice wa lw wc, .slice ka n kc, .slice va lv vc, .slice ca lc cc, .int .u64 laid], .int .i64 0, .int .i64 n] W (AnsB W (.int .i64 many))))
    (NT : Hid (∀ W, Below w.heap.size w W → Calls Tryd.prog 10 #[.slice wa lw wc, .int .i64 n, .int .i64 k] W (AnsB W (.tuple #[.int .i64 at_, .int .i64 0]))))
    (CL : Hid (∀ W, Below w.heap.size w W → Calls Tryd.prog 14 #[.agg #[.int .i64 seg, .slice wa lw wc, .slice ka n kc, .slice va lv vc, .slice ca lc cc, .int .u64 laid], .int .i64 at_] W (FreshSl2 W z (.int .i64 0))))
    (HI : Hid (∀ W (zb : SlA), Below w.heap.size w W → SlIn W z zb → z.cs.length ≤ zb.cc → W.cell? ⟨w.heap.size, 0, none⟩ = some (.int .u8 c.tag) → W.cell? ⟨w.heap.size, 1, none⟩ = some (.int .i64 c.most) → W.cell? ⟨w.heap.size, 2, none⟩ = some (.int .i64 c.seg) → W.cell? ⟨w.heap.size, 3, none⟩ = some (.int .i64 c.least) → W.cell? ⟨w.heap.size, 4, none⟩ = some (.int .i64 c.den) → W.cell? ⟨w.heap.size, 5, none⟩ = some (.int .i64 c.ll) → W.cell? ⟨w.heap.size, 6, none⟩ = some (.int .i64 c.rl) → W.cell? ⟨w.heap.size, 7, none⟩ = some (.int .i64 c.rh) → W.cell? ⟨w.heap.size, 8, none⟩ = some (.int .i64 c.lh) → W.cell? ⟨w.heap.size + 1, 0, none⟩ = some (.int .i64 z.seg) → W.cell? ⟨w.heap.size + 1, 1, none⟩ = some (.slice zb.wa z.ws.length zb.wc) → W.cell? ⟨w.heap.size + 1, 2, none⟩ = some (.slice zb.ka z.ks.length zb.kc) → W.cell? ⟨w.heap.size + 1, 3, none⟩ = some (.slice zb.va z.vs.length zb.vc) → W.cell? ⟨w.heap.size + 1, 4, none⟩ = some (.slice zb.ca z.cs.length zb.cc) → W.cell? ⟨w.heap.size + 1, 5, none⟩ = some (.int .u64 z.laid) → Calls Tryd.prog 24 #[.agg #[.int .i64 z.seg, .slice zb.wa z.ws.length zb.wc, .slice zb.ka z.ks.length zb.kc, .slice zb.va z.vs.length zb.vc, .slice zb.ca z.cs.length zb.cc, .int .u64 z.laid], .int .i64 at_, .func (.func 37) #[] #[.pointer (some ⟨w.heap.size, 0, none⟩), .pointer (some ⟨w.heap.size + 1, 0, none⟩)]] W (HighR W a at_ H t)))
    (PR : Hid (∀ W (zb : SlA), Below w.heap.size w W → SlIn W z zb → Calls Tryd.prog 27 #[.agg #[.int .i64 z.seg, .slice zb.wa z.ws.length zb.wc, .slice zb.ka z.ks.length zb.kc, .slice zb.va z.vs.length zb.vc, .slice zb.ca z.cs.length zb.cc, .int .u64 z.laid], .int .i64 0, .int .i64 z.ks.length] W (FreshPr2 W L (.int .i64 0))))
    (NA : Hid (∀ W (zb : SlA), Below w.heap.size w W → SlIn W z zb → z.cs.length ≤ zb.cc → Calls Tryd.prog 38 #[.agg #[.int .u8 c.tag, .int .i64 c.most, .int .i64 c.seg, .int .i64 c.least, .int .i64 c.den, .int .i64 c.ll, .int .i64 c.rl, .int .i64 c.rh, .int .i64 c.lh], .agg #[.int .i64 z.seg, .slice zb.wa z.ws.length zb.wc, .slice zb.ka z.ks.length zb.kc, .slice zb.va z.vs.length zb.vc, .slice zb.ca z.cs.length zb.cc, .int .u64 z.laid]] W (AnsB W (.int .i64 size2))))
    (IN : Hid (∀ la pl W (zb : SlA), Below w.heap.size w W → SlIn W z zb → IsRow .i64 W la (prI L) → Calls Tryd.prog 29 #[.agg #[.int .i64 z.seg, .slice zb.wa z.ws.length zb.wc, .slice zb.ka z.ks.length zb.kc, .slice zb.va z.vs.length zb.vc, .slice zb.ca z.cs.length zb.cc, .int .u64 z.laid], .int .i64 size2, .slice la L.length pl] W (FreshSl2 W d (.int .i64 0)))) :
    Calls Tryd.prog 13 #[.agg #[.int .u8 c.tag, .int .i64 c.most, .int .i64 c.seg, .int .i64 c.least, .int .i64 c.den, .int .i64 c.ll, .int .i64 c.rl, .int .i64 c.rh, .int .i64 c.lh], .agg #[.int .i64 seg, .slice wa lw wc, .slice ka n kc, .slice va lv vc, .slice ca lc cc, .int .u64 laid], .int .i64 k] w (FreshSl2 w d (.int .i64 0)) := by
 have g1 : decide ((k : Int) < 0) = false := by simp
 have g2 : decide ((k : Int) ≥ many) = false := by simpa using hm
 have g2b : decide (many ≤ (k : Int)) = false := by simpa using hm
 have HZU := hid hzu
 clear hzu
 have g4 : ((H : Int) == -1) = false := by rw [beq_eq_false_iff_ne]; omega
 have g5 : ((H : Int) == (H : Int)) = true := by simp
 have hw1 : IntKind.i64.wrap (((H + 1 : Nat) : Int) - 1) = (H : Int) := by rw [show ((H + 1 : Nat) : Int) - 1 = (H : Int) by omega]; exact IntWalk.i64_in _ xo
 have hw1b : IntKind.i64.wrap (H : Int) = (H : Int) := IntWalk.i64_in _ xo
 subst ht
 clear hH
 go_enter Tryd.func13, Tryd.ntmps13
 go_wp2_with fail
 refine (CK.out _ xbel).mono ?_
 rintro e w1 ⟨rfl, hb1⟩
 have hz_w1 := hb1.size
 try simp only [World.size_alloc, World.size_setCell] at hz_w1
 have hh := bc9 hb1 (au9 (au9 (al9 (b := w.heap.size) (by simp))))
 obtain ⟨c_m0, c_m1, c_m2, c_m3, c_m4, c_m5, c_m6, c_m7, c_m8⟩ := hh
 have z_m := blt hb1 (auz (auz (alz (b := w.heap.size) (by simp))))
 have hh := bc6 hb1 (au6 (al6 (b := w.heap.size + 1) (by simp)))
 obtain ⟨c_t0, c_t1, c_t2, c_t3, c_t4, c_t5⟩ := hh
 have hh := bf6 hb1 (auz (alz (b := w.heap.size + 1) (by simp))) (auf6 (alz (b := w.heap.size + 1) (by simp)) (alf6 (b := w.heap.size + 1) (by simp)))
 obtain ⟨f_t0, f_t1, f_t2, f_t3, f_t4, f_t5⟩ := hh
 have z_t := blt hb1 (auz (alz (b := w.heap.size + 1) (by simp)))
 have hh := bc6 hb1 (al6 (b := w.heap.size + 1 + 1) (by simp))
 obtain ⟨c_r0, c_r1, c_r2, c_r3, c_r4, c_r5⟩ := hh
 have hh := bf6 hb1 (alz (b := w.heap.size + 1 + 1) (by simp)) (alf6 (b := w.heap.size + 1 + 1) (by simp))
 obtain ⟨f_r0, f_r1, f_r2, f_r3, f_r4, f_r5⟩ := hh
 have z_r := blt hb1 (alz (b := w.heap.size + 1 + 1) (by simp))
 have hB1 : Below w.heap.size w w1 := xbel
 have HB1 := hid hB1
 have hz1 : w.heap.size + 1 + 1 < w1.heap.size := z_r
 clear hb1 hB1
 go_wp2_with fail
 refine (AM.out _ HB1.out).mono ?_
 rintro e w2 ⟨rfl, hb2⟩
 have hz_w2 := hb2.size
 try simp only [World.size_alloc, World.size_setCell] at hz_w2
 have hh := bc9 hb2 ⟨c_m0, c_m1, c_m2, c_m3, c_m4, c_m5, c_m6, c_m7, c_m8⟩
 clear c_m0 c_m1 c_m2 c_m3 c_m4 c_m5 c_m6 c_m7 c_m8
 obtain ⟨c_m0, c_m1, c_m2, c_m3, c_m4, c_m5, c_m6, c_m7, c_m8⟩ := hh
 replace z_m := blt hb2 z_m
 have hh := bc6 hb2 ⟨c_t0, c_t1, c_t2, c_t3, c_t4, c_t5⟩
 clear c_t0 c_t1 c_t2 c_t3 c_t4 c_t5
 obtain ⟨c_t0, c_t1, c_t2, c_t3, c_t4, c_t5⟩ := hh
 have hh := bf6 hb2 z_t ⟨f_t0, f_t1, f_t2, f_t3, f_t4, f_t5⟩
 clear f_t0 f_t1 f_t2 f_t3 f_t4 f_t5
 obtain ⟨f_t0, f_t1, f_t2, f_t3, f_t4, f_t5⟩ := hh
 replace z_t := blt hb2 z_t
 have hh := bc6 hb2 ⟨c_r0, c_r1, c_r2, c_r3, c_r4, c_r5⟩
 clear c_r0 c_r1 c_r2 c_r3 c_r4 c_r5
 obtain ⟨c_r0, c_r1, c_r2, c_r3, c_r4, c_r5⟩ := hh
 have hh := bf6 hb2 z_r ⟨f_r0, f_r1, f_r2, f_r3, f_r4, f_r5⟩
 clear f_r0 f_r1 f_r2 f_r3 f_r4 f_r5
 obtain ⟨f_r0, f_r1, f_r2, f_r3, f_r4, f_r5⟩ := hh
 replace z_r := blt hb2 z_r
 have HB2 := xv hb2 HB1
 have hz2 : w.heap.size + 1 + 1 < w2.heap.size := z_r
 clear hb2
 go_wp2_with fail
 refine (NT.out _ HB2.out).mono ?_
 rintro e w3 ⟨rfl, hb3⟩
 have hz_w3 := hb3.size
 try simp only [World.size_alloc, World.size_setCell] at hz_w3
 have hh := bc9 hb3 ⟨c_m0, c_m1, c_m2, c_m3, c_m4, c_m5, c_m6, c_m7, c_m8⟩
 clear c_m0 c_m1 c_m2 c_m3 c_m4 c_m5 c_m6 c_m7 c_m8
 obtain ⟨c_m0, c_m1, c_m2, c_m3, c_m4, c_m5, c_m6, c_m7, c_m8⟩ := hh
 replace z_m := blt hb3 z_m
 have hh := bc6 hb3 ⟨c_t0, c_t1, c_t2, c_t3, c_t4, c_t5⟩
 clear c_t0 c_t1 c_t2 c_t3 c_t4 c_t5
 obtain ⟨c_t0, c_t1, c_t2, c_t3, c_t4, c_t5⟩ := hh
 have hh := bf6 hb3 z_t ⟨f_t0, f_t1, f_t2, f_t3, f_t4, f_t5⟩
 clear f_t0 f_t1 f_t2 f_t3 f_t4 f_t5
 obtain ⟨f_t0, f_t1, f_t2, f_t3, f_t4, f_t5⟩ := hh
 replace z_t := blt hb3 z_t
 have hh := bc6 hb3 ⟨c_r0, c_r1, c_r2, c_r3, c_r4, c_r5⟩
 clear c_r0 c_r1 c_r2 c_r3 c_r4 c_r5
 obtain ⟨c_r0, c_r1, c_r2, c_r3, c_r4, c_r5⟩ := hh
 have hh := bf6 hb3 z_r ⟨f_r0, f_r1, f_r2, f_r3, f_r4, f_r5⟩
 clear f_r0 f_r1 f_r2 f_r3 f_r4 f_r5
 obtain ⟨f_r0, f_r1, f_r2, f_r3, f_r4, f_r5⟩ := hh
 replace z_r := blt hb3 z_r
 have HB3 := xv hb3 HB2
 have hz3 : w.heap.size + 1 + 1 < w3.heap.size := z_r
 clear hb3
 go_wp2_with fail
 refine (CL.out _ HB3.out).mono ?_
 rintro e w4 ⟨v1, v2, v3, v4, rfl, p1, p2, p3, p4, hb4⟩
 have hz_w4 := hb4.size
 try simp only [World.size_alloc, World.size_setCell] at hz_w4
 have hh := bc9 hb4 ⟨c_m0, c_m1, c_m2, c_m3, c_m4, c_m5, c_m6, c_m7, c_m8⟩
 clear c_m0 c_m1 c_m2 c_m3 c_m4 c_m5 c_m6 c_m7 c_m8
 obtain ⟨c_m0, c_m1, c_m2, c_m3, c_m4, c_m5, c_m6, c_m7, c_m8⟩ := hh
 replace z_m := blt hb4 z_m
 have hh := bc6 hb4 ⟨c_t0, c_t1, c_t2, c_t3, c_t4, c_t5⟩
 clear c_t0 c_t1 c_t2 c_t3 c_t4 c_t5
 obtain ⟨c_t0, c_t1, c_t2, c_t3, c_t4, c_t5⟩ := hh
 have hh := bf6 hb4 z_t ⟨f_t0, f_t1, f_t2, f_t3, f_t4, f_t5⟩
 clear f_t0 f_t1 f_t2 f_t3 f_t4 f_t5
 obtain ⟨f_t0, f_t1, f_t2, f_t3, f_t4, f_t5⟩ := hh
 replace z_t := blt hb4 z_t
 have hh := bc6 hb4 ⟨c_r0, c_r1, c_r2, c_r3, c_r4, c_r5⟩
 clear c_r0 c_r1 c_r2 c_r3 c_r4 c_r5
 obtain ⟨c_r0, c_r1, c_r2, c_r3, c_r4, c_r5⟩ := hh
 have hh := bf6 hb4 z_r ⟨f_r0, f_r1, f_r2, f_r3, f_r4, f_r5⟩
 clear f_r0 f_r1 f_r2 f_r3 f_r4 f_r5
 obtain ⟨f_r0, f_r1, f_r2, f_r3, f_r4, f_r5⟩ := hh
 replace z_r := blt hb4 z_r
 have HB4 := xv hb4 HB3
 obtain ⟨b1, j1, rfl, -, -, -, -, -⟩ := row_of_owns p1
 obtain ⟨b2, j2, rfl, -, -, -, -, -⟩ := row_of_owns p2
 obtain ⟨b3, j3, rfl, -, -, -, -, -⟩ := row_of_owns p3
 obtain ⟨b4, j4, rfl, -, -, -, hjc, -⟩ := row_of_owns p4
 have HP4 := hid (And.intro p1 (And.intro p2 (And.intro p3 p4)))
 have HJC := hid hjc
 have hz4 : w.heap.size + 1 + 1 < w4.heap.size := z_r
 clear hb4 p1 p2 p3 p4 hjc
 go_upto_region 8 with (fail)
 generalize hw5 : ((((((w4).setCell ⟨w.heap.size + 1, 0, none⟩ (.int .i64 z.seg)).setCell ⟨w.heap.size + 1, 1, none⟩ (.slice b1 z.ws.length j1)).setCell ⟨w.heap.size + 1, 2, none⟩ (.slice b2 z.ks.length j2)).setCell ⟨w.heap.size + 1, 3, none⟩ (.slice b3 z.vs.length j3)).setCell ⟨w.heap.size + 1, 4, none⟩ (.slice b4 z.cs.length j4)).setCell ⟨w.heap.size + 1, 5, none⟩ (.int .u64 z.laid) = w5
 have HCS := six_some ⟨c_t0, c_t1, c_t2, c_t3, c_t4, c_t5⟩
 replace c_m0 : w5.cell? ⟨w.heap.size, 0, none⟩ = some (.int .u8 c.tag) := by rw [← hw5]; exact (setCs_other (p := ⟨w.heap.size, 0, none⟩) (b := w.heap.size + 1) (by dsimp only; omega) [.int .i64 z.seg, .slice b1 z.ws.length j1, .slice b2 z.ks.length j2, .slice b3 z.vs.length j3, .slice b4 z.cs.length j4, .int .u64 z.laid] w4 0).trans c_m0
 replace c_m1 : w5.cell? ⟨w.heap.size, 1, none⟩ = some (.int .i64 c.most) := by rw [← hw5]; exact (setCs_other (p := ⟨w.heap.size, 1, none⟩) (b := w.heap.size + 1) (by dsimp only; omega) [.int .i64 z.seg, .slice b1 z.ws.length j1, .slice b2 z.ks.length j2, .slice b3 z.vs.length j3, .slice b4 z.cs.length j4, .int .u64 z.laid] w4 0).trans c_m1
 replace c_m2 : w5.cell? ⟨w.heap.size, 2, none⟩ = some (.int .i64 c.seg) := by rw [← hw5]; exact (setCs_other (p := ⟨w.heap.size, 2, none⟩) (b := w.heap.size + 1) (by dsimp only; omega) [.int .i64 z.seg, .slice b1 z.ws.length j1, .slice b2 z.ks.length j2, .slice b3 z.vs.length j3, .slice b4 z.cs.length j4, .int .u64 z.laid] w4 0).trans c_m2
 replace c_m3 : w5.cell? ⟨w.heap.size, 3, none⟩ = some (.int .i64 c.least) := by rw [← hw5]; exact (setCs_other (p := ⟨w.heap.size, 3, none⟩) (b := w.heap.size + 1) (by dsimp only; omega) [.int .i64 z.seg, .slice b1 z.ws.length j1, .slice b2 z.ks.length j2, .slice b3 z.vs.length j3, .slice b4 z.cs.length j4, .int .u64 z.laid] w4 0).trans c_m3
 replace c_m4 : w5.cell? ⟨w.heap.size, 4, none⟩ = some (.int .i64 c.den) := by rw [← hw5]; exact (setCs_other (p := ⟨w.heap.size, 4, none⟩) (b := w.heap.size + 1) (by dsimp only; omega) [.int .i64 z.seg, .slice b1 z.ws.length j1, .slice b2 z.ks.length j2, .slice b3 z.vs.length j3, .slice b4 z.cs.length j4, .int .u64 z.laid] w4 0).trans c_m4
 replace c_m5 : w5.cell? ⟨w.heap.size, 5, none⟩ = some (.int .i64 c.ll) := by rw [← hw5]; exact (setCs_other (p := ⟨w.heap.size, 5, none⟩) (b := w.heap.size + 1) (by dsimp only; omega) [.int .i64 z.seg, .slice b1 z.ws.length j1, .slice b2 z.ks.length j2, .slice b3 z.vs.length j3, .slice b4 z.cs.length j4, .int .u64 z.laid] w4 0).trans c_m5
 replace c_m6 : w5.cell? ⟨w.heap.size, 6, none⟩ = some (.int .i64 c.rl) := by rw [← hw5]; exact (setCs_other (p := ⟨w.heap.size, 6, none⟩) (b := w.heap.size + 1) (by dsimp only; omega) [.int .i64 z.seg, .slice b1 z.ws.length j1, .slice b2 z.ks.length j2, .slice b3 z.vs.length j3, .slice b4 z.cs.length j4, .int .u64 z.laid] w4 0).trans c_m6
 replace c_m7 : w5.cell? ⟨w.heap.size, 7, none⟩ = some (.int .i64 c.rh) := by rw [← hw5]; exact (setCs_other (p := ⟨w.heap.size, 7, none⟩) (b := w.heap.size + 1) (by dsimp only; omega) [.int .i64 z.seg, .slice b1 z.ws.length j1, .slice b2 z.ks.length j2, .slice b3 z.vs.length j3, .slice b4 z.cs.length j4, .int .u64 z.laid] w4 0).trans c_m7
 replace c_m8 : w5.cell? ⟨w.heap.size, 8, none⟩ = some (.int .i64 c.lh) := by rw [← hw5]; exact (setCs_other (p := ⟨w.heap.size, 8, none⟩) (b := w.heap.size + 1) (by dsimp only; omega) [.int .i64 z.seg, .slice b1 z.ws.length j1, .slice b2 z.ks.length j2, .slice b3 z.vs.length j3, .slice b4 z.cs.length j4, .int .u64 z.laid] w4 0).trans c_m8
 replace z_m : w.heap.size < w5.heap.size := by rw [← hw5]; exact Nat.lt_of_lt_of_eq z_m (setCs_size [.int .i64 z.seg, .slice b1 z.ws.length j1, .slice b2 z.ks.length j2, .slice b3 z.vs.length j3, .slice b4 z.cs.length j4, .int .u64 z.laid] w4 (w.heap.size + 1) 0).symm
 replace c_t0 : w5.cell? ⟨w.heap.size + 1, 0, none⟩ = some (.int .i64 z.seg) := by rw [← hw5]; exact setCs_all (W := w4) (b := w.heap.size + 1) (l := [.int .i64 z.seg, .slice b1 z.ws.length j1, .slice b2 z.ks.length j2, .slice b3 z.vs.length j3, .slice b4 z.cs.length j4, .int .u64 z.laid]) HCS 0 _ rfl
 replace f_t0 : w5.frozen? ⟨w.heap.size + 1, 0, none⟩ = false := by rw [← hw5]; exact (setCs_frozen (W := w4) (b := w.heap.size + 1) [.int .i64 z.seg, .slice b1 z.ws.length j1, .slice b2 z.ks.length j2, .slice b3 z.vs.length j3, .slice b4 z.cs.length j4, .int .u64 z.laid] 0 _).trans f_t0
 replace c_t1 : w5.cell? ⟨w.heap.size + 1, 1, none⟩ = some (.slice b1 z.ws.length j1) := by rw [← hw5]; exact setCs_all (W := w4) (b := w.heap.size + 1) (l := [.int .i64 z.seg, .slice b1 z.ws.length j1, .slice b2 z.ks.length j2, .slice b3 z.vs.length j3, .slice b4 z.cs.length j4, .int .u64 z.laid]) HCS 1 _ rfl
 replace f_t1 : w5.frozen? ⟨w.heap.size + 1, 1, none⟩ = false := by rw [← hw5]; exact (setCs_frozen (W := w4) (b := w.heap.size + 1) [.int .i64 z.seg, .slice b1 z.ws.length j1, .slice b2 z.ks.length j2, .slice b3 z.vs.length j3, .slice b4 z.cs.length j4, .int .u64 z.laid] 0 _).trans f_t1
 replace c_t2 : w5.cell? ⟨w.heap.size + 1, 2, none⟩ = some (.slice b2 z.ks.length j2) := by rw [← hw5]; exact setCs_all (W := w4) (b := w.heap.size + 1) (l := [.int .i64 z.seg, .slice b1 z.ws.length j1, .slice b2 z.ks.length j2, .slice b3 z.vs.length j3, .slice b4 z.cs.length j4, .int .u64 z.laid]) HCS 2 _ rfl
 replace f_t2 : w5.frozen? ⟨w.heap.size + 1, 2, none⟩ = false := by rw [← hw5]; exact (setCs_frozen (W := w4) (b := w.heap.size + 1) [.int .i64 z.seg, .slice b1 z.ws.length j1, .slice b2 z.ks.length j2, .slice b3 z.vs.length j3, .slice b4 z.cs.length j4, .int .u64 z.laid] 0 _).trans f_t2
 replace c_t3 : w5.cell? ⟨w.heap.size + 1, 3, none⟩ = some (.slice b3 z.vs.length j3) := by rw [← hw5]; exact setCs_all (W := w4) (b := w.heap.size + 1) (l := [.int .i64 z.seg, .slice b1 z.ws.length j1, .slice b2 z.ks.length j2, .slice b3 z.vs.length j3, .slice b4 z.cs.length j4, .int .u64 z.laid]) HCS 3 _ rfl
 replace f_t3 : w5.frozen? ⟨w.heap.size + 1, 3, none⟩ = false := by rw [← hw5]; exact (setCs_frozen (W := w4) (b := w.heap.size + 1) [.int .i64 z.seg, .slice b1 z.ws.length j1, .slice b2 z.ks.length j2, .slice b3 z.vs.length j3, .slice b4 z.cs.length j4, .int .u64 z.laid] 0 _).trans f_t3
 replace c_t4 : w5.cell? ⟨w.heap.size + 1, 4, none⟩ = some (.slice b4 z.cs.length j4) := by rw [← hw5]; exact setCs_all (W := w4) (b := w.heap.size + 1) (l := [.int .i64 z.seg, .slice b1 z.ws.length j1, .slice b2 z.ks.length j2, .slice b3 z.vs.length j3, .slice b4 z.cs.length j4, .int .u64 z.laid]) HCS 4 _ rfl
 replace f_t4 : w5.frozen? ⟨w.heap.size + 1, 4, none⟩ = false := by rw [← hw5]; exact (setCs_frozen (W := w4) (b := w.heap.size + 1) [.int .i64 z.seg, .slice b1 z.ws.length j1, .slice b2 z.ks.length j2, .slice b3 z.vs.length j3, .slice b4 z.cs.length j4, .int .u64 z.laid] 0 _).trans f_t4
 replace c_t5 : w5.cell? ⟨w.heap.size + 1, 5, none⟩ = some (.int .u64 z.laid) := by rw [← hw5]; exact setCs_all (W := w4) (b := w.heap.size + 1) (l := [.int .i64 z.seg, .slice b1 z.ws.length j1, .slice b2 z.ks.length j2, .slice b3 z.vs.length j3, .slice b4 z.cs.length j4, .int .u64 z.laid]) HCS 5 _ rfl
 replace f_t5 : w5.frozen? ⟨w.heap.size + 1, 5, none⟩ = false := by rw [← hw5]; exact (setCs_frozen (W := w4) (b := w.heap.size + 1) [.int .i64 z.seg, .slice b1 z.ws.length j1, .slice b2 z.ks.length j2, .slice b3 z.vs.length j3, .slice b4 z.cs.length j4, .int .u64 z.laid] 0 _).trans f_t5
 replace z_t : w.heap.size + 1 < w5.heap.size := by rw [← hw5]; exact Nat.lt_of_lt_of_eq z_t (setCs_size [.int .i64 z.seg, .slice b1 z.ws.length j1, .slice b2 z.ks.length j2, .slice b3 z.vs.length j3, .slice b4 z.cs.length j4, .int .u64 z.laid] w4 (w.heap.size + 1) 0).symm
 replace c_r0 : w5.cell? ⟨w.heap.size + 1 + 1, 0, none⟩ = some (.int .i64 0) := by rw [← hw5]; exact (setCs_other (p := ⟨w.heap.size + 1 + 1, 0, none⟩) (b := w.heap.size + 1) (by dsimp only; omega) [.int .i64 z.seg, .slice b1 z.ws.length j1, .slice b2 z.ks.length j2, .slice b3 z.vs.length j3, .slice b4 z.cs.length j4, .int .u64 z.laid] w4 0).trans c_r0
 replace f_r0 : w5.frozen? ⟨w.heap.size + 1 + 1, 0, none⟩ = false := by rw [← hw5]; exact (setCs_frozen (W := w4) (b := w.heap.size + 1) [.int .i64 z.seg, .slice b1 z.ws.length j1, .slice b2 z.ks.length j2, .slice b3 z.vs.length j3, .slice b4 z.cs.length j4, .int .u64 z.laid] 0 _).trans f_r0
 replace c_r1 : w5.cell? ⟨w.heap.size + 1 + 1, 1, none⟩ = some (.slice none 0 0) := by rw [← hw5]; exact (setCs_other (p := ⟨w.heap.size + 1 + 1, 1, none⟩) (b := w.heap.size + 1) (by dsimp only; omega) [.int .i64 z.seg, .slice b1 z.ws.length j1, .slice b2 z.ks.length j2, .slice b3 z.vs.length j3, .slice b4 z.cs.length j4, .int .u64 z.laid] w4 0).trans c_r1
 replace f_r1 : w5.frozen? ⟨w.heap.size + 1 + 1, 1, none⟩ = false := by rw [← hw5]; exact (setCs_frozen (W := w4) (b := w.heap.size + 1) [.int .i64 z.seg, .slice b1 z.ws.length j1, .slice b2 z.ks.length j2, .slice b3 z.vs.length j3, .slice b4 z.cs.length j4, .int .u64 z.laid] 0 _).trans f_r1
 replace c_r2 : w5.cell? ⟨w.heap.size + 1 + 1, 2, none⟩ = some (.slice none 0 0) := by rw [← hw5]; exact (setCs_other (p := ⟨w.heap.size + 1 + 1, 2, none⟩) (b := w.heap.size + 1) (by dsimp only; omega) [.int .i64 z.seg, .slice b1 z.ws.length j1, .slice b2 z.ks.length j2, .slice b3 z.vs.length j3, .slice b4 z.cs.length j4, .int .u64 z.laid] w4 0).trans c_r2
 replace f_r2 : w5.frozen? ⟨w.heap.size + 1 + 1, 2, none⟩ = false := by rw [← hw5]; exact (setCs_frozen (W := w4) (b := w.heap.size + 1) [.int .i64 z.seg, .slice b1 z.ws.length j1, .slice b2 z.ks.length j2, .slice b3 z.vs.length j3, .slice b4 z.cs.length j4, .int .u64 z.laid] 0 _).trans f_r2
 replace c_r3 : w5.cell? ⟨w.heap.size + 1 + 1, 3, none⟩ = some (.slice none 0 0) := by rw [← hw5]; exact (setCs_other (p := ⟨w.heap.size + 1 + 1, 3, none⟩) (b := w.heap.size + 1) (by dsimp only; omega) [.int .i64 z.seg, .slice b1 z.ws.length j1, .slice b2 z.ks.length j2, .slice b3 z.vs.length j3, .slice b4 z.cs.length j4, .int .u64 z.laid] w4 0).trans c_r3
 replace f_r3 : w5.frozen? ⟨w.heap.size + 1 + 1, 3, none⟩ = false := by rw [← hw5]; exact (setCs_frozen (W := w4) (b := w.heap.size + 1) [.int .i64 z.seg, .slice b1 z.ws.length j1, .slice b2 z.ks.length j2, .slice b3 z.vs.length j3, .slice b4 z.cs.length j4, .int .u64 z.laid] 0 _).trans f_r3
 replace c_r4 : w5.cell? ⟨w.heap.size + 1 + 1, 4, none⟩ = some (.slice none 0 0) := by rw [← hw5]; exact (setCs_other (p := ⟨w.heap.size + 1 + 1, 4, none⟩) (b := w.heap.size + 1) (by dsimp only; omega) [.int .i64 z.seg, .slice b1 z.ws.length j1, .slice b2 z.ks.length j2, .slice b3 z.vs.length j3, .slice b4 z.cs.length j4, .int .u64 z.laid] w4 0).trans c_r4
 replace f_r4 : w5.frozen? ⟨w.heap.size + 1 + 1, 4, none⟩ = false := by rw [← hw5]; exact (setCs_frozen (W := w4) (b := w.heap.size + 1) [.int .i64 z.seg, .slice b1 z.ws.length j1, .slice b2 z.ks.length j2, .slice b3 z.vs.length j3, .slice b4 z.cs.length j4, .int .u64 z.laid] 0 _).trans f_r4
 replace c_r5 : w5.cell? ⟨w.heap.size + 1 + 1, 5, none⟩ = some (.int .u64 0) := by rw [← hw5]; exact (setCs_other (p := ⟨w.heap.size + 1 + 1, 5, none⟩) (b := w.heap.size + 1) (by dsimp only; omega) [.int .i64 z.seg, .slice b1 z.ws.length j1, .slice b2 z.ks.length j2, .slice b3 z.vs.length j3, .slice b4 z.cs.length j4, .int .u64 z.laid] w4 0).trans c_r5
 replace f_r5 : w5.frozen? ⟨w.heap.size + 1 + 1, 5, none⟩ = false := by rw [← hw5]; exact (setCs_frozen (W := w4) (b := w.heap.size + 1) [.int .i64 z.seg, .slice b1 z.ws.length j1, .slice b2 z.ks.length j2, .slice b3 z.vs.length j3, .slice b4 z.cs.length j4, .int .u64 z.laid] 0 _).trans f_r5
 replace z_r : w.heap.size + 1 + 1 < w5.heap.size := by rw [← hw5]; exact Nat.lt_of_lt_of_eq z_r (setCs_size [.int .i64 z.seg, .slice b1 z.ws.length j1, .slice b2 z.ks.length j2, .slice b3 z.vs.length j3, .slice b4 z.cs.length j4, .int .u64 z.laid] w4 (w.heap.size + 1) 0).symm
 clear HCS
 have HB5 : Hid (Below w.heap.size w w5) := by rw [← hw5]; exact hid (setCs_below (b := w.heap.size + 1) xo [.int .i64 z.seg, .slice b1 z.ws.length j1, .slice b2 z.ks.length j2, .slice b3 z.vs.length j3, .slice b4 z.cs.length j4, .int .u64 z.laid] w4 0 HB4.out)
 have HP5 : Hid (w5.ownsRow w3.heap.size 27 1 (.slice b1 z.ws.length j1) z.ws.length (z.ws.map (Value.int .u64)) ∧ w5.ownsRow w3.heap.size 2 1 (.slice b2 z.ks.length j2) z.ks.length (z.ks.map (Value.int .i64)) ∧ w5.ownsRow w3.heap.size 2 1 (.slice b3 z.vs.length j3) z.vs.length (z.vs.map (Value.int .i64)) ∧ w5.ownsRow w3.heap.size 3 1 (.slice b4 z.cs.length j4) z.cs.length (z.cs.map (Value.int .i64))) := by
  rw [← hw5]
  exact hid ⟨setCs_owns (b := w.heap.size + 1) (i := 0) xo [.int .i64 z.seg, .slice b1 z.ws.length j1, .slice b2 z.ks.length j2, .slice b3 z.vs.length j3, .slice b4 z.cs.length j4, .int .u64 z.laid] HP4.out.1, setCs_owns (b := w.heap.size + 1) (i := 0) xo [.int .i64 z.seg, .slice b1 z.ws.length j1, .slice b2 z.ks.length j2, .slice b3 z.vs.length j3, .slice b4 z.cs.length j4, .int .u64 z.laid] HP4.out.2.1, setCs_owns (b := w.heap.size + 1) (i := 0) xo [.int .i64 z.seg, .slice b1 z.ws.length j1, .slice b2 z.ks.length j2, .slice b3 z.vs.length j3, .slice b4 z.cs.length j4, .int .u64 z.laid] HP4.out.2.2.1, setCs_owns (b := w.heap.size + 1) (i := 0) xo [.int .i64 z.seg, .slice b1 z.ws.length j1, .slice b2 z.ks.length j2, .slice b3 z.vs.length j3, .slice b4 z.cs.length j4, .int .u64 z.laid] HP4.out.2.2.2⟩
 clear hw5 HP4
 have HN5 : Hid (SlIn w5 z ⟨b1, b2, b3, b4, j1, j2, j3, j4⟩) := hid (by
  obtain ⟨q1, q2, q3, q4⟩ := HP5.out
  obtain ⟨_, _, he1, i1, -⟩ := row_of_owns q1
  obtain ⟨_, _, he2, i2, -⟩ := row_of_owns q2
  obtain ⟨_, _, he3, i3, -⟩ := row_of_owns q3
  obtain ⟨_, _, he4, i4, -⟩ := row_of_owns q4
  cases he1; cases he2; cases he3; cases he4
  exact ⟨i1, i2, i3, i4, HZU.out⟩)
 have HI5 := hid (HI.out w5 ⟨b1, b2, b3, b4, j1, j2, j3, j4⟩ HB5.out HN5.out HJC.out c_m0 c_m1 c_m2 c_m3 c_m4 c_m5 c_m6 c_m7 c_m8 c_t0 c_t1 c_t2 c_t3 c_t4 c_t5)
 clear HI
 go_wp2_with fail
 refine (HI5.out).mono ?_
 rintro e w6 ⟨v, rfl, ho6, hb6⟩
 have hz_w6 := hb6.size
 try simp only [World.size_alloc, World.size_setCell] at hz_w6
 have hh := bc9 hb6 ⟨c_m0, c_m1, c_m2, c_m3, c_m4, c_m5, c_m6, c_m7, c_m8⟩
 clear c_m0 c_m1 c_m2 c_m3 c_m4 c_m5 c_m6 c_m7 c_m8
 obtain ⟨c_m0, c_m1, c_m2, c_m3, c_m4, c_m5, c_m6, c_m7, c_m8⟩ := hh
 replace z_m := blt hb6 z_m
 have hh := bc6 hb6 ⟨c_t0, c_t1, c_t2, c_t3, c_t4, c_t5⟩
 clear c_t0 c_t1 c_t2 c_t3 c_t4 c_t5
 obtain ⟨c_t0, c_t1, c_t2, c_t3, c_t4, c_t5⟩ := hh
 have hh := bf6 hb6 z_t ⟨f_t0, f_t1, f_t2, f_t3, f_t4, f_t5⟩
 clear f_t0 f_t1 f_t2 f_t3 f_t4 f_t5
 obtain ⟨f_t0, f_t1, f_t2, f_t3, f_t4, f_t5⟩ := hh
 replace z_t := blt hb6 z_t
 have hh := bc6 hb6 ⟨c_r0, c_r1, c_r2, c_r3, c_r4, c_r5⟩
 clear c_r0 c_r1 c_r2 c_r3 c_r4 c_r5
 obtain ⟨c_r0, c_r1, c_r2, c_r3, c_r4, c_r5⟩ := hh
 have hh := bf6 hb6 z_r ⟨f_r0, f_r1, f_r2, f_r3, f_r4, f_r5⟩
 clear f_r0 f_r1 f_r2 f_r3 f_r4 f_r5
 obtain ⟨f_r0, f_r1, f_r2, f_r3, f_r4, f_r5⟩ := hh
 replace z_r := blt hb6 z_r
 have HB6 := xv hb6 HB5
 have HN6 := hid (HN5.out.below hb6)
 have HP6 := hid (And.intro (owns_below HP5.out.1 hb6) (And.intro (owns_below HP5.out.2.1 hb6) (And.intro (owns_below HP5.out.2.2.1 hb6) (owns_below HP5.out.2.2.2 hb6))))
 obtain ⟨ra, rc, rfl, hi6, -, -, hrc, -⟩ := row_of_owns ho6
 have HI6 := hid hi6
 clear hb6 ho6 hi6 HI5 HN5 HP5
 have PR6 := hid (PR.out w6 ⟨b1, b2, b3, b4, j1, j2, j3, j4⟩ HB6.out HN6.out)
 go_wp2_with fail
 refine (PR6.out).mono ?_
 rintro e w7 ⟨v, rfl, ho7, hb7⟩
 have hz_w7 := hb7.size
 try simp only [World.size_alloc, World.size_setCell] at hz_w7
 have hh := bc9 hb7 ⟨c_m0, c_m1, c_m2, c_m3, c_m4, c_m5, c_m6, c_m7, c_m8⟩
 clear c_m0 c_m1 c_m2 c_m3 c_m4 c_m5 c_m6 c_m7 c_m8
 obtain ⟨c_m0, c_m1, c_m2, c_m3, c_m4, c_m5, c_m6, c_m7, c_m8⟩ := hh
 replace z_m := blt hb7 z_m
 have hh := bc6 hb7 ⟨c_t0, c_t1, c_t2, c_t3, c_t4, c_t5⟩
 clear c_t0 c_t1 c_t2 c_t3 c_t4 c_t5
 obtain ⟨c_t0, c_t1, c_t2, c_t3, c_t4, c_t5⟩ := hh
 have hh := bf6 hb7 z_t ⟨f_t0, f_t1, f_t2, f_t3, f_t4, f_t5⟩
 clear f_t0 f_t1 f_t2 f_t3 f_t4 f_t5
 obtain ⟨f_t0, f_t1, f_t2, f_t3, f_t4, f_t5⟩ := hh
 replace z_t := blt hb7 z_t
 have hh := bc6 hb7 ⟨c_r0, c_r1, c_r2, c_r3, c_r4, c_r5⟩
 clear c_r0 c_r1 c_r2 c_r3 c_r4 c_r5
 obtain ⟨c_r0, c_r1, c_r2, c_r3, c_r4, c_r5⟩ := hh
 have hh := bf6 hb7 z_r ⟨f_r0, f_r1, f_r2, f_r3, f_r4, f_r5⟩
 clear f_r0 f_r1 f_r2 f_r3 f_r4 f_r5
 obtain ⟨f_r0, f_r1, f_r2, f_r3, f_r4, f_r5⟩ := hh
 replace z_r := blt hb7 z_r
 have HB7 := xv hb7 HB6
 have HN7 := hid (HN6.out.below hb7)
 obtain ⟨la, pl, rfl, hla, -, -, -, -⟩ := row_of_owns ho7
 have HLA := hid hla
 have hz7 : w.heap.size + 1 + 1 < w7.heap.size := z_r
 clear hb7 ho7 hla PR6 HP6 HI6
 generalize L.length = m at *
 go_upto_region 14 with (fail)
 refine wp_region_late 8 xk (N := 101) rfl xk xk (by decide) (fun w' => Below w7.heap.size w7 w') RB (factRAt [.is (.agg #[.int .i64 z.seg, .slice b1 z.ws.length j1, .slice b2 z.ks.length j2, .slice b3 z.vs.length j3, .slice b4 z.cs.length j4, .int .u64 z.laid]), .is (.agg #[.int .u8 c.tag, .int .i64 c.most, .int .i64 c.seg, .int .i64 c.least, .int .i64 c.den, .int .i64 c.ll, .int .i64 c.rl, .int .i64 c.rh, .int .i64 c.lh]), .is (.agg #[.int .i64 z.seg, .slice b1 z.ws.length j1, .slice b2 z.ks.length j2, .slice b3 z.vs.length j3, .slice b4 z.cs.length j4, .int .u64 z.laid]), .is (.int .i64 size2), .is (.slice la m pl), sl2R w7.heap.size d (.int .i64 0), .sl w7.heap.size d, .is (.int .i64 0)]) (factRAt_stays _) (Below.refl _ _).drew ?steps ?fin
 case steps =>
  refine ⟨?o0, ?o1, ?o2, ?o3, ?o4, ?o5, ?o6, ?o7, trivial⟩
  case o0 =>
   intro u a w' ev hJ hd K hK
   have e4 : a.tmps.getD 4 undef = .pointer (some ⟨w.heap.size + 1, 0, none⟩) := ev 4 (by decide)
   have g0 := (hJ.cell (p := ⟨w.heap.size + 1, 0, none⟩) (by dsimp only; omega)).trans c_t0
   have g1 := (hJ.cell (p := ⟨w.heap.size + 1, 1, none⟩) (by dsimp only; omega)).trans c_t1
   have g2 := (hJ.cell (p := ⟨w.heap.size + 1, 2, none⟩) (by dsimp only; omega)).trans c_t2
   have g3 := (hJ.cell (p := ⟨w.heap.size + 1, 3, none⟩) (by dsimp only; omega)).trans c_t3
   have g4 := (hJ.cell (p := ⟨w.heap.size + 1, 4, none⟩) (by dsimp only; omega)).trans c_t4
   have g5 := (hJ.cell (p := ⟨w.heap.size + 1, 5, none⟩) (by dsimp only; omega)).trans c_t5
   have HK := hid hK
   clear hK ev hd
   go_simp
   exact HK.out _ _ (fun h => by cases h) hJ rfl (Below.refl _ _)
  case o1 =>
   intro u a w' ev hJ hd K hK
   have e3 : a.tmps.getD 3 undef = .pointer (some ⟨w.heap.size, 0, none⟩) := ev 3 (by decide)
   have g0 := (hJ.cell (p := ⟨w.heap.size, 0, none⟩) (by dsimp only; omega)).trans c_m0
   have g1 := (hJ.cell (p := ⟨w.heap.size, 1, none⟩) (by dsimp only; omega)).trans c_m1
   have g2 := (hJ.cell (p := ⟨w.heap.size, 2, none⟩) (by dsimp only; omega)).trans c_m2
   have g3 := (hJ.cell (p := ⟨w.heap.size, 3, none⟩) (by dsimp only; omega)).trans c_m3
   have g4 := (hJ.cell (p := ⟨w.heap.size, 4, none⟩) (by dsimp only; omega)).trans c_m4
   have g5 := (hJ.cell (p := ⟨w.heap.size, 5, none⟩) (by dsimp only; omega)).trans c_m5
   have g6 := (hJ.cell (p := ⟨w.heap.size, 6, none⟩) (by dsimp only; omega)).trans c_m6
   have g7 := (hJ.cell (p := ⟨w.heap.size, 7, none⟩) (by dsimp only; omega)).trans c_m7
   have g8 := (hJ.cell (p := ⟨w.heap.size, 8, none⟩) (by dsimp only; omega)).trans c_m8
   have HK := hid hK
   clear hK ev hd
   go_simp
   exact HK.out _ _ (fun h => by cases h) hJ rfl (Below.refl _ _)
  case o2 =>
   intro u a w' ev hJ hd K hK
   have e4 : a.tmps.getD 4 undef = .pointer (some ⟨w.heap.size + 1, 0, none⟩) := ev 4 (by decide)
   have g0 := (hJ.cell (p := ⟨w.heap.size + 1, 0, none⟩) (by dsimp only; omega)).trans c_t0
   have g1 := (hJ.cell (p := ⟨w.heap.size + 1, 1, none⟩) (by dsimp only; omega)).trans c_t1
   have g2 := (hJ.cell (p := ⟨w.heap.size + 1, 2, none⟩) (by dsimp only; omega)).trans c_t2
   have g3 := (hJ.cell (p := ⟨w.heap.size + 1, 3, none⟩) (by dsimp only; omega)).trans c_t3
   have g4 := (hJ.cell (p := ⟨w.heap.size + 1, 4, none⟩) (by dsimp only; omega)).trans c_t4
   have g5 := (hJ.cell (p := ⟨w.heap.size + 1, 5, none⟩) (by dsimp only; omega)).trans c_t5
   have HK := hid hK
   clear hK ev hd
   go_simp
   exact HK.out _ _ (fun h => by cases h) hJ rfl (Below.refl _ _)
  case o3 =>
   intro u a w' ev hJ hd K hK
   have e78 : a.tmps.getD 78 undef = .agg #[.int .u8 c.tag, .int .i64 c.most, .int .i64 c.seg, .int .i64 c.least, .int .i64 c.den, .int .i64 c.ll, .int .i64 c.rl, .int .i64 c.rh, .int .i64 c.lh] := (ev 78 (by decide)).trans (hd 1 _ xk rfl)
   have e79 : a.tmps.getD 79 undef = .agg #[.int .i64 z.seg, .slice b1 z.ws.length j1, .slice b2 z.ks.length j2, .slice b3 z.vs.length j3, .slice b4 z.cs.length j4, .int .u64 z.laid] := (ev 79 (by decide)).trans (hd 2 _ xk rfl)
   have HK := hid hK
   have HC := hid (NA.out w' ⟨b1, b2, b3, b4, j1, j2, j3, j4⟩ (below_via hJ HB7.out HB7.out.size) (HN7.out.below hJ) HJC.out)
   have hzJ := hJ.size
   clear hK ev hd
   go_simp
   refine HC.out.mono ?_
   rintro e w'' ⟨rfl, hb⟩
   exact HK.out _ _ (fun h => by cases h) (hJ.trans (hb.mono hzJ)) rfl hb
  case o4 =>
   intro u a w' ev hJ hd K hK
   have e14 : a.tmps.getD 14 undef = .slice la m pl := ev 14 (by decide)
   have HK := hid hK
   clear hK ev hd
   go_simp
   exact HK.out _ _ (fun h => by cases h) hJ rfl (Below.refl _ _)
  case o5 =>
   intro u a w' ev hJ hd K hK
   have e77 : a.tmps.getD 77 undef = .agg #[.int .i64 z.seg, .slice b1 z.ws.length j1, .slice b2 z.ks.length j2, .slice b3 z.vs.length j3, .slice b4 z.cs.length j4, .int .u64 z.laid] := (ev 77 (by decide)).trans (hd 0 _ xk rfl)
   have e80 : a.tmps.getD 80 undef = .int .i64 size2 := (ev 80 (by decide)).trans (hd 3 _ xk rfl)
   have e81 : a.tmps.getD 81 undef = .slice la m pl := (ev 81 (by decide)).trans (hd 4 _ xk rfl)
   have HK := hid hK
   have HC := hid (IN.out la pl w' ⟨b1, b2, b3, b4, j1, j2, j3, j4⟩ (below_via hJ HB7.out HB7.out.size) (HN7.out.below hJ) (HLA.out.below hJ))
   have hzJ := hJ.size
   have HJ := hid hJ
   clear hK ev hd hJ
   go_simp
   refine HC.out.mono ?_
   rintro e w'' ⟨v1, v2, v3, v4, rfl, p1, p2, p3, p4, hb⟩
   exact HK.out _ _ (fun h => by cases h) (HJ.out.trans (hb.mono hzJ)) (⟨_, rfl, v1, v2, v3, v4, rfl, owns_base p1 hzJ, owns_base p2 hzJ, owns_base p3 hzJ, owns_base p4 hzJ⟩) hb
  case o6 =>
   intro u a w' ev hJ hd K hK
   obtain ⟨y, ht, hy⟩ : (sl2R w7.heap.size d (.int .i64 0)).holds (u 82) w' := hd 5 _ xk rfl
   have e82 : a.tmps.getD 82 undef = _ := (ev 82 (by decide)).trans ht
   have HK := hid hK
   have HY := hid hy
   clear hK ev hd hy
   go_simp
   exact HK.out _ _ (fun h => by cases h) hJ (HY.out) (Below.refl _ _)
  case o7 =>
   intro u a w' ev hJ hd K hK
   obtain ⟨y, ht, hy⟩ : (sl2R w7.heap.size d (.int .i64 0)).holds (u 82) w' := hd 5 _ xk rfl
   have e82 : a.tmps.getD 82 undef = _ := (ev 82 (by decide)).trans ht
   have HK := hid hK
   have HY := hid hy
   clear hK ev hd hy
   go_simp
   exact HK.out _ _ (fun h => by cases h) hJ (rfl) (Below.refl _ _)
 case fin =>
  intro u w8 hJ hG
  obtain ⟨v1, v2, v3, v4, h83, p1, p2, p3, p4⟩ : (FactR.sl w7.heap.size d).holds (u 83) w8 := hG 6 _ rfl
  have h84 : u 84 = .int .i64 0 := hG 7 _ rfl
  have HB8 := xv hJ HB7
  have hz_w8 := hJ.size
  try simp only [World.size_alloc, World.size_setCell] at hz_w8
  have hh := bc9 hJ ⟨c_m0, c_m1, c_m2, c_m3, c_m4, c_m5, c_m6, c_m7, c_m8⟩
  clear c_m0 c_m1 c_m2 c_m3 c_m4 c_m5 c_m6 c_m7 c_m8
  obtain ⟨c_m0, c_m1, c_m2, c_m3, c_m4, c_m5, c_m6, c_m7, c_m8⟩ := hh
  replace z_m := blt hJ z_m
  have hh := bc6 hJ ⟨c_t0, c_t1, c_t2, c_t3, c_t4, c_t5⟩
  clear c_t0 c_t1 c_t2 c_t3 c_t4 c_t5
  obtain ⟨c_t0, c_t1, c_t2, c_t3, c_t4, c_t5⟩ := hh
  have hh := bf6 hJ z_t ⟨f_t0, f_t1, f_t2, f_t3, f_t4, f_t5⟩
  clear f_t0 f_t1 f_t2 f_t3 f_t4 f_t5
  obtain ⟨f_t0, f_t1, f_t2, f_t3, f_t4, f_t5⟩ := hh
  replace z_t := blt hJ z_t
  have hh := bc6 hJ ⟨c_r0, c_r1, c_r2, c_r3, c_r4, c_r5⟩
  clear c_r0 c_r1 c_r2 c_r3 c_r4 c_r5
  obtain ⟨c_r0, c_r1, c_r2, c_r3, c_r4, c_r5⟩ := hh
  have hh := bf6 hJ z_r ⟨f_r0, f_r1, f_r2, f_r3, f_r4, f_r5⟩
  clear f_r0 f_r1 f_r2 f_r3 f_r4 f_r5
  obtain ⟨f_r0, f_r1, f_r2, f_r3, f_r4, f_r5⟩ := hh
  replace z_r := blt hJ z_r
  obtain ⟨a1, k1, rfl, -, -, -, -, -⟩ := row_of_owns p1
  obtain ⟨a2, k2, rfl, -, -, -, -, -⟩ := row_of_owns p2
  obtain ⟨a3, k3, rfl, -, -, -, -, -⟩ := row_of_owns p3
  obtain ⟨a4, k4, rfl, -, -, -, -, -⟩ := row_of_owns p4
  have HP := hid (And.intro p1 (And.intro p2 (And.intro p3 p4)))
  clear p1 p2 p3 p4 hJ hG
  simp only [mixFrame, mixL, dstsOf, List.take_succ_cons, List.take_zero, List.filterMap_cons, List.filterMap_nil, List.contains_cons, List.contains_nil, Nat.reduceBEq, Bool.or_false, Bool.false_or, Bool.or_true, Bool.true_or, if_true, if_false, Bool.false_eq_true, Nat.reduceAdd, Nat.zero_add, List.drop_succ_cons, List.drop_zero, h83, h84]
  go_wp2
  have HC := hid (six_some ⟨c_r0, c_r1, c_r2, c_r3, c_r4, c_r5⟩)
  refine bodyPost_ret (results_ct rfl rfl (run_loadVar_many _ Tryd.underlying29 rfl xk (setCs_all (W := w8) (b := w.heap.size + 1 + 1) (l := [.int .i64 d.seg, .slice a1 d.ws.length k1, .slice a2 d.ks.length k2, .slice a3 d.vs.length k3, .slice a4 d.cs.length k4, .int .u64 d.laid]) HC.out))) rfl ⟨_, _, _, _, rfl, ?_, ?_, ?_, ?_, ?_⟩
  · exact owns_base (setCs_owns (b := w.heap.size + 1 + 1) (i := 0) hz7 [.int .i64 d.seg, .slice a1 d.ws.length k1, .slice a2 d.ks.length k2, .slice a3 d.vs.length k3, .slice a4 d.cs.length k4, .int .u64 d.laid] HP.out.1) xo
  · exact owns_base (setCs_owns (b := w.heap.size + 1 + 1) (i := 0) hz7 [.int .i64 d.seg, .slice a1 d.ws.length k1, .slice a2 d.ks.length k2, .slice a3 d.vs.length k3, .slice a4 d.cs.length k4, .int .u64 d.laid] HP.out.2.1) xo
  · exact owns_base (setCs_owns (b := w.heap.size + 1 + 1) (i := 0) hz7 [.int .i64 d.seg, .slice a1 d.ws.length k1, .slice a2 d.ks.length k2, .slice a3 d.vs.length k3, .slice a4 d.cs.length k4, .int .u64 d.laid] HP.out.2.2.1) xo
  · exact owns_base (setCs_owns (b := w.heap.size + 1 + 1) (i := 0) hz7 [.int .i64 d.seg, .slice a1 d.ws.length k1, .slice a2 d.ks.length k2, .slice a3 d.vs.length k3, .slice a4 d.cs.length k4, .int .u64 d.laid] HP.out.2.2.2) xo
  · exact setCs_below (b := w.heap.size + 1 + 1) xo [.int .i64 d.seg, .slice a1 d.ws.length k1, .slice a2 d.ks.length k2, .slice a3 d.vs.length k3, .slice a4 d.cs.length k4, .int .u64 d.laid] _ 0 HB8.out
theorem gTake_even (c : Cfg) (seg : Int) (wa ka va ca : Option Addr) (wc kc vc cc lw n lv lc : Nat) (laid : Int) (a H at_ k : Nat) (many t : Int) (z : SlC) (hzu : U64s z.ws) (hm : ¬ many ≤ (k : Int)) (h : Nat) (d : SlC) (hh : h ≤ H) (hH : H ≤ 14) (ht : t + 1 = (h : Nat)) (htn : t ≠ -1) (htH : t ≠ (H : Nat)) (w : World) (CK : Hid (∀ W, Below w.heap.size w W → Calls Tryd.prog 18 #[.agg #[.int .u8 c.tag, .int .i64 c.most, .int .i64 c.seg, .int .i64 c.least, .int .i64 c.den, .int .i64 c.ll, .int .i64 c.rl, .int .i64 c.rh, .int .i64 c.lh], .agg #[.int .i64 seg, .slice wa lw wc, .slice ka n kc, .slice va lv vc, .slice ca lc cc, .int .u64 laid]] W (AnsB W (.int .i64 0)))) (AM : Hid (∀ W, Below w.heap.size w W → Calls Tryd.prog 21 #[.agg #[.int .i64 seg, .slice wa lw wc, .slice ka n kc, .slice va lv vc, .slice ca lc cc, .int .u64 laid], .int .i64 0, .int .i64 n] W (AnsB W (.int .i64 many))))
    (NT : Hid (∀ W, Below w.heap.size w W → Calls Tryd.prog 10 #[.slice wa lw wc, .int .i64 n, .int .i64 k] W (AnsB W (.tuple #[.int .i64 at_, .int .i64 0]))))
    (CL : Hid (∀ W, Below w.heap.size w W → Calls Tryd.prog 14 #[.agg #[.int .i64 seg, .slice wa lw wc, .slice ka n kc, .slice va lv vc, .slice ca lc cc, .int .u64 laid], .int .i64 at_] W (FreshSl2 W z (.int .i64 0))))
    (HI : Hid (∀ W (zb : SlA), Below w.heap.size w W → SlIn W z zb → z.cs.length ≤ zb.cc → W.cell? ⟨w.heap.size, 0, none⟩ = some (.int .u8 c.tag) → W.cell? ⟨w.heap.size, 1, none⟩ = some (.int .i64 c.most) → W.cell? ⟨w.heap.size, 2, none⟩ = some (.int .i64 c.seg) → W.cell? ⟨w.heap.size, 3, none⟩ = some (.int .i64 c.least) → W.cell? ⟨w.heap.size, 4, none⟩ = some (.int .i64 c.den) → W.cell? ⟨w.heap.size, 5, none⟩ = some (.int .i64 c.ll) → W.cell? ⟨w.heap.size, 6, none⟩ = some (.int .i64 c.rl) → W.cell? ⟨w.heap.size, 7, none⟩ = some (.int .i64 c.rh) → W.cell? ⟨w.heap.size, 8, none⟩ = some (.int .i64 c.lh) → W.cell? ⟨w.heap.size + 1, 0, none⟩ = some (.int .i64 z.seg) → W.cell? ⟨w.heap.size + 1, 1, none⟩ = some (.slice zb.wa z.ws.length zb.wc) → W.cell? ⟨w.heap.size + 1, 2, none⟩ = some (.slice zb.ka z.ks.length zb.kc) → W.cell? ⟨w.heap.size + 1, 3, none⟩ = some (.slice zb.va z.vs.length zb.vc) → W.cell? ⟨w.heap.size + 1, 4, none⟩ = some (.slice zb.ca z.cs.length zb.cc) → W.cell? ⟨w.heap.size + 1, 5, none⟩ = some (.int .u64 z.laid) → Calls Tryd.prog 24 #[.agg #[.int .i64 z.seg, .slice zb.wa z.ws.length zb.wc, .slice zb.ka z.ks.length zb.kc, .slice zb.va z.vs.length zb.vc, .slice zb.ca z.cs.length zb.cc, .int .u64 z.laid], .int .i64 at_, .func (.func 37) #[] #[.pointer (some ⟨w.heap.size, 0, none⟩), .pointer (some ⟨w.heap.size + 1, 0, none⟩)]] W (HighR W a at_ H t)))
    (EV : Hid (∀ W (zb : SlA), Below w.heap.size w W → SlIn W z zb → Calls Tryd.prog 39 #[.agg #[.int .i64 z.seg, .slice zb.wa z.ws.length zb.wc, .slice zb.ka z.ks.length zb.kc, .slice zb.va z.vs.length zb.vc, .slice zb.ca z.cs.length zb.cc, .int .u64 z.laid], .int .i64 ((wnd a h at_ * 2 ^ (a + h) : Nat) : Int), .int .i64 (((wnd a h at_ * 2 ^ (a + h) : Nat) : Int) + ((2 ^ (a + h) : Nat) : Int))] W (FreshSl2 W d (.int .i64 0)))) :
    Calls Tryd.prog 13 #[.agg #[.int .u8 c.tag, .int .i64 c.most, .int .i64 c.seg, .int .i64 c.least, .int .i64 c.den, .int .i64 c.ll, .int .i64 c.rl, .int .i64 c.rh, .int .i64 c.lh], .agg #[.int .i64 seg, .slice wa lw wc, .slice ka n kc, .slice va lv vc, .slice ca lc cc, .int .u64 laid], .int .i64 k] w (FreshSl2 w d (.int .i64 0)) := by
 have g1 : decide ((k : Int) < 0) = false := by simp
 have g2 : decide ((k : Int) ≥ many) = false := by simpa using hm
 have g2b : decide (many ≤ (k : Int)) = false := by simpa using hm
 have HZU := hid hzu
 clear hzu
 have g4 : (t == -1) = false := by rw [beq_eq_false_iff_ne]; exact htn
 have g5 : (t == (H : Int)) = false := by rw [beq_eq_false_iff_ne]; exact htH
 have hw1 : IntKind.i64.wrap (((H + 1 : Nat) : Int) - 1) = (H : Int) := by rw [show ((H + 1 : Nat) : Int) - 1 = (H : Int) by omega]; exact IntWalk.i64_in _ xo
 have hw1b : IntKind.i64.wrap (H : Int) = (H : Int) := IntWalk.i64_in _ xo
 have hw2 : IntKind.i64.wrap (t + 1) = (h : Int) := by rw [ht]; exact IntWalk.i64_in _ xo
 have HWG := hid (winsL_get (a := a) (at_ := at_) (show h < H + 1 by omega))
 have HWL := hid (winsL_length a at_ (H + 1))
 have hlt : h < H + 1 := xo
 have HLI := hid (show (h : Int) < (H : Int) + 1 by omega)
 clear ht htn htH hh hH
 go_enter Tryd.func13, Tryd.ntmps13
 go_wp2_with fail
 refine (CK.out _ xbel).mono ?_
 rintro e w1 ⟨rfl, hb1⟩
 have hz_w1 := hb1.size
 try simp only [World.size_alloc, World.size_setCell] at hz_w1
 have hh := bc9 hb1 (au9 (au9 (al9 (b := w.heap.size) (by simp))))
 obtain ⟨c_m0, c_m1, c_m2, c_m3, c_m4, c_m5, c_m6, c_m7, c_m8⟩ := hh
 have z_m := blt hb1 (auz (auz (alz (b := w.heap.size) (by simp))))
 have hh := bc6 hb1 (au6 (al6 (b := w.heap.size + 1) (by simp)))
 obtain ⟨c_t0, c_t1, c_t2, c_t3, c_t4, c_t5⟩ := hh
 have hh := bf6 hb1 (auz (alz (b := w.heap.size + 1) (by simp))) (auf6 (alz (b := w.heap.size + 1) (by simp)) (alf6 (b := w.heap.size + 1) (by simp)))
 obtain ⟨f_t0, f_t1, f_t2, f_t3, f_t4, f_t5⟩ := hh
 have z_t := blt hb1 (auz (alz (b := w.heap.size + 1) (by simp)))
 have hh := bc6 hb1 (al6 (b := w.heap.size + 1 + 1) (by simp))
 obtain ⟨c_r0, c_r1, c_r2, c_r3, c_r4, c_r5⟩ := hh
 have hh := bf6 hb1 (alz (b := w.heap.size + 1 + 1) (by simp)) (alf6 (b := w.heap.size + 1 + 1) (by simp))
 obtain ⟨f_r0, f_r1, f_r2, f_r3, f_r4, f_r5⟩ := hh
 have z_r := blt hb1 (alz (b := w.heap.size + 1 + 1) (by simp))
 have hB1 : Below w.heap.size w w1 := xbel
 have HB1 := hid hB1
 have hz1 : w.heap.size + 1 + 1 < w1.heap.size := z_r
 clear hb1 hB1
 go_wp2_with fail
 refine (AM.out _ HB1.out).mono ?_
 rintro e w2 ⟨rfl, hb2⟩
 have hz_w2 := hb2.size
 try simp only [World.size_alloc, World.size_setCell] at hz_w2
 have hh := bc9 hb2 ⟨c_m0, c_m1, c_m2, c_m3, c_m4, c_m5, c_m6, c_m7, c_m8⟩
 clear c_m0 c_m1 c_m2 c_m3 c_m4 c_m5 c_m6 c_m7 c_m8
 obtain ⟨c_m0, c_m1, c_m2, c_m3, c_m4, c_m5, c_m6, c_m7, c_m8⟩ := hh
 replace z_m := blt hb2 z_m
 have hh := bc6 hb2 ⟨c_t0, c_t1, c_t2, c_t3, c_t4, c_t5⟩
 clear c_t0 c_t1 c_t2 c_t3 c_t4 c_t5
 obtain ⟨c_t0, c_t1, c_t2, c_t3, c_t4, c_t5⟩ := hh
 have hh := bf6 hb2 z_t ⟨f_t0, f_t1, f_t2, f_t3, f_t4, f_t5⟩
 clear f_t0 f_t1 f_t2 f_t3 f_t4 f_t5
 obtain ⟨f_t0, f_t1, f_t2, f_t3, f_t4, f_t5⟩ := hh
 replace z_t := blt hb2 z_t
 have hh := bc6 hb2 ⟨c_r0, c_r1, c_r2, c_r3, c_r4, c_r5⟩
 clear c_r0 c_r1 c_r2 c_r3 c_r4 c_r5
 obtain ⟨c_r0, c_r1, c_r2, c_r3, c_r4, c_r5⟩ := hh
 have hh := bf6 hb2 z_r ⟨f_r0, f_r1, f_r2, f_r3, f_r4, f_r5⟩
 clear f_r0 f_r1 f_r2 f_r3 f_r4 f_r5
 obtain ⟨f_r0, f_r1, f_r2, f_r3, f_r4, f_r5⟩ := hh
 replace z_r := blt hb2 z_r
 have HB2 := xv hb2 HB1
 have hz2 : w.heap.size + 1 + 1 < w2.heap.size := z_r
 clear hb2
 go_wp2_with fail
 refine (NT.out _ HB2.out).mono ?_
 rintro e w3 ⟨rfl, hb3⟩
 have hz_w3 := hb3.size
 try simp only [World.size_alloc, World.size_setCell] at hz_w3
 have hh := bc9 hb3 ⟨c_m0, c_m1, c_m2, c_m3, c_m4, c_m5, c_m6, c_m7, c_m8⟩
 clear c_m0 c_m1 c_m2 c_m3 c_m4 c_m5 c_m6 c_m7 c_m8
 obtain ⟨c_m0, c_m1, c_m2, c_m3, c_m4, c_m5, c_m6, c_m7, c_m8⟩ := hh
 replace z_m := blt hb3 z_m
 have hh := bc6 hb3 ⟨c_t0, c_t1, c_t2, c_t3, c_t4, c_t5⟩
 clear c_t0 c_t1 c_t2 c_t3 c_t4 c_t5
 obtain ⟨c_t0, c_t1, c_t2, c_t3, c_t4, c_t5⟩ := hh
 have hh := bf6 hb3 z_t ⟨f_t0, f_t1, f_t2, f_t3, f_t4, f_t5⟩
 clear f_t0 f_t1 f_t2 f_t3 f_t4 f_t5
 obtain ⟨f_t0, f_t1, f_t2, f_t3, f_t4, f_t5⟩ := hh
 replace z_t := blt hb3 z_t
 have hh := bc6 hb3 ⟨c_r0, c_r1, c_r2, c_r3, c_r4, c_r5⟩
 clear c_r0 c_r1 c_r2 c_r3 c_r4 c_r5
 obtain ⟨c_r0, c_r1, c_r2, c_r3, c_r4, c_r5⟩ := hh
 have hh := bf6 hb3 z_r ⟨f_r0, f_r1, f_r2, f_r3, f_r4, f_r5⟩
 clear f_r0 f_r1 f_r2 f_r3 f_r4 f_r5
 obtain ⟨f_r0, f_r1, f_r2, f_r3, f_r4, f_r5⟩ := hh
 replace z_r := blt hb3 z_r
 have HB3 := xv hb3 HB2
 have hz3 : w.heap.size + 1 + 1 < w3.heap.size := z_r
 clear hb3
 go_wp2_with fail
 refine (CL.out _ HB3.out).mono ?_
 rintro e w4 ⟨v1, v2, v3, v4, rfl, p1, p2, p3, p4, hb4⟩
 have hz_w4 := hb4.size
 try simp only [World.size_alloc, World.size_setCell] at hz_w4
 have hh := bc9 hb4 ⟨c_m0, c_m1, c_m2, c_m3, c_m4, c_m5, c_m6, c_m7, c_m8⟩
 clear c_m0 c_m1 c_m2 c_m3 c_m4 c_m5 c_m6 c_m7 c_m8
 obtain ⟨c_m0, c_m1, c_m2, c_m3, c_m4, c_m5, c_m6, c_m7, c_m8⟩ := hh
 replace z_m := blt hb4 z_m
 have hh := bc6 hb4 ⟨c_t0, c_t1, c_t2, c_t3, c_t4, c_t5⟩
 clear c_t0 c_t1 c_t2 c_t3 c_t4 c_t5
 obtain ⟨c_t0, c_t1, c_t2, c_t3, c_t4, c_t5⟩ := hh
 have hh := bf6 hb4 z_t ⟨f_t0, f_t1, f_t2, f_t3, f_t4, f_t5⟩
 clear f_t0 f_t1 f_t2 f_t3 f_t4 f_t5
 obtain ⟨f_t0, f_t1, f_t2, f_t3, f_t4, f_t5⟩ := hh
 replace z_t := blt hb4 z_t
 have hh := bc6 hb4 ⟨c_r0, c_r1, c_r2, c_r3, c_r4, c_r5⟩
 clear c_r0 c_r1 c_r2 c_r3 c_r4 c_r5
 obtain ⟨c_r0, c_r1, c_r2, c_r3, c_r4, c_r5⟩ := hh
 have hh := bf6 hb4 z_r ⟨f_r0, f_r1, f_r2, f_r3, f_r4, f_r5⟩
 clear f_r0 f_r1 f_r2 f_r3 f_r4 f_r5
 obtain ⟨f_r0, f_r1, f_r2, f_r3, f_r4, f_r5⟩ := hh
 replace z_r := blt hb4 z_r
 have HB4 := xv hb4 HB3
 obtain ⟨b1, j1, rfl, -, -, -, -, -⟩ := row_of_owns p1
 obtain ⟨b2, j2, rfl, -, -, -, -, -⟩ := row_of_owns p2
 obtain ⟨b3, j3, rfl, -, -, -, -, -⟩ := row_of_owns p3
 obtain ⟨b4, j4, rfl, -, -, -, hjc, -⟩ := row_of_owns p4
 have HP4 := hid (And.intro p1 (And.intro p2 (And.intro p3 p4)))
 have HJC := hid hjc
 have hz4 : w.heap.size + 1 + 1 < w4.heap.size := z_r
 clear hb4 p1 p2 p3 p4 hjc
 go_upto_region 8 with (fail)
 generalize hw5 : ((((((w4).setCell ⟨w.heap.size + 1, 0, none⟩ (.int .i64 z.seg)).setCell ⟨w.heap.size + 1, 1, none⟩ (.slice b1 z.ws.length j1)).setCell ⟨w.heap.size + 1, 2, none⟩ (.slice b2 z.ks.length j2)).setCell ⟨w.heap.size + 1, 3, none⟩ (.slice b3 z.vs.length j3)).setCell ⟨w.heap.size + 1, 4, none⟩ (.slice b4 z.cs.length j4)).setCell ⟨w.heap.size + 1, 5, none⟩ (.int .u64 z.laid) = w5
 have HCS := six_some ⟨c_t0, c_t1, c_t2, c_t3, c_t4, c_t5⟩
 replace c_m0 : w5.cell? ⟨w.heap.size, 0, none⟩ = some (.int .u8 c.tag) := by rw [← hw5]; exact (setCs_other (p := ⟨w.heap.size, 0, none⟩) (b := w.heap.size + 1) (by dsimp only; omega) [.int .i64 z.seg, .slice b1 z.ws.length j1, .slice b2 z.ks.length j2, .slice b3 z.vs.length j3, .slice b4 z.cs.length j4, .int .u64 z.laid] w4 0).trans c_m0
 replace c_m1 : w5.cell? ⟨w.heap.size, 1, none⟩ = some (.int .i64 c.most) := by rw [← hw5]; exact (setCs_other (p := ⟨w.heap.size, 1, none⟩) (b := w.heap.size + 1) (by dsimp only; omega) [.int .i64 z.seg, .slice b1 z.ws.length j1, .slice b2 z.ks.length j2, .slice b3 z.vs.length j3, .slice b4 z.cs.length j4, .int .u64 z.laid] w4 0).trans c_m1
 replace c_m2 : w5.cell? ⟨w.heap.size, 2, none⟩ = some (.int .i64 c.seg) := by rw [← hw5]; exact (setCs_other (p := ⟨w.heap.size, 2, none⟩) (b := w.heap.size + 1) (by dsimp only; omega) [.int .i64 z.seg, .slice b1 z.ws.length j1, .slice b2 z.ks.length j2, .slice b3 z.vs.length j3, .slice b4 z.cs.length j4, .int .u64 z.laid] w4 0).trans c_m2
 replace c_m3 : w5.cell? ⟨w.heap.size, 3, none⟩ = some (.int .i64 c.least) := by rw [← hw5]; exact (setCs_other (p := ⟨w.heap.size, 3, none⟩) (b := w.heap.size + 1) (by dsimp only; omega) [.int .i64 z.seg, .slice b1 z.ws.length j1, .slice b2 z.ks.length j2, .slice b3 z.vs.length j3, .slice b4 z.cs.length j4, .int .u64 z.laid] w4 0).trans c_m3
 replace c_m4 : w5.cell? ⟨w.heap.size, 4, none⟩ = some (.int .i64 c.den) := by rw [← hw5]; exact (setCs_other (p := ⟨w.heap.size, 4, none⟩) (b := w.heap.size + 1) (by dsimp only; omega) [.int .i64 z.seg, .slice b1 z.ws.length j1, .slice b2 z.ks.length j2, .slice b3 z.vs.length j3, .slice b4 z.cs.length j4, .int .u64 z.laid] w4 0).trans c_m4
 replace c_m5 : w5.cell? ⟨w.heap.size, 5, none⟩ = some (.int .i64 c.ll) := by rw [← hw5]; exact (setCs_other (p := ⟨w.heap.size, 5, none⟩) (b := w.heap.size + 1) (by dsimp only; omega) [.int .i64 z.seg, .slice b1 z.ws.length j1, .slice b2 z.ks.length j2, .slice b3 z.vs.length j3, .slice b4 z.cs.length j4, .int .u64 z.laid] w4 0).trans c_m5
 replace c_m6 : w5.cell? ⟨w.heap.size, 6, none⟩ = some (.int .i64 c.rl) := by rw [← hw5]; exact (setCs_other (p := ⟨w.heap.size, 6, none⟩) (b := w.heap.size + 1) (by dsimp only; omega) [.int .i64 z.seg, .slice b1 z.ws.length j1, .slice b2 z.ks.length j2, .slice b3 z.vs.length j3, .slice b4 z.cs.length j4, .int .u64 z.laid] w4 0).trans c_m6
 replace c_m7 : w5.cell? ⟨w.heap.size, 7, none⟩ = some (.int .i64 c.rh) := by rw [← hw5]; exact (setCs_other (p := ⟨w.heap.size, 7, none⟩) (b := w.heap.size + 1) (by dsimp only; omega) [.int .i64 z.seg, .slice b1 z.ws.length j1, .slice b2 z.ks.length j2, .slice b3 z.vs.length j3, .slice b4 z.cs.length j4, .int .u64 z.laid] w4 0).trans c_m7
 replace c_m8 : w5.cell? ⟨w.heap.size, 8, none⟩ = some (.int .i64 c.lh) := by rw [← hw5]; exact (setCs_other (p := ⟨w.heap.size, 8, none⟩) (b := w.heap.size + 1) (by dsimp only; omega) [.int .i64 z.seg, .slice b1 z.ws.length j1, .slice b2 z.ks.length j2, .slice b3 z.vs.length j3, .slice b4 z.cs.length j4, .int .u64 z.laid] w4 0).trans c_m8
 replace z_m : w.heap.size < w5.heap.size := by rw [← hw5]; exact Nat.lt_of_lt_of_eq z_m (setCs_size [.int .i64 z.seg, .slice b1 z.ws.length j1, .slice b2 z.ks.length j2, .slice b3 z.vs.length j3, .slice b4 z.cs.length j4, .int .u64 z.laid] w4 (w.heap.size + 1) 0).symm
 replace c_t0 : w5.cell? ⟨w.heap.size + 1, 0, none⟩ = some (.int .i64 z.seg) := by rw [← hw5]; exact setCs_all (W := w4) (b := w.heap.size + 1) (l := [.int .i64 z.seg, .slice b1 z.ws.length j1, .slice b2 z.ks.length j2, .slice b3 z.vs.length j3, .slice b4 z.cs.length j4, .int .u64 z.laid]) HCS 0 _ rfl
 replace f_t0 : w5.frozen? ⟨w.heap.size + 1, 0, none⟩ = false := by rw [← hw5]; exact (setCs_frozen (W := w4) (b := w.heap.size + 1) [.int .i64 z.seg, .slice b1 z.ws.length j1, .slice b2 z.ks.length j2, .slice b3 z.vs.length j3, .slice b4 z.cs.length j4, .int .u64 z.laid] 0 _).trans f_t0
 replace c_t1 : w5.cell? ⟨w.heap.size + 1, 1, none⟩ = some (.slice b1 z.ws.length j1) := by rw [← hw5]; exact setCs_all (W := w4) (b := w.heap.size + 1) (l := [.int .i64 z.seg, .slice b1 z.ws.length j1, .slice b2 z.ks.length j2, .slice b3 z.vs.length j3, .slice b4 z.cs.length j4, .int .u64 z.laid]) HCS 1 _ rfl
 replace f_t1 : w5.frozen? ⟨w.heap.size + 1, 1, none⟩ = false := by rw [← hw5]; exact (setCs_frozen (W := w4) (b := w.heap.size + 1) [.int .i64 z.seg, .slice b1 z.ws.length j1, .slice b2 z.ks.length j2, .slice b3 z.vs.length j3, .slice b4 z.cs.length j4, .int .u64 z.laid] 0 _).trans f_t1
 replace c_t2 : w5.cell? ⟨w.heap.size + 1, 2, none⟩ = some (.slice b2 z.ks.length j2) := by rw [← hw5]; exact setCs_all (W := w4) (b := w.heap.size + 1) (l := [.int .i64 z.seg, .slice b1 z.ws.length j1, .slice b2 z.ks.length j2, .slice b3 z.vs.length j3, .slice b4 z.cs.length j4, .int .u64 z.laid]) HCS 2 _ rfl
 replace f_t2 : w5.frozen? ⟨w.heap.size + 1, 2, none⟩ = false := by rw [← hw5]; exact (setCs_frozen (W := w4) (b := w.heap.size + 1) [.int .i64 z.seg, .slice b1 z.ws.length j1, .slice b2 z.ks.length j2, .slice b3 z.vs.length j3, .slice b4 z.cs.length j4, .int .u64 z.laid] 0 _).trans f_t2
 replace c_t3 : w5.cell? ⟨w.heap.size + 1, 3, none⟩ = some (.slice b3 z.vs.length j3) := by rw [← hw5]; exact setCs_all (W := w4) (b := w.heap.size + 1) (l := [.int .i64 z.seg, .slice b1 z.ws.length j1, .slice b2 z.ks.length j2, .slice b3 z.vs.length j3, .slice b4 z.cs.length j4, .int .u64 z.laid]) HCS 3 _ rfl
 replace f_t3 : w5.frozen? ⟨w.heap.size + 1, 3, none⟩ = false := by rw [← hw5]; exact (setCs_frozen (W := w4) (b := w.heap.size + 1) [.int .i64 z.seg, .slice b1 z.ws.length j1, .slice b2 z.ks.length j2, .slice b3 z.vs.length j3, .slice b4 z.cs.length j4, .int .u64 z.laid] 0 _).trans f_t3
 replace c_t4 : w5.cell? ⟨w.heap.size + 1, 4, none⟩ = some (.slice b4 z.cs.length j4) := by rw [← hw5]; exact setCs_all (W := w4) (b := w.heap.size + 1) (l := [.int .i64 z.seg, .slice b1 z.ws.length j1, .slice b2 z.ks.length j2, .slice b3 z.vs.length j3, .slice b4 z.cs.length j4, .int .u64 z.laid]) HCS 4 _ rfl
 replace f_t4 : w5.frozen? ⟨w.heap.size + 1, 4, none⟩ = false := by rw [← hw5]; exact (setCs_frozen (W := w4) (b := w.heap.size + 1) [.int .i64 z.seg, .slice b1 z.ws.length j1, .slice b2 z.ks.length j2, .slice b3 z.vs.length j3, .slice b4 z.cs.length j4, .int .u64 z.laid] 0 _).trans f_t4
 replace c_t5 : w5.cell? ⟨w.heap.size + 1, 5, none⟩ = some (.int .u64 z.laid) := by rw [← hw5]; exact setCs_all (W := w4) (b := w.heap.size + 1) (l := [.int .i64 z.seg, .slice b1 z.ws.length j1, .slice b2 z.ks.length j2, .slice b3 z.vs.length j3, .slice b4 z.cs.length j4, .int .u64 z.laid]) HCS 5 _ rfl
 replace f_t5 : w5.frozen? ⟨w.heap.size + 1, 5, none⟩ = false := by rw [← hw5]; exact (setCs_frozen (W := w4) (b := w.heap.size + 1) [.int .i64 z.seg, .slice b1 z.ws.length j1, .slice b2 z.ks.length j2, .slice b3 z.vs.length j3, .slice b4 z.cs.length j4, .int .u64 z.laid] 0 _).trans f_t5
 replace z_t : w.heap.size + 1 < w5.heap.size := by rw [← hw5]; exact Nat.lt_of_lt_of_eq z_t (setCs_size [.int .i64 z.seg, .slice b1 z.ws.length j1, .slice b2 z.ks.length j2, .slice b3 z.vs.length j3, .slice b4 z.cs.length j4, .int .u64 z.laid] w4 (w.heap.size + 1) 0).symm
 replace c_r0 : w5.cell? ⟨w.heap.size + 1 + 1, 0, none⟩ = some (.int .i64 0) := by rw [← hw5]; exact (setCs_other (p := ⟨w.heap.size + 1 + 1, 0, none⟩) (b := w.heap.size + 1) (by dsimp only; omega) [.int .i64 z.seg, .slice b1 z.ws.length j1, .slice b2 z.ks.length j2, .slice b3 z.vs.length j3, .slice b4 z.cs.length j4, .int .u64 z.laid] w4 0).trans c_r0
 replace f_r0 : w5.frozen? ⟨w.heap.size + 1 + 1, 0, none⟩ = false := by rw [← hw5]; exact (setCs_frozen (W := w4) (b := w.heap.size + 1) [.int .i64 z.seg, .slice b1 z.ws.length j1, .slice b2 z.ks.length j2, .slice b3 z.vs.length j3, .slice b4 z.cs.length j4, .int .u64 z.laid] 0 _).trans f_r0
 replace c_r1 : w5.cell? ⟨w.heap.size + 1 + 1, 1, none⟩ = some (.slice none 0 0) := by rw [← hw5]; exact (setCs_other (p := ⟨w.heap.size + 1 + 1, 1, none⟩) (b := w.heap.size + 1) (by dsimp only; omega) [.int .i64 z.seg, .slice b1 z.ws.length j1, .slice b2 z.ks.length j2, .slice b3 z.vs.length j3, .slice b4 z.cs.length j4, .int .u64 z.laid] w4 0).trans c_r1
 replace f_r1 : w5.frozen? ⟨w.heap.size + 1 + 1, 1, none⟩ = false := by rw [← hw5]; exact (setCs_frozen (W := w4) (b := w.heap.size + 1) [.int .i64 z.seg, .slice b1 z.ws.length j1, .slice b2 z.ks.length j2, .slice b3 z.vs.length j3, .slice b4 z.cs.length j4, .int .u64 z.laid] 0 _).trans f_r1
 replace c_r2 : w5.cell? ⟨w.heap.size + 1 + 1, 2, none⟩ = some (.slice none 0 0) := by rw [← hw5]; exact (setCs_other (p := ⟨w.heap.size + 1 + 1, 2, none⟩) (b := w.heap.size + 1) (by dsimp only; omega) [.int .i64 z.seg, .slice b1 z.ws.length j1, .slice b2 z.ks.length j2, .slice b3 z.vs.length j3, .slice b4 z.cs.length j4, .int .u64 z.laid] w4 0).trans c_r2
 replace f_r2 : w5.frozen? ⟨w.heap.size + 1 + 1, 2, none⟩ = false := by rw [← hw5]; exact (setCs_frozen (W := w4) (b := w.heap.size + 1) [.int .i64 z.seg, .slice b1 z.ws.length j1, .slice b2 z.ks.length j2, .slice b3 z.vs.length j3, .slice b4 z.cs.length j4, .int .u64 z.laid] 0 _).trans f_r2
 replace c_r3 : w5.cell? ⟨w.heap.size + 1 + 1, 3, none⟩ = some (.slice none 0 0) := by rw [← hw5]; exact (setCs_other (p := ⟨w.heap.size + 1 + 1, 3, none⟩) (b := w.heap.size + 1) (by dsimp only; omega) [.int .i64 z.seg, .slice b1 z.ws.length j1, .slice b2 z.ks.length j2, .slice b3 z.vs.length j3, .slice b4 z.cs.length j4, .int .u64 z.laid] w4 0).trans c_r3
 replace f_r3 : w5.frozen? ⟨w.heap.size + 1 + 1, 3, none⟩ = false := by rw [← hw5]; exact (setCs_frozen (W := w4) (b := w.heap.size + 1) [.int .i64 z.seg, .slice b1 z.ws.length j1, .slice b2 z.ks.length j2, .slice b3 z.vs.length j3, .slice b4 z.cs.length j4, .int .u64 z.laid] 0 _).trans f_r3
 replace c_r4 : w5.cell? ⟨w.heap.size + 1 + 1, 4, none⟩ = some (.slice none 0 0) := by rw [← hw5]; exact (setCs_other (p := ⟨w.heap.size + 1 + 1, 4, none⟩) (b := w.heap.size + 1) (by dsimp only; omega) [.int .i64 z.seg, .slice b1 z.ws.length j1, .slice b2 z.ks.length j2, .slice b3 z.vs.length j3, .slice b4 z.cs.length j4, .int .u64 z.laid] w4 0).trans c_r4
 replace f_r4 : w5.frozen? ⟨w.heap.size + 1 + 1, 4, none⟩ = false := by rw [← hw5]; exact (setCs_frozen (W := w4) (b := w.heap.size + 1) [.int .i64 z.seg, .slice b1 z.ws.length j1, .slice b2 z.ks.length j2, .slice b3 z.vs.length j3, .slice b4 z.cs.length j4, .int .u64 z.laid] 0 _).trans f_r4
 replace c_r5 : w5.cell? ⟨w.heap.size + 1 + 1, 5, none⟩ = some (.int .u64 0) := by rw [← hw5]; exact (setCs_other (p := ⟨w.heap.size + 1 + 1, 5, none⟩) (b := w.heap.size + 1) (by dsimp only; omega) [.int .i64 z.seg, .slice b1 z.ws.length j1, .slice b2 z.ks.length j2, .slice b3 z.vs.length j3, .slice b4 z.cs.length j4, .int .u64 z.laid] w4 0).trans c_r5
 replace f_r5 : w5.frozen? ⟨w.heap.size + 1 + 1, 5, none⟩ = false := by rw [← hw5]; exact (setCs_frozen (W := w4) (b := w.heap.size + 1) [.int .i64 z.seg, .slice b1 z.ws.length j1, .slice b2 z.ks.length j2, .slice b3 z.vs.length j3, .slice b4 z.cs.length j4, .int .u64 z.laid] 0 _).trans f_r5
 replace z_r : w.heap.size + 1 + 1 < w5.heap.size := by rw [← hw5]; exact Nat.lt_of_lt_of_eq z_r (setCs_size [.int .i64 z.seg, .slice b1 z.ws.length j1, .slice b2 z.ks.length j2, .slice b3 z.vs.length j3, .slice b4 z.cs.length j4, .int .u64 z.laid] w4 (w.heap.size + 1) 0).symm
 clear HCS
 have HB5 : Hid (Below w.heap.size w w5) := by rw [← hw5]; exact hid (setCs_below (b := w.heap.size + 1) xo [.int .i64 z.seg, .slice b1 z.ws.length j1, .slice b2 z.ks.length j2, .slice b3 z.vs.length j3, .slice b4 z.cs.length j4, .int .u64 z.laid] w4 0 HB4.out)
 have HP5 : Hid (w5.ownsRow w3.heap.size 27 1 (.slice b1 z.ws.length j1) z.ws.length (z.ws.map (Value.int .u64)) ∧ w5.ownsRow w3.heap.size 2 1 (.slice b2 z.ks.length j2) z.ks.length (z.ks.map (Value.int .i64)) ∧ w5.ownsRow w3.heap.size 2 1 (.slice b3 z.vs.length j3) z.vs.length (z.vs.map (Value.int .i64)) ∧ w5.ownsRow w3.heap.size 3 1 (.slice b4 z.cs.length j4) z.cs.length (z.cs.map (Value.int .i64))) := by
  rw [← hw5]
  exact hid ⟨setCs_owns (b := w.heap.size + 1) (i := 0) xo [.int .i64 z.seg, .slice b1 z.ws.length j1, .slice b2 z.ks.length j2, .slice b3 z.vs.length j3, .slice b4 z.cs.length j4, .int .u64 z.laid] HP4.out.1, setCs_owns (b := w.heap.size + 1) (i := 0) xo [.int .i64 z.seg, .slice b1 z.ws.length j1, .slice b2 z.ks.length j2, .slice b3 z.vs.length j3, .slice b4 z.cs.length j4, .int .u64 z.laid] HP4.out.2.1, setCs_owns (b := w.heap.size + 1) (i := 0) xo [.int .i64 z.seg, .slice b1 z.ws.length j1, .slice b2 z.ks.length j2, .slice b3 z.vs.length j3, .slice b4 z.cs.length j4, .int .u64 z.laid] HP4.out.2.2.1, setCs_owns (b := w.heap.size + 1) (i := 0) xo [.int .i64 z.seg, .slice b1 z.ws.length j1, .slice b2 z.ks.length j2, .slice b3 z.vs.length j3, .slice b4 z.cs.length j4, .int .u64 z.laid] HP4.out.2.2.2⟩
 clear hw5 HP4
 have HN5 : Hid (SlIn w5 z ⟨b1, b2, b3, b4, j1, j2, j3, j4⟩) := hid (by
  obtain ⟨q1, q2, q3, q4⟩ := HP5.out
  obtain ⟨_, _, he1, i1, -⟩ := row_of_owns q1
  obtain ⟨_, _, he2, i2, -⟩ := row_of_owns q2
  obtain ⟨_, _, he3, i3, -⟩ := row_of_owns q3
  obtain ⟨_, _, he4, i4, -⟩ := row_of_owns q4
  cases he1; cases he2; cases he3; cases he4
  exact ⟨i1, i2, i3, i4, HZU.out⟩)
 have HI5 := hid (HI.out w5 ⟨b1, b2, b3, b4, j1, j2, j3, j4⟩ HB5.out HN5.out HJC.out c_m0 c_m1 c_m2 c_m3 c_m4 c_m5 c_m6 c_m7 c_m8 c_t0 c_t1 c_t2 c_t3 c_t4 c_t5)
 clear HI
 go_wp2_with fail
 refine (HI5.out).mono ?_
 rintro e w6 ⟨v, rfl, ho6, hb6⟩
 have hz_w6 := hb6.size
 try simp only [World.size_alloc, World.size_setCell] at hz_w6
 have hh := bc9 hb6 ⟨c_m0, c_m1, c_m2, c_m3, c_m4, c_m5, c_m6, c_m7, c_m8⟩
 clear c_m0 c_m1 c_m2 c_m3 c_m4 c_m5 c_m6 c_m7 c_m8
 obtain ⟨c_m0, c_m1, c_m2, c_m3, c_m4, c_m5, c_m6, c_m7, c_m8⟩ := hh
 replace z_m := blt hb6 z_m
 have hh := bc6 hb6 ⟨c_t0, c_t1, c_t2, c_t3, c_t4, c_t5⟩
 clear c_t0 c_t1 c_t2 c_t3 c_t4 c_t5
 obtain ⟨c_t0, c_t1, c_t2, c_t3, c_t4, c_t5⟩ := hh
 have hh := bf6 hb6 z_t ⟨f_t0, f_t1, f_t2, f_t3, f_t4, f_t5⟩
 clear f_t0 f_t1 f_t2 f_t3 f_t4 f_t5
 obtain ⟨f_t0, f_t1, f_t2, f_t3, f_t4, f_t5⟩ := hh
 replace z_t := blt hb6 z_t
 have hh := bc6 hb6 ⟨c_r0, c_r1, c_r2, c_r3, c_r4, c_r5⟩
 clear c_r0 c_r1 c_r2 c_r3 c_r4 c_r5
 obtain ⟨c_r0, c_r1, c_r2, c_r3, c_r4, c_r5⟩ := hh
 have hh := bf6 hb6 z_r ⟨f_r0, f_r1, f_r2, f_r3, f_r4, f_r5⟩
 clear f_r0 f_r1 f_r2 f_r3 f_r4 f_r5
 obtain ⟨f_r0, f_r1, f_r2, f_r3, f_r4, f_r5⟩ := hh
 replace z_r := blt hb6 z_r
 have HB6 := xv hb6 HB5
 have HN6 := hid (HN5.out.below hb6)
 have HP6 := hid (And.intro (owns_below HP5.out.1 hb6) (And.intro (owns_below HP5.out.2.1 hb6) (And.intro (owns_below HP5.out.2.2.1 hb6) (owns_below HP5.out.2.2.2 hb6))))
 obtain ⟨ra, rc, rfl, hi6, -, -, hrc, -⟩ := row_of_owns ho6
 have HI6 := hid hi6
 clear hb6 ho6 hi6 HI5 HN5 HP5
 have hpr := prI_get (l := winsL a at_ (H + 1)) (i := h) (by rw [HWL.out]; exact hlt)
 rw [HWG.out] at hpr
 obtain ⟨pb, po, lo, hi, rfl, hx, hy, hc0, hc1, hpb⟩ := HI6.out.get2 (i := h) (by rw [prI_length, HWL.out]; omega)
 have ex : ((wnd a h at_ * 2 ^ (a + h) : Nat) : Int) = lo := by rw [← hx.out, hpr.1]
 have ey : ((wnd a h at_ * 2 ^ (a + h) : Nat) : Int) + ((2 ^ (a + h) : Nat) : Int) = hi := by rw [← hy.out, hpr.2]
 rw [ey, ex] at EV
 have hz6 : w.heap.size + 1 + 1 < w6.heap.size := z_r
 clear hpr hx hy ex ey HWG HWL HI6 HP6
 go_upto_region 15 with (fail)
 refine wp_region_late 16 xk (N := 101) rfl xk xk (by decide) (fun w' => Below w6.heap.size w6 w') RB (factRAt [.is (.agg #[.int .i64 z.seg, .slice b1 z.ws.length j1, .slice b2 z.ks.length j2, .slice b3 z.vs.length j3, .slice b4 z.cs.length j4, .int .u64 z.laid]), .is (.slice (some ⟨pb, po, none⟩) (H + 1) rc), .is (.int .i64 t), .is (.int .i64 h), .is (.pointer (some ⟨pb, po + h * 2, none⟩)), .is (.pointer (some ⟨pb, po + h * 2, none⟩)), .is (.int .i64 lo), .is (.slice (some ⟨pb, po, none⟩) (H + 1) rc), .is (.int .i64 t), .is (.int .i64 h), .is (.pointer (some ⟨pb, po + h * 2, none⟩)), .is (.pointer (some ⟨pb, po + h * 2 + 1, none⟩)), .is (.int .i64 hi), sl2R w6.heap.size d (.int .i64 0), .sl w6.heap.size d, .is (.int .i64 0)]) (factRAt_stays _) (Below.refl _ _).drew ?steps ?fin
 case steps =>
  refine ⟨?o0, ?o1, ?o2, ?o3, ?o4, ?o5, ?o6, ?o7, ?o8, ?o9, ?o10, ?o11, ?o12, ?o13, ?o14, ?o15, trivial⟩
  case o0 =>
   intro u a w' ev hJ hd K hK
   have e4 : a.tmps.getD 4 undef = .pointer (some ⟨w.heap.size + 1, 0, none⟩) := ev 4 (by decide)
   have g0 := (hJ.cell (p := ⟨w.heap.size + 1, 0, none⟩) (by dsimp only; omega)).trans c_t0
   have g1 := (hJ.cell (p := ⟨w.heap.size + 1, 1, none⟩) (by dsimp only; omega)).trans c_t1
   have g2 := (hJ.cell (p := ⟨w.heap.size + 1, 2, none⟩) (by dsimp only; omega)).trans c_t2
   have g3 := (hJ.cell (p := ⟨w.heap.size + 1, 3, none⟩) (by dsimp only; omega)).trans c_t3
   have g4 := (hJ.cell (p := ⟨w.heap.size + 1, 4, none⟩) (by dsimp only; omega)).trans c_t4
   have g5 := (hJ.cell (p := ⟨w.heap.size + 1, 5, none⟩) (by dsimp only; omega)).trans c_t5
   have HK := hid hK
   clear hK ev hd
   go_simp
   exact HK.out _ _ (fun h => by cases h) hJ rfl (Below.refl _ _)
  case o1 =>
   intro u a w' ev hJ hd K hK
   have e13 : a.tmps.getD 13 undef = .slice (some ⟨pb, po, none⟩) (H + 1) rc := ev 13 (by decide)
   have HK := hid hK
   clear hK ev hd
   go_simp
   exact HK.out _ _ (fun h => by cases h) hJ rfl (Below.refl _ _)
  case o2 =>
   intro u a w' ev hJ hd K hK
   have e12 : a.tmps.getD 12 undef = .int .i64 t := ev 12 (by decide)
   have HK := hid hK
   clear hK ev hd
   go_simp
   exact HK.out _ _ (fun h => by cases h) hJ rfl (Below.refl _ _)
  case o3 =>
   intro u a w' ev hJ hd K hK
   have e87 : a.tmps.getD 87 undef = .int .i64 t := (ev 87 (by decide)).trans (hd 2 _ xk rfl)
   have HK := hid hK
   clear hK ev hd
   go_simp
   exact HK.out _ _ (fun h => by cases h) hJ rfl (Below.refl _ _)
  case o4 =>
   intro u a w' ev hJ hd K hK
   have e86 : a.tmps.getD 86 undef = .slice (some ⟨pb, po, none⟩) (H + 1) rc := (ev 86 (by decide)).trans (hd 1 _ xk rfl)
   have e88 : a.tmps.getD 88 undef = .int .i64 h := (ev 88 (by decide)).trans (hd 3 _ xk rfl)
   have HK := hid hK
   clear hK ev hd
   go_simp
   rw [if_pos HLI.out]
   exact HK.out _ _ (fun h => by cases h) hJ rfl (Below.refl _ _)
  case o5 =>
   intro u a w' ev hJ hd K hK
   have e89 : a.tmps.getD 89 undef = .pointer (some ⟨pb, po + h * 2, none⟩) := (ev 89 (by decide)).trans (hd 4 _ xk rfl)
   have HK := hid hK
   clear hK ev hd
   go_simp
   exact HK.out _ _ (fun h => by cases h) hJ rfl (Below.refl _ _)
  case o6 =>
   intro u a w' ev hJ hd K hK
   have e90 : a.tmps.getD 90 undef = .pointer (some ⟨pb, po + h * 2, none⟩) := (ev 90 (by decide)).trans (hd 5 _ xk rfl)
   have g0 := (hJ.cell (p := ⟨pb, po + h * 2, none⟩) hpb).trans hc0
   have HK := hid hK
   clear hK ev hd
   go_simp
   exact HK.out _ _ (fun h => by cases h) hJ rfl (Below.refl _ _)
  case o7 =>
   intro u a w' ev hJ hd K hK
   have e13 : a.tmps.getD 13 undef = .slice (some ⟨pb, po, none⟩) (H + 1) rc := ev 13 (by decide)
   have HK := hid hK
   clear hK ev hd
   go_simp
   exact HK.out _ _ (fun h => by cases h) hJ rfl (Below.refl _ _)
  case o8 =>
   intro u a w' ev hJ hd K hK
   have e12 : a.tmps.getD 12 undef = .int .i64 t := ev 12 (by decide)
   have HK := hid hK
   clear hK ev hd
   go_simp
   exact HK.out _ _ (fun h => by cases h) hJ rfl (Below.refl _ _)
  case o9 =>
   intro u a w' ev hJ hd K hK
   have e93 : a.tmps.getD 93 undef = .int .i64 t := (ev 93 (by decide)).trans (hd 8 _ xk rfl)
   have HK := hid hK
   clear hK ev hd
   go_simp
   exact HK.out _ _ (fun h => by cases h) hJ rfl (Below.refl _ _)
  case o10 =>
   intro u a w' ev hJ hd K hK
   have e92 : a.tmps.getD 92 undef = .slice (some ⟨pb, po, none⟩) (H + 1) rc := (ev 92 (by decide)).trans (hd 7 _ xk rfl)
   have e94 : a.tmps.getD 94 undef = .int .i64 h := (ev 94 (by decide)).trans (hd 9 _ xk rfl)
   have HK := hid hK
   clear hK ev hd
   go_simp
   rw [if_pos HLI.out]
   exact HK.out _ _ (fun h => by cases h) hJ rfl (Below.refl _ _)
  case o11 =>
   intro u a w' ev hJ hd K hK
   have e95 : a.tmps.getD 95 undef = .pointer (some ⟨pb, po + h * 2, none⟩) := (ev 95 (by decide)).trans (hd 10 _ xk rfl)
   have HK := hid hK
   clear hK ev hd
   go_simp
   exact HK.out _ _ (fun h => by cases h) hJ rfl (Below.refl _ _)
  case o12 =>
   intro u a w' ev hJ hd K hK
   have e96 : a.tmps.getD 96 undef = .pointer (some ⟨pb, po + h * 2 + 1, none⟩) := (ev 96 (by decide)).trans (hd 11 _ xk rfl)
   have g0 := (hJ.cell (p := ⟨pb, po + h * 2 + 1, none⟩) hpb).trans hc1
   have HK := hid hK
   clear hK ev hd
   go_simp
   exact HK.out _ _ (fun h => by cases h) hJ rfl (Below.refl _ _)
  case o13 =>
   intro u a w' ev hJ hd K hK
   have e85 : a.tmps.getD 85 undef = .agg #[.int .i64 z.seg, .slice b1 z.ws.length j1, .slice b2 z.ks.length j2, .slice b3 z.vs.length j3, .slice b4 z.cs.length j4, .int .u64 z.laid] := (ev 85 (by decide)).trans (hd 0 _ xk rfl)
   have e91 : a.tmps.getD 91 undef = .int .i64 lo := (ev 91 (by decide)).trans (hd 6 _ xk rfl)
   have e97 : a.tmps.getD 97 undef = .int .i64 hi := (ev 97 (by decide)).trans (hd 12 _ xk rfl)
   have HK := hid hK
   have HC := hid (EV.out w' ⟨b1, b2, b3, b4, j1, j2, j3, j4⟩ (below_via hJ HB6.out HB6.out.size) (HN6.out.below hJ))
   have hzJ := hJ.size
   have HJ := hid hJ
   clear hK ev hd hJ
   go_simp
   refine HC.out.mono ?_
   rintro e w'' ⟨v1, v2, v3, v4, rfl, p1, p2, p3, p4, hb⟩
   exact HK.out _ _ (fun h => by cases h) (HJ.out.trans (hb.mono hzJ)) (⟨_, rfl, v1, v2, v3, v4, rfl, owns_base p1 hzJ, owns_base p2 hzJ, owns_base p3 hzJ, owns_base p4 hzJ⟩) hb
  case o14 =>
   intro u a w' ev hJ hd K hK
   obtain ⟨y, ht, hy⟩ : (sl2R w6.heap.size d (.int .i64 0)).holds (u 98) w' := hd 13 _ xk rfl
   have e98 : a.tmps.getD 98 undef = _ := (ev 98 (by decide)).trans ht
   have HK := hid hK
   have HY := hid hy
   clear hK ev hd hy
   go_simp
   exact HK.out _ _ (fun h => by cases h) hJ (HY.out) (Below.refl _ _)
  case o15 =>
   intro u a w' ev hJ hd K hK
   obtain ⟨y, ht, hy⟩ : (sl2R w6.heap.size d (.int .i64 0)).holds (u 98) w' := hd 13 _ xk rfl
   have e98 : a.tmps.getD 98 undef = _ := (ev 98 (by decide)).trans ht
   have HK := hid hK
   have HY := hid hy
   clear hK ev hd hy
   go_simp
   exact HK.out _ _ (fun h => by cases h) hJ (rfl) (Below.refl _ _)
 case fin =>
  intro u w8 hJ hG
  obtain ⟨v1, v2, v3, v4, h99, p1, p2, p3, p4⟩ : (FactR.sl w6.heap.size d).holds (u 99) w8 := hG 14 _ rfl
  have h100 : u 100 = .int .i64 0 := hG 15 _ rfl
  have HB8 := xv hJ HB6
  have hz_w8 := hJ.size
  try simp only [World.size_alloc, World.size_setCell] at hz_w8
  have hh := bc9 hJ ⟨c_m0, c_m1, c_m2, c_m3, c_m4, c_m5, c_m6, c_m7, c_m8⟩
  clear c_m0 c_m1 c_m2 c_m3 c_m4 c_m5 c_m6 c_m7 c_m8
  obtain ⟨c_m0, c_m1, c_m2, c_m3, c_m4, c_m5, c_m6, c_m7, c_m8⟩ := hh
  replace z_m := blt hJ z_m
  have hh := bc6 hJ ⟨c_t0, c_t1, c_t2, c_t3, c_t4, c_t5⟩
  clear c_t0 c_t1 c_t2 c_t3 c_t4 c_t5
  obtain ⟨c_t0, c_t1, c_t2, c_t3, c_t4, c_t5⟩ := hh
  have hh := bf6 hJ z_t ⟨f_t0, f_t1, f_t2, f_t3, f_t4, f_t5⟩
  clear f_t0 f_t1 f_t2 f_t3 f_t4 f_t5
  obtain ⟨f_t0, f_t1, f_t2, f_t3, f_t4, f_t5⟩ := hh
  replace z_t := blt hJ z_t
  have hh := bc6 hJ ⟨c_r0, c_r1, c_r2, c_r3, c_r4, c_r5⟩
  clear c_r0 c_r1 c_r2 c_r3 c_r4 c_r5
  obtain ⟨c_r0, c_r1, c_r2, c_r3, c_r4, c_r5⟩ := hh
  have hh := bf6 hJ z_r ⟨f_r0, f_r1, f_r2, f_r3, f_r4, f_r5⟩
  clear f_r0 f_r1 f_r2 f_r3 f_r4 f_r5
  obtain ⟨f_r0, f_r1, f_r2, f_r3, f_r4, f_r5⟩ := hh
  replace z_r := blt hJ z_r
  obtain ⟨a1, k1, rfl, -, -, -, -, -⟩ := row_of_owns p1
  obtain ⟨a2, k2, rfl, -, -, -, -, -⟩ := row_of_owns p2
  obtain ⟨a3, k3, rfl, -, -, -, -, -⟩ := row_of_owns p3
  obtain ⟨a4, k4, rfl, -, -, -, -, -⟩ := row_of_owns p4
  have HP := hid (And.intro p1 (And.intro p2 (And.intro p3 p4)))
  clear p1 p2 p3 p4 hJ hG
  simp only [mixFrame, mixL, dstsOf, List.take_succ_cons, List.take_zero, List.filterMap_cons, List.filterMap_nil, List.contains_cons, List.contains_nil, Nat.reduceBEq, Bool.or_false, Bool.false_or, Bool.or_true, Bool.true_or, if_true, if_false, Bool.false_eq_true, Nat.reduceAdd, Nat.zero_add, List.drop_succ_cons, List.drop_zero, h99, h100]
  go_wp2
  have HC := hid (six_some ⟨c_r0, c_r1, c_r2, c_r3, c_r4, c_r5⟩)
  refine bodyPost_ret (results_ct rfl rfl (run_loadVar_many _ Tryd.underlying29 rfl xk (setCs_all (W := w8) (b := w.heap.size + 1 + 1) (l := [.int .i64 d.seg, .slice a1 d.ws.length k1, .slice a2 d.ks.length k2, .slice a3 d.vs.length k3, .slice a4 d.cs.length k4, .int .u64 d.laid]) HC.out))) rfl ⟨_, _, _, _, rfl, ?_, ?_, ?_, ?_, ?_⟩
  · exact owns_base (setCs_owns (b := w.heap.size + 1 + 1) (i := 0) hz6 [.int .i64 d.seg, .slice a1 d.ws.length k1, .slice a2 d.ks.length k2, .slice a3 d.vs.length k3, .slice a4 d.cs.length k4, .int .u64 d.laid] HP.out.1) xo
  · exact owns_base (setCs_owns (b := w.heap.size + 1 + 1) (i := 0) hz6 [.int .i64 d.seg, .slice a1 d.ws.length k1, .slice a2 d.ks.length k2, .slice a3 d.vs.length k3, .slice a4 d.cs.length k4, .int .u64 d.laid] HP.out.2.1) xo
  · exact owns_base (setCs_owns (b := w.heap.size + 1 + 1) (i := 0) hz6 [.int .i64 d.seg, .slice a1 d.ws.length k1, .slice a2 d.ks.length k2, .slice a3 d.vs.length k3, .slice a4 d.cs.length k4, .int .u64 d.laid] HP.out.2.2.1) xo
  · exact owns_base (setCs_owns (b := w.heap.size + 1 + 1) (i := 0) hz6 [.int .i64 d.seg, .slice a1 d.ws.length k1, .slice a2 d.ks.length k2, .slice a3 d.vs.length k3, .slice a4 d.cs.length k4, .int .u64 d.laid] HP.out.2.2.2) xo
  · exact setCs_below (b := w.heap.size + 1 + 1) xo [.int .i64 d.seg, .slice a1 d.ws.length k1, .slice a2 d.ks.length k2, .slice a3 d.vs.length k3, .slice a4 d.cs.length k4, .int .u64 d.laid] _ 0 HB8.out
end
end Go.Proofs.YtookgoidlnlckaaDoor

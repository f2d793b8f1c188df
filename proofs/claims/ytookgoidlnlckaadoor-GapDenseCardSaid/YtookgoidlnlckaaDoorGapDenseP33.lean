/- Merged: GapDense, Open, OpenIx, OpenSl. -/
import Derived.Test.YtookgoidlnlckaaDoorGapDenseP13
import Derived.Test.YtookgoidlnlckaaDoorGapDenseP31
import Derived.Test.YtookgoidlnlckaaDoorGapDenseP32
import Derived.Test.YtookgoidlnlckaaDoorGapDenseP1
import Derived.ProofKit
import Derived.OpenShut
import Derived.ShutString
import Derived.ChangeOld
import Derived.Below
import Derived.Lib.SmallJoins
import Derived.Test.YtookgoidlnlckaaDoorGapDenseP2
import Derived.Test.YtookgoidlnlckaaDoorGapDenseP3
namespace Go.Proofs.YtookgoidlnlckaaDoor
set_option maxRecDepth 100000
set_option maxHeartbeats 4000000
set_option linter.unusedVariables false
set_option linter.unusedSimpArgs false
section
open Go.RowKit Go.Shelf Go.Sort
theorem GD_great (c : Cfg) (s : SlC) (wa ka va ca : Option Addr) (wc kc vc cc : Nat) (la : Option Addr) (m pl : Nat) (k : Int) (h : gr4 600 s.ks.length s.vs.length s.ws.length s.cs.length = true) (w : World)
    (AL : Hid (∀ (W : World), Below w.heap.size w W → Calls Tryd.prog 7 #[] W (AnsB W (.bool true)))) :
    Calls Tryd.prog 5 #[.agg #[.int .u8 c.tag, .int .i64 c.most, .int .i64 c.seg, .int .i64 c.least, .int .i64 c.den, .int .i64 c.ll, .int .i64 c.rl, .int .i64 c.rh, .int .i64 c.lh], .agg #[.int .i64 s.seg, .slice wa s.ws.length wc, .slice ka s.ks.length kc, .slice va s.vs.length vc, .slice ca s.cs.length cc, .int .u64 s.laid], .int .i64 k, .slice la m pl] w (AnsB w (.bool true)) := by
 have G1 := hid (fun W => Great04_ok s.seg wa ka va ca wc kc vc cc s.ws.length s.ks.length s.vs.length s.cs.length s.laid 600 W)
 rw [h] at G1
 clear h
 go_enter Tryd.func5, Tryd.ntmps5
 go_upto_region 1 with (fail)
 generalize hw0 : (w.alloc (.cells #[.int .u8 c.tag, .int .i64 c.most, .int .i64 c.seg, .int .i64 c.least, .int .i64 c.den, .int .i64 c.ll, .int .i64 c.rl, .int .i64 c.rh, .int .i64 c.lh] 23)).alloc (.cells #[.int .i64 s.seg, .slice wa s.ws.length wc, .slice ka s.ks.length kc, .slice va s.vs.length vc, .slice ca s.cs.length cc, .int .u64 s.laid] 29) = w0
 have P_m : Hid (PB w0 (w.heap.size) [.int .u8 c.tag, .int .i64 c.most, .int .i64 c.seg, .int .i64 c.least, .int .i64 c.den, .int .i64 c.ll, .int .i64 c.rl, .int .i64 c.rh, .int .i64 c.lh]) := by rw [← hw0]; exact hid (pb_alloc (pb_new _ _ _ (by simp)) (by simp only [World.size_alloc]; omega) _)
 have Z_m : w.heap.size < w0.heap.size := by rw [← hw0]; simp only [World.size_alloc]; omega
 have P_s : Hid (PB w0 (w.heap.size + 1) [.int .i64 s.seg, .slice wa s.ws.length wc, .slice ka s.ks.length kc, .slice va s.vs.length vc, .slice ca s.cs.length cc, .int .u64 s.laid]) := by rw [← hw0]; exact hid (pb_new _ _ _ (by simp))
 have Z_s : w.heap.size + 1 < w0.heap.size := by rw [← hw0]; simp only [World.size_alloc]; omega
 have HB0 : Hid (Below w.heap.size w w0) := by rw [← hw0]; exact hid (((Below.refl _ _).alloc (Nat.le_refl _) _).alloc (by simp) _)
 clear hw0
 go_wp2_with fail
 refine (AL.out _ HB0.out).mono ?_
 rintro e w1 ⟨rfl, hb1⟩
 replace P_m := hid (pb_below hb1 P_m.out Z_m)
 replace Z_m := Nat.lt_of_lt_of_le Z_m hb1.size
 replace P_s := hid (pb_below hb1 P_s.out Z_s)
 replace Z_s := Nat.lt_of_lt_of_le Z_s hb1.size
 have hz_w1 := hb1.size
 try simp only [World.size_alloc, World.size_setCell] at hz_w1
 have HB1 := xv hb1 HB0
 clear hb1
 go_wp2_with (first | refine wpl_load 29 (.tmp 5) (w.heap.size + 1) [.int .i64 s.seg, .slice wa s.ws.length wc, .slice ka s.ks.length kc, .slice va s.vs.length vc, .slice ca s.cs.length cc, .int .u64 s.laid] rfl rfl rfl Tryd.underlying29 rfl xk P_s.out ?_)
 go_wp2_with fail
 refine (G1.out _).mono ?_
 rintro e w2 ⟨rfl, hb2⟩
 replace P_m := hid (pb_below hb2 P_m.out Z_m)
 replace Z_m := Nat.lt_of_lt_of_le Z_m hb2.size
 replace P_s := hid (pb_below hb2 P_s.out Z_s)
 replace Z_s := Nat.lt_of_lt_of_le Z_s hb2.size
 have hz_w2 := hb2.size
 try simp only [World.size_alloc, World.size_setCell] at hz_w2
 have HB2 := xv hb2 HB1
 clear hb2 G1
 go_wp2
 go_ret
 exact ⟨rfl, HB2.out⟩
theorem GD_many (c : Cfg) (s : SlC) (wa ka va ca : Option Addr) (wc kc vc cc : Nat) (la : Option Addr) (m pl : Nat) (k : Int) (h : gr4 600 s.ks.length s.vs.length s.ws.length s.cs.length = false) (hm : 300 < m) (w : World)
    (AL : Hid (∀ (W : World), Below w.heap.size w W → Calls Tryd.prog 7 #[] W (AnsB W (.bool true)))) :
    Calls Tryd.prog 5 #[.agg #[.int .u8 c.tag, .int .i64 c.most, .int .i64 c.seg, .int .i64 c.least, .int .i64 c.den, .int .i64 c.ll, .int .i64 c.rl, .int .i64 c.rh, .int .i64 c.lh], .agg #[.int .i64 s.seg, .slice wa s.ws.length wc, .slice ka s.ks.length kc, .slice va s.vs.length vc, .slice ca s.cs.length cc, .int .u64 s.laid], .int .i64 k, .slice la m pl] w (AnsB w (.bool true)) := by
 have G1 := hid (fun W => Great04_ok s.seg wa ka va ca wc kc vc cc s.ws.length s.ks.length s.vs.length s.cs.length s.laid 600 W)
 rw [h] at G1
 clear h
 have g2 : decide ((300 : Int) < (m : Int)) = true := by rw [decide_eq_true_eq]; omega
 go_enter Tryd.func5, Tryd.ntmps5
 go_upto_region 1 with (fail)
 generalize hw0 : (w.alloc (.cells #[.int .u8 c.tag, .int .i64 c.most, .int .i64 c.seg, .int .i64 c.least, .int .i64 c.den, .int .i64 c.ll, .int .i64 c.rl, .int .i64 c.rh, .int .i64 c.lh] 23)).alloc (.cells #[.int .i64 s.seg, .slice wa s.ws.length wc, .slice ka s.ks.length kc, .slice va s.vs.length vc, .slice ca s.cs.length cc, .int .u64 s.laid] 29) = w0
 have P_m : Hid (PB w0 (w.heap.size) [.int .u8 c.tag, .int .i64 c.most, .int .i64 c.seg, .int .i64 c.least, .int .i64 c.den, .int .i64 c.ll, .int .i64 c.rl, .int .i64 c.rh, .int .i64 c.lh]) := by rw [← hw0]; exact hid (pb_alloc (pb_new _ _ _ (by simp)) (by simp only [World.size_alloc]; omega) _)
 have Z_m : w.heap.size < w0.heap.size := by rw [← hw0]; simp only [World.size_alloc]; omega
 have P_s : Hid (PB w0 (w.heap.size + 1) [.int .i64 s.seg, .slice wa s.ws.length wc, .slice ka s.ks.length kc, .slice va s.vs.length vc, .slice ca s.cs.length cc, .int .u64 s.laid]) := by rw [← hw0]; exact hid (pb_new _ _ _ (by simp))
 have Z_s : w.heap.size + 1 < w0.heap.size := by rw [← hw0]; simp only [World.size_alloc]; omega
 have HB0 : Hid (Below w.heap.size w w0) := by rw [← hw0]; exact hid (((Below.refl _ _).alloc (Nat.le_refl _) _).alloc (by simp) _)
 clear hw0
 go_wp2_with fail
 refine (AL.out _ HB0.out).mono ?_
 rintro e w1 ⟨rfl, hb1⟩
 replace P_m := hid (pb_below hb1 P_m.out Z_m)
 replace Z_m := Nat.lt_of_lt_of_le Z_m hb1.size
 replace P_s := hid (pb_below hb1 P_s.out Z_s)
 replace Z_s := Nat.lt_of_lt_of_le Z_s hb1.size
 have hz_w1 := hb1.size
 try simp only [World.size_alloc, World.size_setCell] at hz_w1
 have HB1 := xv hb1 HB0
 clear hb1
 go_wp2_with (first | refine wpl_load 29 (.tmp 5) (w.heap.size + 1) [.int .i64 s.seg, .slice wa s.ws.length wc, .slice ka s.ks.length kc, .slice va s.vs.length vc, .slice ca s.cs.length cc, .int .u64 s.laid] rfl rfl rfl Tryd.underlying29 rfl xk P_s.out ?_)
 go_wp2_with fail
 refine (G1.out _).mono ?_
 rintro e w2 ⟨rfl, hb2⟩
 replace P_m := hid (pb_below hb2 P_m.out Z_m)
 replace Z_m := Nat.lt_of_lt_of_le Z_m hb2.size
 replace P_s := hid (pb_below hb2 P_s.out Z_s)
 replace Z_s := Nat.lt_of_lt_of_le Z_s hb2.size
 have hz_w2 := hb2.size
 try simp only [World.size_alloc, World.size_setCell] at hz_w2
 have HB2 := xv hb2 HB1
 clear hb2 G1
 go_wp2
 go_ret
 exact ⟨rfl, HB2.out⟩
theorem GD_in (c : Cfg) (s : SlC) (wa ka va ca : Option Addr) (wc kc vc cc : Nat) (la : Option Addr) (m pl : Nat) (k : Int) (pc tc lc : SlC) (pe te le_ : Int) (h : gr4 600 s.ks.length s.vs.length s.ws.length s.cs.length = false) (hm : ¬ 300 < m) (hpu : U64s pc.ws) (htu : U64s tc.ws) (hlu : U64s lc.ws) (hp : pe ≠ 0 → pc.ks.length = 0) (ht : te ≠ 0 → tc.ks.length = 0) (hl : le_ ≠ 0 → lc.ks.length = 0) (w : World)
    (AL : Hid (∀ (W : World), Below w.heap.size w W → Calls Tryd.prog 7 #[] W (AnsB W (.bool true))))
    (PU : Hid (∀ (W : World), Below w.heap.size w W → Calls Tryd.prog 9 #[.agg #[.int .u8 c.tag, .int .i64 c.most, .int .i64 c.seg, .int .i64 c.least, .int .i64 c.den, .int .i64 c.ll, .int .i64 c.rl, .int .i64 c.rh, .int .i64 c.lh], .agg #[.int .i64 s.seg, .slice wa s.ws.length wc, .slice ka s.ks.length kc, .slice va s.vs.length vc, .slice ca s.cs.length cc, .int .u64 s.laid], .int .i64 k, .agg #[.int .i64 3, .int .i64 4]] W (FreshSl2 W pc (.int .i64 pe))))
    (TK : Hid (∀ (W : World), Below w.heap.size w W → Calls Tryd.prog 13 #[.agg #[.int .u8 c.tag, .int .i64 c.most, .int .i64 c.seg, .int .i64 c.least, .int .i64 c.den, .int .i64 c.ll, .int .i64 c.rl, .int .i64 c.rh, .int .i64 c.lh], .agg #[.int .i64 s.seg, .slice wa s.ws.length wc, .slice ka s.ks.length kc, .slice va s.vs.length vc, .slice ca s.cs.length cc, .int .u64 s.laid], .int .i64 k] W (FreshSl2 W tc (.int .i64 te))))
    (LD : Hid (∀ (W : World), Below w.heap.size w W → Calls Tryd.prog 17 #[.agg #[.int .u8 c.tag, .int .i64 c.most, .int .i64 c.seg, .int .i64 c.least, .int .i64 c.den, .int .i64 c.ll, .int .i64 c.rl, .int .i64 c.rh, .int .i64 c.lh], .agg #[.int .i64 s.seg, .slice wa s.ws.length wc, .slice ka s.ks.length kc, .slice va s.vs.length vc, .slice ca s.cs.length cc, .int .u64 s.laid], .slice la m pl] W (FreshSl2 W lc (.int .i64 le_))))
    (C1 : pe = 0 → Hid (∀ (W : World) (a2 : SlA), SlIn W pc a2 → pc.cs.length ≤ a2.cc → Calls Tryd.prog 18 #[.agg #[.int .u8 c.tag, .int .i64 c.most, .int .i64 c.seg, .int .i64 c.least, .int .i64 c.den, .int .i64 c.ll, .int .i64 c.rl, .int .i64 c.rh, .int .i64 c.lh], slV pc a2] W (AnsB W (.int .i64 0))))
    (C2 : te = 0 → Hid (∀ (W : World) (a2 : SlA), SlIn W tc a2 → tc.cs.length ≤ a2.cc → Calls Tryd.prog 18 #[.agg #[.int .u8 c.tag, .int .i64 c.most, .int .i64 c.seg, .int .i64 c.least, .int .i64 c.den, .int .i64 c.ll, .int .i64 c.rl, .int .i64 c.rh, .int .i64 c.lh], slV tc a2] W (AnsB W (.int .i64 0))))
    (C3 : le_ = 0 → Hid (∀ (W : World) (a2 : SlA), SlIn W lc a2 → lc.cs.length ≤ a2.cc → Calls Tryd.prog 18 #[.agg #[.int .u8 c.tag, .int .i64 c.most, .int .i64 c.seg, .int .i64 c.least, .int .i64 c.den, .int .i64 c.ll, .int .i64 c.rl, .int .i64 c.rh, .int .i64 c.lh], slV lc a2] W (AnsB W (.int .i64 0)))) :
    Calls Tryd.prog 5 #[.agg #[.int .u8 c.tag, .int .i64 c.most, .int .i64 c.seg, .int .i64 c.least, .int .i64 c.den, .int .i64 c.ll, .int .i64 c.rl, .int .i64 c.rh, .int .i64 c.lh], .agg #[.int .i64 s.seg, .slice wa s.ws.length wc, .slice ka s.ks.length kc, .slice va s.vs.length vc, .slice ca s.cs.length cc, .int .u64 s.laid], .int .i64 k, .slice la m pl] w (AnsB w (.bool true)) := by
 have G1 := hid (fun W => Great04_ok s.seg wa ka va ca wc kc vc cc s.ws.length s.ks.length s.vs.length s.cs.length s.laid 600 W)
 rw [h] at G1
 clear h
 have g2 : decide ((300 : Int) < (m : Int)) = false := by simp; omega
 have HU := hid (And.intro hpu (And.intro htu hlu))
 have HE := hid (And.intro hp (And.intro ht hl))
 have HC := hid (And.intro C1 (And.intro C2 C3))
 clear hpu htu hlu hp ht hl C1 C2 C3 hm
 go_enter Tryd.func5, Tryd.ntmps5
 go_upto_region 1 with (fail)
 generalize hw0 : (w.alloc (.cells #[.int .u8 c.tag, .int .i64 c.most, .int .i64 c.seg, .int .i64 c.least, .int .i64 c.den, .int .i64 c.ll, .int .i64 c.rl, .int .i64 c.rh, .int .i64 c.lh] 23)).alloc (.cells #[.int .i64 s.seg, .slice wa s.ws.length wc, .slice ka s.ks.length kc, .slice va s.vs.length vc, .slice ca s.cs.length cc, .int .u64 s.laid] 29) = w0
 have P_m : Hid (PB w0 (w.heap.size) [.int .u8 c.tag, .int .i64 c.most, .int .i64 c.seg, .int .i64 c.least, .int .i64 c.den, .int .i64 c.ll, .int .i64 c.rl, .int .i64 c.rh, .int .i64 c.lh]) := by rw [← hw0]; exact hid (pb_alloc (pb_new _ _ _ (by simp)) (by simp only [World.size_alloc]; omega) _)
 have Z_m : w.heap.size < w0.heap.size := by rw [← hw0]; simp only [World.size_alloc]; omega
 have P_s : Hid (PB w0 (w.heap.size + 1) [.int .i64 s.seg, .slice wa s.ws.length wc, .slice ka s.ks.length kc, .slice va s.vs.length vc, .slice ca s.cs.length cc, .int .u64 s.laid]) := by rw [← hw0]; exact hid (pb_new _ _ _ (by simp))
 have Z_s : w.heap.size + 1 < w0.heap.size := by rw [← hw0]; simp only [World.size_alloc]; omega
 have HB0 : Hid (Below w.heap.size w w0) := by rw [← hw0]; exact hid (((Below.refl _ _).alloc (Nat.le_refl _) _).alloc (by simp) _)
 clear hw0
 go_wp2_with fail
 refine (AL.out _ HB0.out).mono ?_
 rintro e w1 ⟨rfl, hb1⟩
 replace P_m := hid (pb_below hb1 P_m.out Z_m)
 replace Z_m := Nat.lt_of_lt_of_le Z_m hb1.size
 replace P_s := hid (pb_below hb1 P_s.out Z_s)
 replace Z_s := Nat.lt_of_lt_of_le Z_s hb1.size
 have hz_w1 := hb1.size
 try simp only [World.size_alloc, World.size_setCell] at hz_w1
 have HB1 := xv hb1 HB0
 clear hb1
 go_wp2_with (first | refine wpl_load 29 (.tmp 5) (w.heap.size + 1) [.int .i64 s.seg, .slice wa s.ws.length wc, .slice ka s.ks.length kc, .slice va s.vs.length vc, .slice ca s.cs.length cc, .int .u64 s.laid] rfl rfl rfl Tryd.underlying29 rfl xk P_s.out ?_)
 go_wp2_with fail
 refine (G1.out _).mono ?_
 rintro e w2 ⟨rfl, hb2⟩
 replace P_m := hid (pb_below hb2 P_m.out Z_m)
 replace Z_m := Nat.lt_of_lt_of_le Z_m hb2.size
 replace P_s := hid (pb_below hb2 P_s.out Z_s)
 replace Z_s := Nat.lt_of_lt_of_le Z_s hb2.size
 have hz_w2 := hb2.size
 try simp only [World.size_alloc, World.size_setCell] at hz_w2
 have HB2 := xv hb2 HB1
 clear hb2 G1
 as_aux_lemma =>
 go_wp2_with (first | refine wpl_load 23 (.tmp 4) (w.heap.size) [.int .u8 c.tag, .int .i64 c.most, .int .i64 c.seg, .int .i64 c.least, .int .i64 c.den, .int .i64 c.ll, .int .i64 c.rl, .int .i64 c.rh, .int .i64 c.lh] rfl rfl rfl Tryd.underlying23 rfl xk P_m.out ?_ | refine wpl_load 29 (.tmp 5) (w.heap.size + 1) [.int .i64 s.seg, .slice wa s.ws.length wc, .slice ka s.ks.length kc, .slice va s.vs.length vc, .slice ca s.cs.length cc, .int .u64 s.laid] rfl rfl rfl Tryd.underlying29 rfl xk P_s.out ?_)
 go_wp2_with fail
 refine (PU.out _ HB2.out).mono ?_
 rintro e w3 ⟨x1, x2, x3, x4, rfl, p1, p2, p3, p4, hb3⟩
 replace P_m := hid (pb_below hb3 P_m.out Z_m)
 replace Z_m := Nat.lt_of_lt_of_le Z_m hb3.size
 replace P_s := hid (pb_below hb3 P_s.out Z_s)
 replace Z_s := Nat.lt_of_lt_of_le Z_s hb3.size
 have hz_w3 := hb3.size
 try simp only [World.size_alloc, World.size_setCell] at hz_w3
 have HB3 := xv hb3 HB2
 obtain ⟨a1, k1, rfl, i1, -, -, -, -⟩ := row_of_owns p1
 obtain ⟨a2, k2, rfl, i2, -, -, -, -⟩ := row_of_owns p2
 obtain ⟨a3, k3, rfl, i3, -, -, -, -⟩ := row_of_owns p3
 obtain ⟨a4, k4, rfl, i4, -, -, hcc, -⟩ := row_of_owns p4
 have HIx : Hid (SlIn w3 pc ⟨a1, a2, a3, a4, k1, k2, k3, k4⟩) := hid ⟨i1, i2, i3, i4, HU.out.1⟩
 have HCCx := hid hcc
 clear hb3 p1 p2 p3 p4 i1 i2 i3 i4 hcc
 as_aux_lemma =>
 go_upto_region 5 with (refine wpl_store_new 29 (.tmp 10) (.tmp 38) #[.int .i64 0, .slice none 0 0, .slice none 0 0, .slice none 0 0, .slice none 0 0, .int .u64 0] #[.int .i64 pc.seg, .slice a1 pc.ws.length k1, .slice a2 pc.ks.length k2, .slice a3 pc.vs.length k3, .slice a4 pc.cs.length k4, .int .u64 pc.laid] rfl rfl rfl rfl xk rfl (by simp [Value.oneCell']) ?_)
 generalize hw4 : w3.alloc (.cells #[.int .i64 pc.seg, .slice a1 pc.ws.length k1, .slice a2 pc.ks.length k2, .slice a3 pc.vs.length k3, .slice a4 pc.cs.length k4, .int .u64 pc.laid] 29) = w4
 replace P_m : Hid (PB w4 (w.heap.size) [.int .u8 c.tag, .int .i64 c.most, .int .i64 c.seg, .int .i64 c.least, .int .i64 c.den, .int .i64 c.ll, .int .i64 c.rl, .int .i64 c.rh, .int .i64 c.lh]) := by rw [← hw4]; exact hid (pb_alloc (P_m.out) Z_m _)
 replace Z_m : w.heap.size < w4.heap.size := by rw [← hw4]; simp only [World.size_alloc]; omega
 replace P_s : Hid (PB w4 (w.heap.size + 1) [.int .i64 s.seg, .slice wa s.ws.length wc, .slice ka s.ks.length kc, .slice va s.vs.length vc, .slice ca s.cs.length cc, .int .u64 s.laid]) := by rw [← hw4]; exact hid (pb_alloc (P_s.out) Z_s _)
 replace Z_s : w.heap.size + 1 < w4.heap.size := by rw [← hw4]; simp only [World.size_alloc]; omega
 have P_x : Hid (PB w4 (w3.heap.size) [.int .i64 pc.seg, .slice a1 pc.ws.length k1, .slice a2 pc.ks.length k2, .slice a3 pc.vs.length k3, .slice a4 pc.cs.length k4, .int .u64 pc.laid]) := by rw [← hw4]; exact hid (pb_new _ _ _ (by simp))
 have Z_x : w3.heap.size < w4.heap.size := by rw [← hw4]; simp only [World.size_alloc]; omega
 have hb4 : Below w3.heap.size w3 w4 := by rw [← hw4]; exact (Below.refl _ _).alloc (Nat.le_refl _) _
 have HB4 := xv hb4 HB3
 have D3_4 := hid (hb4)
 clear hw4 hb4
 as_aux_lemma =>
 go_wp2_with (first | refine wpl_load 23 (.tmp 4) (w.heap.size) [.int .u8 c.tag, .int .i64 c.most, .int .i64 c.seg, .int .i64 c.least, .int .i64 c.den, .int .i64 c.ll, .int .i64 c.rl, .int .i64 c.rh, .int .i64 c.lh] rfl rfl rfl Tryd.underlying23 rfl xk P_m.out ?_ | refine wpl_load 29 (.tmp 5) (w.heap.size + 1) [.int .i64 s.seg, .slice wa s.ws.length wc, .slice ka s.ks.length kc, .slice va s.vs.length vc, .slice ca s.cs.length cc, .int .u64 s.laid] rfl rfl rfl Tryd.underlying29 rfl xk P_s.out ?_)
 go_wp2_with fail
 refine (TK.out _ HB4.out).mono ?_
 rintro e w5 ⟨x1, x2, x3, x4, rfl, p1, p2, p3, p4, hb5⟩
 replace P_m := hid (pb_below hb5 P_m.out Z_m)
 replace Z_m := Nat.lt_of_lt_of_le Z_m hb5.size
 replace P_s := hid (pb_below hb5 P_s.out Z_s)
 replace Z_s := Nat.lt_of_lt_of_le Z_s hb5.size
 replace P_x := hid (pb_below hb5 P_x.out Z_x)
 replace Z_x := Nat.lt_of_lt_of_le Z_x hb5.size
 have hz_w5 := hb5.size
 try simp only [World.size_alloc, World.size_setCell] at hz_w5
 have HB5 := xv hb5 HB4
 have D3_5 := xv hb5 D3_4
 clear D3_4
 obtain ⟨b1, j1, rfl, i1, -, -, -, -⟩ := row_of_owns p1
 obtain ⟨b2, j2, rfl, i2, -, -, -, -⟩ := row_of_owns p2
 obtain ⟨b3, j3, rfl, i3, -, -, -, -⟩ := row_of_owns p3
 obtain ⟨b4, j4, rfl, i4, -, -, hcc, -⟩ := row_of_owns p4
 have HIy : Hid (SlIn w5 tc ⟨b1, b2, b3, b4, j1, j2, j3, j4⟩) := hid ⟨i1, i2, i3, i4, HU.out.2.1⟩
 have HCCy := hid hcc
 clear hb5 p1 p2 p3 p4 i1 i2 i3 i4 hcc
 as_aux_lemma =>
 go_upto_region 6 with (refine wpl_store_new 29 (.tmp 12) (.tmp 45) #[.int .i64 0, .slice none 0 0, .slice none 0 0, .slice none 0 0, .slice none 0 0, .int .u64 0] #[.int .i64 tc.seg, .slice b1 tc.ws.length j1, .slice b2 tc.ks.length j2, .slice b3 tc.vs.length j3, .slice b4 tc.cs.length j4, .int .u64 tc.laid] rfl rfl rfl rfl xk rfl (by simp [Value.oneCell']) ?_)
 generalize hw6 : w5.alloc (.cells #[.int .i64 tc.seg, .slice b1 tc.ws.length j1, .slice b2 tc.ks.length j2, .slice b3 tc.vs.length j3, .slice b4 tc.cs.length j4, .int .u64 tc.laid] 29) = w6
 replace P_m : Hid (PB w6 (w.heap.size) [.int .u8 c.tag, .int .i64 c.most, .int .i64 c.seg, .int .i64 c.least, .int .i64 c.den, .int .i64 c.ll, .int .i64 c.rl, .int .i64 c.rh, .int .i64 c.lh]) := by rw [← hw6]; exact hid (pb_alloc (P_m.out) Z_m _)
 replace Z_m : w.heap.size < w6.heap.size := by rw [← hw6]; simp only [World.size_alloc]; omega
 replace P_s : Hid (PB w6 (w.heap.size + 1) [.int .i64 s.seg, .slice wa s.ws.length wc, .slice ka s.ks.length kc, .slice va s.vs.length vc, .slice ca s.cs.length cc, .int .u64 s.laid]) := by rw [← hw6]; exact hid (pb_alloc (P_s.out) Z_s _)
 replace Z_s : w.heap.size + 1 < w6.heap.size := by rw [← hw6]; simp only [World.size_alloc]; omega
 replace P_x : Hid (PB w6 (w3.heap.size) [.int .i64 pc.seg, .slice a1 pc.ws.length k1, .slice a2 pc.ks.length k2, .slice a3 pc.vs.length k3, .slice a4 pc.cs.length k4, .int .u64 pc.laid]) := by rw [← hw6]; exact hid (pb_alloc (P_x.out) Z_x _)
 replace Z_x : w3.heap.size < w6.heap.size := by rw [← hw6]; simp only [World.size_alloc]; omega
 have P_y : Hid (PB w6 (w5.heap.size) [.int .i64 tc.seg, .slice b1 tc.ws.length j1, .slice b2 tc.ks.length j2, .slice b3 tc.vs.length j3, .slice b4 tc.cs.length j4, .int .u64 tc.laid]) := by rw [← hw6]; exact hid (pb_new _ _ _ (by simp))
 have Z_y : w5.heap.size < w6.heap.size := by rw [← hw6]; simp only [World.size_alloc]; omega
 have hb6 : Below w5.heap.size w5 w6 := by rw [← hw6]; exact (Below.refl _ _).alloc (Nat.le_refl _) _
 have HB6 := xv hb6 HB5
 have D3_6 := xv hb6 D3_5
 have D5_6 := hid (hb6)
 clear D3_5
 clear hw6 hb6
 as_aux_lemma =>
 go_wp2_with (first | refine wpl_load 23 (.tmp 4) (w.heap.size) [.int .u8 c.tag, .int .i64 c.most, .int .i64 c.seg, .int .i64 c.least, .int .i64 c.den, .int .i64 c.ll, .int .i64 c.rl, .int .i64 c.rh, .int .i64 c.lh] rfl rfl rfl Tryd.underlying23 rfl xk P_m.out ?_ | refine wpl_load 29 (.tmp 5) (w.heap.size + 1) [.int .i64 s.seg, .slice wa s.ws.length wc, .slice ka s.ks.length kc, .slice va s.vs.length vc, .slice ca s.cs.length cc, .int .u64 s.laid] rfl rfl rfl Tryd.underlying29 rfl xk P_s.out ?_)
 go_wp2_with fail
 refine (LD.out _ HB6.out).mono ?_
 rintro e w7 ⟨x1, x2, x3, x4, rfl, p1, p2, p3, p4, hb7⟩
 replace P_m := hid (pb_below hb7 P_m.out Z_m)
 replace Z_m := Nat.lt_of_lt_of_le Z_m hb7.size
 replace P_s := hid (pb_below hb7 P_s.out Z_s)
 replace Z_s := Nat.lt_of_lt_of_le Z_s hb7.size
 replace P_x := hid (pb_below hb7 P_x.out Z_x)
 replace Z_x := Nat.lt_of_lt_of_le Z_x hb7.size
 replace P_y := hid (pb_below hb7 P_y.out Z_y)
 replace Z_y := Nat.lt_of_lt_of_le Z_y hb7.size
 have hz_w7 := hb7.size
 try simp only [World.size_alloc, World.size_setCell] at hz_w7
 have HB7 := xv hb7 HB6
 have D3_7 := xv hb7 D3_6
 have D5_7 := xv hb7 D5_6
 clear D3_6 D5_6
 obtain ⟨e1, l1, rfl, i1, -, -, -, -⟩ := row_of_owns p1
 obtain ⟨e2, l2, rfl, i2, -, -, -, -⟩ := row_of_owns p2
 obtain ⟨e3, l3, rfl, i3, -, -, -, -⟩ := row_of_owns p3
 obtain ⟨e4, l4, rfl, i4, -, -, hcc, -⟩ := row_of_owns p4
 have HIz : Hid (SlIn w7 lc ⟨e1, e2, e3, e4, l1, l2, l3, l4⟩) := hid ⟨i1, i2, i3, i4, HU.out.2.2⟩
 have HCCz := hid hcc
 clear hb7 p1 p2 p3 p4 i1 i2 i3 i4 hcc
 as_aux_lemma =>
 go_upto_region 7 with (refine wpl_store_new 29 (.tmp 14) (.tmp 52) #[.int .i64 0, .slice none 0 0, .slice none 0 0, .slice none 0 0, .slice none 0 0, .int .u64 0] #[.int .i64 lc.seg, .slice e1 lc.ws.length l1, .slice e2 lc.ks.length l2, .slice e3 lc.vs.length l3, .slice e4 lc.cs.length l4, .int .u64 lc.laid] rfl rfl rfl rfl xk rfl (by simp [Value.oneCell']) ?_)
 generalize hw8 : w7.alloc (.cells #[.int .i64 lc.seg, .slice e1 lc.ws.length l1, .slice e2 lc.ks.length l2, .slice e3 lc.vs.length l3, .slice e4 lc.cs.length l4, .int .u64 lc.laid] 29) = w8
 replace P_m : Hid (PB w8 (w.heap.size) [.int .u8 c.tag, .int .i64 c.most, .int .i64 c.seg, .int .i64 c.least, .int .i64 c.den, .int .i64 c.ll, .int .i64 c.rl, .int .i64 c.rh, .int .i64 c.lh]) := by rw [← hw8]; exact hid (pb_alloc (P_m.out) Z_m _)
 replace Z_m : w.heap.size < w8.heap.size := by rw [← hw8]; simp only [World.size_alloc]; omega
 replace P_s : Hid (PB w8 (w.heap.size + 1) [.int .i64 s.seg, .slice wa s.ws.length wc, .slice ka s.ks.length kc, .slice va s.vs.length vc, .slice ca s.cs.length cc, .int .u64 s.laid]) := by rw [← hw8]; exact hid (pb_alloc (P_s.out) Z_s _)
 replace Z_s : w.heap.size + 1 < w8.heap.size := by rw [← hw8]; simp only [World.size_alloc]; omega
 replace P_x : Hid (PB w8 (w3.heap.size) [.int .i64 pc.seg, .slice a1 pc.ws.length k1, .slice a2 pc.ks.length k2, .slice a3 pc.vs.length k3, .slice a4 pc.cs.length k4, .int .u64 pc.laid]) := by rw [← hw8]; exact hid (pb_alloc (P_x.out) Z_x _)
 replace Z_x : w3.heap.size < w8.heap.size := by rw [← hw8]; simp only [World.size_alloc]; omega
 replace P_y : Hid (PB w8 (w5.heap.size) [.int .i64 tc.seg, .slice b1 tc.ws.length j1, .slice b2 tc.ks.length j2, .slice b3 tc.vs.length j3, .slice b4 tc.cs.length j4, .int .u64 tc.laid]) := by rw [← hw8]; exact hid (pb_alloc (P_y.out) Z_y _)
 replace Z_y : w5.heap.size < w8.heap.size := by rw [← hw8]; simp only [World.size_alloc]; omega
 have P_z : Hid (PB w8 (w7.heap.size) [.int .i64 lc.seg, .slice e1 lc.ws.length l1, .slice e2 lc.ks.length l2, .slice e3 lc.vs.length l3, .slice e4 lc.cs.length l4, .int .u64 lc.laid]) := by rw [← hw8]; exact hid (pb_new _ _ _ (by simp))
 have Z_z : w7.heap.size < w8.heap.size := by rw [← hw8]; simp only [World.size_alloc]; omega
 have hb8 : Below w7.heap.size w7 w8 := by rw [← hw8]; exact (Below.refl _ _).alloc (Nat.le_refl _) _
 have HB8 := xv hb8 HB7
 have D3_8 := xv hb8 D3_7
 have D5_8 := xv hb8 D5_7
 have D7_8 := hid (hb8)
 clear D3_7 D5_7
 clear hw8 hb8
 as_aux_lemma =>
 have CK7 := fun he : pe = 0 => hid (fun W' (h : Below w8.heap.size w8 W') => (HC.out.1 he).out W' ⟨a1, a2, a3, a4, k1, k2, k3, k4⟩ ((HIx.out.below D3_8.out).below h) HCCx.out)
 dsimp only [slV] at CK7
 refine Code.wp_mono ?_ (GD_r7 w8 _ _ _ _ _ _ _ _ _ _ _ _ _ _ _ _ _ _ _ _ _ _ _ _ _ _ _ _ _ _ _ _ _ _ _ _ _ _ _ _ _ _ _ _ _ _ _ _ _ _ _ _ _ _ _ _ _ _ _ _ _ _ _ _ _ _ _ _ _ _ _ _ _ _ _ _ _ _ _ _ _ _ _ _ _ _ _ _ _ _ _ _ _ _ _ _ _ _ _ _ _ _ _ _ _ _ _ _ _ _ _ _ _ _ _ _ _ _ c pc _ _ _ _ _ _ _ _ pe P_m P_x HE.out.1 CK7)
 intro e a' w9 hq
 cases e with
 | exit id => exact hq.elim
 | goto l => exact hq.elim
 | ret => exact hq.elim
 | panic ch => exact hq.elim
 | outgrown => exact hq.elim
 | normal =>
 obtain ⟨hbq, u54, u55, u56, u57, u58, u59, u60, u61, u62, u63, u64, u65, u66, u67, u68, u69, u70, u71, rfl⟩ := hq
 clear CK7
 replace P_m := hid (pb_below hbq P_m.out Z_m)
 replace Z_m := Nat.lt_of_lt_of_le Z_m hbq.size
 replace P_y := hid (pb_below hbq P_y.out Z_y)
 replace Z_y := Nat.lt_of_lt_of_le Z_y hbq.size
 replace P_z := hid (pb_below hbq P_z.out Z_z)
 replace Z_z := Nat.lt_of_lt_of_le Z_z hbq.size
 have hz_w9 := hbq.size
 try simp only [World.size_alloc, World.size_setCell] at hz_w9
 have HB9 := xv hbq HB8
 have D3_9 := xv hbq D3_8
 have D5_9 := xv hbq D5_8
 have D7_9 := xv hbq D7_8
 clear D3_8 D5_8 D7_8
 clear hbq
 go_upto_region 8 with (fail)
 as_aux_lemma =>
 have CK8 := fun he : te = 0 => hid (fun W' (h : Below w9.heap.size w9 W') => (HC.out.2.1 he).out W' ⟨b1, b2, b3, b4, j1, j2, j3, j4⟩ ((HIy.out.below D5_9.out).below h) HCCy.out)
 dsimp only [slV] at CK8
 refine Code.wp_mono ?_ (GD_r8 w9 _ _ _ _ _ _ _ _ _ _ _ _ _ _ _ _ _ _ _ _ _ _ _ _ _ _ _ _ _ _ _ _ _ _ _ _ _ _ _ _ _ _ _ _ _ _ _ _ _ _ _ _ _ _ _ _ _ _ _ _ _ _ _ _ _ _ _ _ _ _ _ _ _ _ _ _ _ _ _ _ _ _ _ _ _ _ _ _ _ _ _ _ _ _ _ _ _ _ _ _ _ _ _ _ _ _ _ _ _ _ _ _ _ _ _ _ _ _ c tc _ _ _ _ _ _ _ _ te P_m P_y HE.out.2.1 CK8)
 intro e a' w10 hq
 cases e with
 | exit id => exact hq.elim
 | goto l => exact hq.elim
 | ret => exact hq.elim
 | panic ch => exact hq.elim
 | outgrown => exact hq.elim
 | normal =>
 obtain ⟨hbq, u72, u73, u74, u75, u76, u77, u78, u79, u80, u81, u82, u83, u84, u85, u86, u87, u88, u89, rfl⟩ := hq
 clear CK8
 replace P_m := hid (pb_below hbq P_m.out Z_m)
 replace Z_m := Nat.lt_of_lt_of_le Z_m hbq.size
 replace P_z := hid (pb_below hbq P_z.out Z_z)
 replace Z_z := Nat.lt_of_lt_of_le Z_z hbq.size
 have hz_w10 := hbq.size
 try simp only [World.size_alloc, World.size_setCell] at hz_w10
 have HB10 := xv hbq HB9
 have D3_10 := xv hbq D3_9
 have D5_10 := xv hbq D5_9
 have D7_10 := xv hbq D7_9
 clear D3_9 D5_9 D7_9
 clear hbq
 go_upto_region 9 with (fail)
 as_aux_lemma =>
 have CK9 := fun he : le_ = 0 => hid (fun W' (h : Below w10.heap.size w10 W') => (HC.out.2.2 he).out W' ⟨e1, e2, e3, e4, l1, l2, l3, l4⟩ ((HIz.out.below D7_10.out).below h) HCCz.out)
 dsimp only [slV] at CK9
 refine Code.wp_mono ?_ (GD_r9 w10 _ _ _ _ _ _ _ _ _ _ _ _ _ _ _ _ _ _ _ _ _ _ _ _ _ _ _ _ _ _ _ _ _ _ _ _ _ _ _ _ _ _ _ _ _ _ _ _ _ _ _ _ _ _ _ _ _ _ _ _ _ _ _ _ _ _ _ _ _ _ _ _ _ _ _ _ _ _ _ _ _ _ _ _ _ _ _ _ _ _ _ _ _ _ _ _ _ _ _ _ _ _ _ _ _ _ _ _ _ _ _ _ _ _ _ _ _ _ c lc _ _ _ _ _ _ _ _ le_ P_m P_z HE.out.2.2 CK9)
 intro e a' w11 hq
 cases e with
 | exit id => exact hq.elim
 | goto l => exact hq.elim
 | ret => exact hq.elim
 | panic ch => exact hq.elim
 | outgrown => exact hq.elim
 | normal =>
 obtain ⟨hbq, u90, u91, u92, u93, u94, u95, u96, u97, u98, u99, u100, u101, u102, u103, u104, u105, u106, u107, rfl⟩ := hq
 clear CK9
 have hz_w11 := hbq.size
 try simp only [World.size_alloc, World.size_setCell] at hz_w11
 have HB11 := xv hbq HB10
 have D3_11 := xv hbq D3_10
 have D5_11 := xv hbq D5_10
 have D7_11 := xv hbq D7_10
 clear D3_10 D5_10 D7_10
 clear hbq
 as_aux_lemma =>
 go_wp2
 go_ret
 exact ⟨rfl, HB11.out⟩
theorem gr4_of {n lk lv lw lc : Nat} (h : gr4 n lk lv lw lc = false) : lk ≤ n ∧ lv ≤ n ∧ lw ≤ n ∧ lc ≤ n := by
 simp only [gr4, Bool.or_eq_false_iff, decide_eq_false_iff_not] at h
 omega
theorem load_numsD (c : Cfg) (s : SlC) (L : List (Int × Int)) : (loadC c s L).ws.length ≤ 1000000 ∧ (loadC c s L).ks.length ≤ 1000000 ∧ (loadC c s L).vs.length ≤ 1000000 ∧ (loadC c s L).cs.length ≤ 1000000 ∧ U64s (loadC c s L).ws := by
 unfold loadC
 split
 · rename_i h
   obtain ⟨hc, a, H, k, hs, -, -⟩ := gap_zero h.1
   obtain ⟨e1, e2, e3, e4, e5, e6⟩ := cap_facts k h.2
   obtain ⟨p1, p2, p3, p4, p5, p6⟩ := k.pows
   rw [e1]
   exact gd_nums ((emptyL_gd p1 p2 e3 e4 s.laid).sp (Nat.zero_le _) (Nat.le_refl _) xo)
 · exact nil_nums
theorem loadC_no {c : Cfg} {s : SlC} {L : List (Int × Int)} (h : loadE c s L ≠ 0) : loadC c s L = nilC := by
 unfold loadC
 rw [if_neg]
 rintro ⟨h1, h2⟩
 exact h (by rw [loadE, if_pos h1, if_pos h2])
theorem GapDense_walk (w : World) (c : Cfg) (s : SlC) (sa : SlA) (hin : SlIn w s sa) (hcs : s.cs.length ≤ sa.cc) (hl0 : 0 ≤ s.laid) (hl1 : s.laid < 18446744073709551616) (k : Int) (la : Option Addr) (pl : Nat) (L : List (Int × Int)) (hla : IsRow .i64 w la (prI L)) (hn : la = none → pl = 0) (hT : TabAt w) :
    Calls Tryd.prog 5 #[cfV c, slV s sa, .int .i64 k, .slice la L.length pl] w (AnsB w (.bool true)) := by
 have AL : Hid (∀ (W : World), Below w.heap.size w W → Calls Tryd.prog 7 #[] W (AnsB W (.bool true))) := hid fun W hb => alive9_ok W (hT.below hb)
 cases hgr : gr4 600 s.ks.length s.vs.length s.ws.length s.cs.length with
 | true => exact GD_great c s _ _ _ _ _ _ _ _ la L.length pl k hgr w AL
 | false =>
  by_cases hm : 300 < L.length
  · exact GD_many c s _ _ _ _ _ _ _ _ la L.length pl k hgr hm w AL
  · have g := gr4_of hgr
    have n2 := put_nums c s hin.u k (3, 4)
    have n3 := take_nums c s hin.u k
    have n4 := load_numsD c s L
    exact GD_in c s _ _ _ _ _ _ _ _ la L.length pl k (putC c s k (3, 4)) (takC c s k) (loadC c s L) (putE c s k) (takE c s k) (loadE c s L) hgr hm n2.2.2.2.2 n3.2.2.2.2 n4.2.2.2.2
      (fun h => by rw [putC, if_neg h]; rfl) (fun h => by rw [takC, if_neg h]; rfl) (fun h => by rw [loadC_no h]; rfl) w AL
      (hid fun W hb => gapPut_ok c s sa xo xo hcs k 3 4 W (hin.below hb) (hT.below hb))
      (hid fun W hb => gapTake_ok c s sa xo xo hcs k W (hin.below hb) (hT.below hb))
      (hid fun W hb => gapLoad_ok c s sa xo xo hcs L la pl W (hin.below hb) (hla.below hb))
      (fun h => hid fun W a2 hi hc => by have := gapCheck_ok c (putC c s k (3, 4)) a2 xo xo hc W hi; rwa [(put_res hin.u (3, 4) h).1] at this)
      (fun h => hid fun W a2 hi hc => by have := gapCheck_ok c (takC c s k) a2 xo xo hc W hi; rwa [(take_res hin.u h).1] at this)
      (fun h => hid fun W a2 hi hc => by have := gapCheck_ok c (loadC c s L) a2 xo xo hc W hi; rwa [(load_res h).1] at this)
end
section
open Go.ChangeShapes Go.WideShapes Go.ChangeAt Go.RowKit Go.Joins
end
section
open Go.ChangeShapes Go.WideShapes Go.ChangeAt Go.RowKit Go.Joins
theorem open_rowK {H : Type} {enc : TypeId × Value → H} {w : World} {fuel : Nat} {base : Nat} {spare : Nat → Bool} {held : Bool} {t e : TypeId} {k : IntKind} {cs : List Value} {x : DataW H × List MemPlace}
    (ht : Tryd.prog.underlying t = some (.slice e)) (he : Tryd.prog.underlying e = some (.int k)) (hc : Tryd.prog.cellsOf e = 1) (h : DataW.trod enc Tryd.prog w base spare held fuel t cs = some x) :
    ∃ (ao : Option Addr) (xs : List Int) (cap : Nat), cs = [.slice ao xs.length cap] ∧ IsRow k w ao xs ∧ (ao = none → cap = 0) ∧ xs.length ≤ maxLen ∧ (∀ n ∈ xs, (Lit.int k n).wf = true) := by
 rcases open_ints ht he hc h with ⟨rfl, rfl⟩ | ⟨a, len, cap, zs, rfl, hb, hl, hm, hz, rfl, hc, hw⟩
 · exact ⟨none, [], 0, rfl, fun i hi => by simp at hi, fun _ => rfl, by simp, by simp⟩
 · have hlen : len ≤ zs.length := by rw [hz]; split <;> omega
   refine ⟨some a, zs.take len, cap, by simp [hlen], ?_, fun h => (by cases h), by simp; omega, fun n hn => hw n (List.mem_of_mem_take hn)⟩
   intro i hi
   have hi' : i < len := by simp at hi; omega
   obtain ⟨b, off, sp⟩ := a
   have h0 := hc 0 xo
   obtain rfl : sp = none := by simpa [Addr.add] using World.cell?_spot h0
   refine ⟨b, off, rfl, ?_, fun j hj => ?_⟩
   · have := World.block_lt_of_cell? w _ h0
     simpa [Addr.add] using this
   · have hj' : j < len := by simp at hj; omega
     have := hc j xo
     rw [Addr.add_lit] at this
     rw [this]
     simp [List.getD_eq_getElem?_getD, List.getElem?_take, hj']
end
section
open Go.ChangeShapes Go.WideShapes Go.ChangeAt Go.RowKit Go.Joins Go.Deep Go.WideElems
theorem array_six {α : Type} {cs : Array α} (h : cs.size = 6) : ∃ c0 c1 c2 c3 c4 c5, cs = #[c0, c1, c2, c3, c4, c5] := by
 obtain ⟨l⟩ := cs
 match l, h with
 | [c0, c1, c2, c3, c4, c5], _ => exact ⟨c0, c1, c2, c3, c4, c5, rfl⟩
theorem trod_struct_six {P : Program} {H : Type} {enc : TypeId × Value → H} {w : World} {base : Nat} {spare : Nat → Bool} {held : Bool} {t : TypeId} {f0 f1 f2 f3 f4 f5 : Field} {fuel : Nat} {cs : List Value} {x : DataW H × List MemPlace} (ht : P.underlying t = some (.struct #[f0, f1, f2, f3, f4, f5])) (h : DataW.trod enc P w base spare held fuel t cs = some x) :
    ∃ y0 y1 y2 y3 y4 y5 n, DataW.trod enc P w base spare held n f0.type ((cs.drop f0.offset).take (P.cellsOf f0.type)) = some y0 ∧ DataW.trod enc P w base spare held n f1.type ((cs.drop f1.offset).take (P.cellsOf f1.type)) = some y1 ∧ DataW.trod enc P w base spare held n f2.type ((cs.drop f2.offset).take (P.cellsOf f2.type)) = some y2 ∧
      DataW.trod enc P w base spare held n f3.type ((cs.drop f3.offset).take (P.cellsOf f3.type)) = some y3 ∧ DataW.trod enc P w base spare held n f4.type ((cs.drop f4.offset).take (P.cellsOf f4.type)) = some y4 ∧ DataW.trod enc P w base spare held n f5.type ((cs.drop f5.offset).take (P.cellsOf f5.type)) = some y5 := by
 obtain ⟨xs, n, _, rfl, hl, hlen, hf⟩ := DataW.trod_struct ht h
 match xs, hlen with
 | [y0, y1, y2, y3, y4, y5], _ => exact ⟨y0, y1, y2, y3, y4, y5, n, by simpa using hf 0 f0 rfl, by simpa using hf 1 f1 rfl, by simpa using hf 2 f2 rfl, by simpa using hf 3 f3 rfl, by simpa using hf 4 f4 rfl, by simpa using hf 5 f5 rfl⟩
theorem open_six {P : Program} {H : Type} {enc : TypeId × Value → H} {w : World} {base : Nat} {spare : Nat → Bool} {held : Bool} {r : Reach} {b0 : Nat} {t : TypeId} {f0 f1 f2 f3 f4 f5 : Field} {v : Value} {d : DataW H} {p : List MemPlace} (hs : P.underlying t = some (.struct #[f0, f1, f2, f3, f4, f5])) (hone : oneCellFields P #[f0, f1, f2, f3, f4, f5] = true) (hC : P.cellsOf t = 6)
    (hv : Value.okWide P w r b0 t v) (h : DataW.Trod enc P w base spare held t v d p) :
    ∃ (v0 v1 v2 v3 v4 v5 : Value) (y0 y1 y2 y3 y4 y5 : DataW H × List MemPlace) (n : Nat), v = .agg #[v0, v1, v2, v3, v4, v5] ∧
      DataW.trod enc P w base spare held n f0.type [v0] = some y0 ∧ DataW.trod enc P w base spare held n f1.type [v1] = some y1 ∧ DataW.trod enc P w base spare held n f2.type [v2] = some y2 ∧ DataW.trod enc P w base spare held n f3.type [v3] = some y3 ∧ DataW.trod enc P w base spare held n f4.type [v4] = some y4 ∧ DataW.trod enc P w base spare held n f5.type [v5] = some y5 := by
 obtain ⟨cs, rfl, hsz⟩ := okWide_struct hs hv
 obtain ⟨c0, c1, c2, c3, c4, c5, rfl⟩ := array_six (hsz.trans hC)
 obtain ⟨fuel, hf⟩ := h
 obtain ⟨y0, y1, y2, y3, y4, y5, n, h0, h1, h2, h3, h4, h5⟩ := trod_struct_six hs hf
 obtain ⟨o0, k0⟩ := hone_of hone 0 f0 rfl
 obtain ⟨o1, k1⟩ := hone_of hone 1 f1 rfl
 obtain ⟨o2, k2⟩ := hone_of hone 2 f2 rfl
 obtain ⟨o3, k3⟩ := hone_of hone 3 f3 rfl
 obtain ⟨o4, k4⟩ := hone_of hone 4 f4 rfl
 obtain ⟨o5, k5⟩ := hone_of hone 5 f5 rfl
 exact ⟨c0, c1, c2, c3, c4, c5, y0, y1, y2, y3, y4, y5, n, rfl, by simpa [Value.cells, o0, k0] using h0, by simpa [Value.cells, o1, k1] using h1, by simpa [Value.cells, o2, k2] using h2, by simpa [Value.cells, o3, k3] using h3, by simpa [Value.cells, o4, k4] using h4, by simpa [Value.cells, o5, k5] using h5⟩
theorem u64_wf {n : Int} (h : (Lit.int .u64 n).wf = true) : 0 ≤ n ∧ n < 18446744073709551616 := by
 simp [Lit.wf, IntKind.min, IntKind.max, IntKind.signed, IntKind.bits] at h
 omega
end
end Go.Proofs.YtookgoidlnlckaaDoor

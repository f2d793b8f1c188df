/- Merged: GapOrder. -/
import Derived.Test.YtookgoidlnlckaaDoorGapOrderP22
import Derived.Test.YtookgoidlnlckaaDoorGapOrderP31
import Derived.Test.YtookgoidlnlckaaDoorGapOrderP32
import Derived.Test.YtookgoidlnlckaaDoorGapOrderP13
namespace Go.Proofs.YtookgoidlnlckaaDoor
set_option maxRecDepth 100000
set_option maxHeartbeats 40000000
set_option linter.unusedVariables false
set_option linter.unusedSimpArgs false
section
open Go.RowKit Go.Shelf Go.Sort
theorem GO_great (c : Cfg) (s : SlC) (wa ka va ca : Option Addr) (wc kc vc cc : Nat) (la : Option Addr) (m pl : Nat) (k : Int) (h : gr4 600 s.ks.length s.vs.length s.ws.length s.cs.length = true) (w : World)
    (AL : Hid (∀ (W : World), Below w.heap.size w W → Calls Tryd.prog 7 #[] W (AnsB W (.bool true)))) :
    Calls Tryd.prog 6 #[.agg #[.int .u8 c.tag, .int .i64 c.most, .int .i64 c.seg, .int .i64 c.least, .int .i64 c.den, .int .i64 c.ll, .int .i64 c.rl, .int .i64 c.rh, .int .i64 c.lh], .agg #[.int .i64 s.seg, .slice wa s.ws.length wc, .slice ka s.ks.length kc, .slice va s.vs.length vc, .slice ca s.cs.length cc, .int .u64 s.laid], .int .i64 k, .slice la m pl] w (AnsB w (.bool true)) := by
 have G1 := hid (fun W => Great04_ok s.seg wa ka va ca wc kc vc cc s.ws.length s.ks.length s.vs.length s.cs.length s.laid 600 W)
 rw [h] at G1
 clear h
 go_enter Tryd.func6, Tryd.ntmps6
 go_upto_region 1 with (fail)
 generalize hw0 : (w.alloc (.cells #[.int .u8 c.tag, .int .i64 c.most, .int .i64 c.seg, .int .i64 c.least, .int .i64 c.den, .int .i64 c.ll, .int .i64 c.rl, .int .i64 c.rh, .int .i64 c.lh] 23)).alloc (.cells #[.int .i64 s.seg, .slice wa s.ws.length wc, .slice ka s.ks.length kc, .slice va s.vs.length vc, .slice ca s.cs.length cc, .int .u64 s.laid] 29) = w0
 have P_m : Hid (PB w0 (w.heap.size) [.int .u8 c.tag, .int .i64 c.most, .int .i64 c.seg, .int .i64 c.least, .int .i64 c.den, .int .i64 c.ll, .int .i64 c.rl, .int .i64 c.rh, .int .i64 c.lh]) := by rw [← hw0]; exact hid (pb_alloc (pb_new _ _ _ (by simp)) (by simp only [World.size_alloc]; omega) _)
 have Z_m : w.heap.size < w0.heap.size := by rw [← hw0]; simp only [World.size_alloc]; omega
 have P_s : Hid (PB w0 (w.heap.size + 1) [.int .i64 s.seg, .slice wa s.ws.length wc, .slice ka s.ks.length kc, .slice va s.vs.length vc, .slice ca s.cs.length cc, .int .u64 s.laid]) := by rw [← hw0]; exact hid (pb_new _ _ _ (by simp))
 have Z_s : w.heap.size + 1 < w0.heap.size := by rw [← hw0]; simp only [World.size_alloc]; omega
 have HB0 : Hid (Below w.heap.size w w0) := by rw [← hw0]; exact hid (((Below.refl _ _).alloc (Nat.le_refl _) _).alloc (by simp) _)
 clear hw0
 go_wp2_with fail
 refine (AL.out _ HB0.out).mono ?_
 rintro e w1 ⟨rfl, hb1⟩
 replace P_m := hid (pb_below hb1 P_m.out Z_m)
 replace Z_m := Nat.lt_of_lt_of_le Z_m hb1.size
 replace P_s := hid (pb_below hb1 P_s.out Z_s)
 replace Z_s := Nat.lt_of_lt_of_le Z_s hb1.size
 have hz_w1 := hb1.size
 try simp only [World.size_alloc, World.size_setCell] at hz_w1
 have HB1 := xv hb1 HB0
 clear hb1
 go_upto_region 3 with (refine wpl_store_new 31 (.tmp 10) (.tmp 30) #[.int .i64 0, .int .i64 0] #[.int .i64 3, .int .i64 4] rfl rfl rfl rfl xk rfl (by simp [Value.oneCell']) ?_)
 generalize hw2 : w1.alloc (.cells #[.int .i64 3, .int .i64 4] 31) = w2
 replace P_m : Hid (PB w2 (w.heap.size) [.int .u8 c.tag, .int .i64 c.most, .int .i64 c.seg, .int .i64 c.least, .int .i64 c.den, .int .i64 c.ll, .int .i64 c.rl, .int .i64 c.rh, .int .i64 c.lh]) := by rw [← hw2]; exact hid (pb_alloc (P_m.out) Z_m _)
 replace Z_m : w.heap.size < w2.heap.size := by rw [← hw2]; simp only [World.size_alloc]; omega
 replace P_s : Hid (PB w2 (w.heap.size + 1) [.int .i64 s.seg, .slice wa s.ws.length wc, .slice ka s.ks.length kc, .slice va s.vs.length vc, .slice ca s.cs.length cc, .int .u64 s.laid]) := by rw [← hw2]; exact hid (pb_alloc (P_s.out) Z_s _)
 replace Z_s : w.heap.size + 1 < w2.heap.size := by rw [← hw2]; simp only [World.size_alloc]; omega
 have P_p : Hid (PB w2 (w1.heap.size) [.int .i64 3, .int .i64 4]) := by rw [← hw2]; exact hid (pb_new _ _ _ (by simp))
 have Z_p : w1.heap.size < w2.heap.size := by rw [← hw2]; simp only [World.size_alloc]; omega
 have hb2 : Below w1.heap.size w1 w2 := by rw [← hw2]; exact (Below.refl _ _).alloc (Nat.le_refl _) _
 have HB2 := xv hb2 HB1
 clear hw2 hb2
 go_wp2_with (first | refine wpl_load 29 (.tmp 5) (w.heap.size + 1) [.int .i64 s.seg, .slice wa s.ws.length wc, .slice ka s.ks.length kc, .slice va s.vs.length vc, .slice ca s.cs.length cc, .int .u64 s.laid] rfl rfl rfl Tryd.underlying29 rfl xk P_s.out ?_)
 go_wp2_with fail
 refine (G1.out _).mono ?_
 rintro e w3 ⟨rfl, hb3⟩
 replace P_m := hid (pb_below hb3 P_m.out Z_m)
 replace Z_m := Nat.lt_of_lt_of_le Z_m hb3.size
 replace P_s := hid (pb_below hb3 P_s.out Z_s)
 replace Z_s := Nat.lt_of_lt_of_le Z_s hb3.size
 replace P_p := hid (pb_below hb3 P_p.out Z_p)
 replace Z_p := Nat.lt_of_lt_of_le Z_p hb3.size
 have hz_w3 := hb3.size
 try simp only [World.size_alloc, World.size_setCell] at hz_w3
 have HB3 := xv hb3 HB2
 clear hb3 G1
 go_wp2
 go_ret
 exact ⟨rfl, HB3.out⟩
theorem GO_many (c : Cfg) (s : SlC) (wa ka va ca : Option Addr) (wc kc vc cc : Nat) (la : Option Addr) (m pl : Nat) (k : Int) (h : gr4 600 s.ks.length s.vs.length s.ws.length s.cs.length = false) (hm : 300 < m) (w : World)
    (AL : Hid (∀ (W : World), Below w.heap.size w W → Calls Tryd.prog 7 #[] W (AnsB W (.bool true)))) :
    Calls Tryd.prog 6 #[.agg #[.int .u8 c.tag, .int .i64 c.most, .int .i64 c.seg, .int .i64 c.least, .int .i64 c.den, .int .i64 c.ll, .int .i64 c.rl, .int .i64 c.rh, .int .i64 c.lh], .agg #[.int .i64 s.seg, .slice wa s.ws.length wc, .slice ka s.ks.length kc, .slice va s.vs.length vc, .slice ca s.cs.length cc, .int .u64 s.laid], .int .i64 k, .slice la m pl] w (AnsB w (.bool true)) := by
 have G1 := hid (fun W => Great04_ok s.seg wa ka va ca wc kc vc cc s.ws.length s.ks.length s.vs.length s.cs.length s.laid 600 W)
 rw [h] at G1
 clear h
 have g2 : decide ((300 : Int) < (m : Int)) = true := by rw [decide_eq_true_eq]; omega
 go_enter Tryd.func6, Tryd.ntmps6
 go_upto_region 1 with (fail)
 generalize hw0 : (w.alloc (.cells #[.int .u8 c.tag, .int .i64 c.most, .int .i64 c.seg, .int .i64 c.least, .int .i64 c.den, .int .i64 c.ll, .int .i64 c.rl, .int .i64 c.rh, .int .i64 c.lh] 23)).alloc (.cells #[.int .i64 s.seg, .slice wa s.ws.length wc, .slice ka s.ks.length kc, .slice va s.vs.length vc, .slice ca s.cs.length cc, .int .u64 s.laid] 29) = w0
 have P_m : Hid (PB w0 (w.heap.size) [.int .u8 c.tag, .int .i64 c.most, .int .i64 c.seg, .int .i64 c.least, .int .i64 c.den, .int .i64 c.ll, .int .i64 c.rl, .int .i64 c.rh, .int .i64 c.lh]) := by rw [← hw0]; exact hid (pb_alloc (pb_new _ _ _ (by simp)) (by simp only [World.size_alloc]; omega) _)
 have Z_m : w.heap.size < w0.heap.size := by rw [← hw0]; simp only [World.size_alloc]; omega
 have P_s : Hid (PB w0 (w.heap.size + 1) [.int .i64 s.seg, .slice wa s.ws.length wc, .slice ka s.ks.length kc, .slice va s.vs.length vc, .slice ca s.cs.length cc, .int .u64 s.laid]) := by rw [← hw0]; exact hid (pb_new _ _ _ (by simp))
 have Z_s : w.heap.size + 1 < w0.heap.size := by rw [← hw0]; simp only [World.size_alloc]; omega
 have HB0 : Hid (Below w.heap.size w w0) := by rw [← hw0]; exact hid (((Below.refl _ _).alloc (Nat.le_refl _) _).alloc (by simp) _)
 clear hw0
 go_wp2_with fail
 refine (AL.out _ HB0.out).mono ?_
 rintro e w1 ⟨rfl, hb1⟩
 replace P_m := hid (pb_below hb1 P_m.out Z_m)
 replace Z_m := Nat.lt_of_lt_of_le Z_m hb1.size
 replace P_s := hid (pb_below hb1 P_s.out Z_s)
 replace Z_s := Nat.lt_of_lt_of_le Z_s hb1.size
 have hz_w1 := hb1.size
 try simp only [World.size_alloc, World.size_setCell] at hz_w1
 have HB1 := xv hb1 HB0
 clear hb1
 go_upto_region 3 with (refine wpl_store_new 31 (.tmp 10) (.tmp 30) #[.int .i64 0, .int .i64 0] #[.int .i64 3, .int .i64 4] rfl rfl rfl rfl xk rfl (by simp [Value.oneCell']) ?_)
 generalize hw2 : w1.alloc (.cells #[.int .i64 3, .int .i64 4] 31) = w2
 replace P_m : Hid (PB w2 (w.heap.size) [.int .u8 c.tag, .int .i64 c.most, .int .i64 c.seg, .int .i64 c.least, .int .i64 c.den, .int .i64 c.ll, .int .i64 c.rl, .int .i64 c.rh, .int .i64 c.lh]) := by rw [← hw2]; exact hid (pb_alloc (P_m.out) Z_m _)
 replace Z_m : w.heap.size < w2.heap.size := by rw [← hw2]; simp only [World.size_alloc]; omega
 replace P_s : Hid (PB w2 (w.heap.size + 1) [.int .i64 s.seg, .slice wa s.ws.length wc, .slice ka s.ks.length kc, .slice va s.vs.length vc, .slice ca s.cs.length cc, .int .u64 s.laid]) := by rw [← hw2]; exact hid (pb_alloc (P_s.out) Z_s _)
 replace Z_s : w.heap.size + 1 < w2.heap.size := by rw [← hw2]; simp only [World.size_alloc]; omega
 have P_p : Hid (PB w2 (w1.heap.size) [.int .i64 3, .int .i64 4]) := by rw [← hw2]; exact hid (pb_new _ _ _ (by simp))
 have Z_p : w1.heap.size < w2.heap.size := by rw [← hw2]; simp only [World.size_alloc]; omega
 have hb2 : Below w1.heap.size w1 w2 := by rw [← hw2]; exact (Below.refl _ _).alloc (Nat.le_refl _) _
 have HB2 := xv hb2 HB1
 clear hw2 hb2
 go_wp2_with (first | refine wpl_load 29 (.tmp 5) (w.heap.size + 1) [.int .i64 s.seg, .slice wa s.ws.length wc, .slice ka s.ks.length kc, .slice va s.vs.length vc, .slice ca s.cs.length cc, .int .u64 s.laid] rfl rfl rfl Tryd.underlying29 rfl xk P_s.out ?_)
 go_wp2_with fail
 refine (G1.out _).mono ?_
 rintro e w3 ⟨rfl, hb3⟩
 replace P_m := hid (pb_below hb3 P_m.out Z_m)
 replace Z_m := Nat.lt_of_lt_of_le Z_m hb3.size
 replace P_s := hid (pb_below hb3 P_s.out Z_s)
 replace Z_s := Nat.lt_of_lt_of_le Z_s hb3.size
 replace P_p := hid (pb_below hb3 P_p.out Z_p)
 replace Z_p := Nat.lt_of_lt_of_le Z_p hb3.size
 have hz_w3 := hb3.size
 try simp only [World.size_alloc, World.size_setCell] at hz_w3
 have HB3 := xv hb3 HB2
 clear hb3 G1
 go_wp2
 go_ret
 exact ⟨rfl, HB3.out⟩
theorem GO_in (c : Cfg) (s : SlC) (wa ka va ca : Option Addr) (wc kc vc cc : Nat) (la : Option Addr) (m pl : Nat) (k : Int) (was now yl ll : List (Int × Int)) (wb lb : Bool) (pc bc tc lc : SlC) (pe te le_ : Int) (w : World) (h : gr4 600 s.ks.length s.vs.length s.ws.length s.cs.length = false) (hm : ¬ 300 < m) (hpu : U64s pc.ws) (hbu : U64s bc.ws) (htu : U64s tc.ws) (hlu : U64s lc.ws) (hwl : was.length ≤ 100000)
    (hp : pe = 0 → wb = true ∧ ∃ n : Nat, k = n ∧ n ≤ was.length ∧ now = insL was n (3, 4)) (ht : te = 0 → wb = true ∧ ∃ n : Nat, k = n ∧ n < was.length ∧ yl = delL was n) (hl : le_ = 0 → lb = true ∧ IsRow .i64 w la (prI ll) ∧ ll.length = m ∧ lc.laid = IntKind.u64.wrap (s.laid + (m : Int)))
    (AL : Hid (∀ (W : World), Below w.heap.size w W → Calls Tryd.prog 7 #[] W (AnsB W (.bool true))))
    (AW : Hid (∀ (W : World), Below w.heap.size w W → Calls Tryd.prog 19 #[.agg #[.int .i64 s.seg, .slice wa s.ws.length wc, .slice ka s.ks.length kc, .slice va s.vs.length vc, .slice ca s.cs.length cc, .int .u64 s.laid]] W (FreshPr2 W was (.bool wb))))
    (PU : Hid (∀ (W : World), Below w.heap.size w W → Calls Tryd.prog 9 #[.agg #[.int .u8 c.tag, .int .i64 c.most, .int .i64 c.seg, .int .i64 c.least, .int .i64 c.den, .int .i64 c.ll, .int .i64 c.rl, .int .i64 c.rh, .int .i64 c.lh], .agg #[.int .i64 s.seg, .slice wa s.ws.length wc, .slice ka s.ks.length kc, .slice va s.vs.length vc, .slice ca s.cs.length cc, .int .u64 s.laid], .int .i64 k, .agg #[.int .i64 3, .int .i64 4]] W (FreshSl2 W pc (.int .i64 pe))))
    (TK : Hid (∀ (W : World), Below w.heap.size w W → Calls Tryd.prog 13 #[.agg #[.int .u8 c.tag, .int .i64 c.most, .int .i64 c.seg, .int .i64 c.least, .int .i64 c.den, .int .i64 c.ll, .int .i64 c.rl, .int .i64 c.rh, .int .i64 c.lh], .agg #[.int .i64 s.seg, .slice wa s.ws.length wc, .slice ka s.ks.length kc, .slice va s.vs.length vc, .slice ca s.cs.length cc, .int .u64 s.laid], .int .i64 k] W (FreshSl2 W tc (.int .i64 te))))
    (LD : Hid (∀ (W : World), Below w.heap.size w W → Calls Tryd.prog 17 #[.agg #[.int .u8 c.tag, .int .i64 c.most, .int .i64 c.seg, .int .i64 c.least, .int .i64 c.den, .int .i64 c.ll, .int .i64 c.rl, .int .i64 c.rh, .int .i64 c.lh], .agg #[.int .i64 s.seg, .slice wa s.ws.length wc, .slice ka s.ks.length kc, .slice va s.vs.length vc, .slice ca s.cs.length cc, .int .u64 s.laid], .slice la m pl] W (FreshSl2 W lc (.int .i64 le_))))
    (A1 : pe = 0 → Hid (∀ (W : World) (a2 : SlA), SlIn W pc a2 → Calls Tryd.prog 19 #[slV pc a2] W (FreshPr2 W now (.bool true))))
    (T1 : pe = 0 → Hid (∀ (W : World) (a2 : SlA), Below w.heap.size w W → SlIn W pc a2 → pc.cs.length ≤ a2.cc → Calls Tryd.prog 13 #[.agg #[.int .u8 c.tag, .int .i64 c.most, .int .i64 c.seg, .int .i64 c.least, .int .i64 c.den, .int .i64 c.ll, .int .i64 c.rl, .int .i64 c.rh, .int .i64 c.lh], slV pc a2, .int .i64 k] W (FreshSl2 W bc (.int .i64 0))))
    (A2 : pe = 0 → Hid (∀ (W : World) (a2 : SlA), SlIn W bc a2 → Calls Tryd.prog 19 #[slV bc a2] W (FreshPr2 W was (.bool true))))
    (A3 : te = 0 → Hid (∀ (W : World) (a2 : SlA), SlIn W tc a2 → Calls Tryd.prog 19 #[slV tc a2] W (FreshPr2 W yl (.bool true))))
    (A4 : Hid (∀ (W : World) (a2 : SlA), SlIn W lc a2 → Calls Tryd.prog 19 #[slV lc a2] W (FreshPr2 W ll (.bool lb)))) :
    Calls Tryd.prog 6 #[.agg #[.int .u8 c.tag, .int .i64 c.most, .int .i64 c.seg, .int .i64 c.least, .int .i64 c.den, .int .i64 c.ll, .int .i64 c.rl, .int .i64 c.rh, .int .i64 c.lh], .agg #[.int .i64 s.seg, .slice wa s.ws.length wc, .slice ka s.ks.length kc, .slice va s.vs.length vc, .slice ca s.cs.length cc, .int .u64 s.laid], .int .i64 k, .slice la m pl] w (AnsB w (.bool true)) := by
 have G1 := hid (fun W => Great04_ok s.seg wa ka va ca wc kc vc cc s.ws.length s.ks.length s.vs.length s.cs.length s.laid 600 W)
 rw [h] at G1
 clear h
 have g2 : decide ((300 : Int) < (m : Int)) = false := by simp; omega
 have HU := hid (And.intro hpu (And.intro hbu (And.intro htu hlu)))
 have HE := hid (And.intro hp (And.intro ht hl))
 have HM := hid hm
 have HWL := hid hwl
 clear hpu hbu htu hlu hp ht hl hm hwl
 go_enter Tryd.func6, Tryd.ntmps6
 go_upto_region 1 with (fail)
 generalize hw0 : (w.alloc (.cells #[.int .u8 c.tag, .int .i64 c.most, .int .i64 c.seg, .int .i64 c.least, .int .i64 c.den, .int .i64 c.ll, .int .i64 c.rl, .int .i64 c.rh, .int .i64 c.lh] 23)).alloc (.cells #[.int .i64 s.seg, .slice wa s.ws.length wc, .slice ka s.ks.length kc, .slice va s.vs.length vc, .slice ca s.cs.length cc, .int .u64 s.laid] 29) = w0
 have P_m : Hid (PB w0 (w.heap.size) [.int .u8 c.tag, .int .i64 c.most, .int .i64 c.seg, .int .i64 c.least, .int .i64 c.den, .int .i64 c.ll, .int .i64 c.rl, .int .i64 c.rh, .int .i64 c.lh]) := by rw [← hw0]; exact hid (pb_alloc (pb_new _ _ _ (by simp)) (by simp only [World.size_alloc]; omega) _)
 have Z_m : w.heap.size < w0.heap.size := by rw [← hw0]; simp only [World.size_alloc]; omega
 have P_s : Hid (PB w0 (w.heap.size + 1) [.int .i64 s.seg, .slice wa s.ws.length wc, .slice ka s.ks.length kc, .slice va s.vs.length vc, .slice ca s.cs.length cc, .int .u64 s.laid]) := by rw [← hw0]; exact hid (pb_new _ _ _ (by simp))
 have Z_s : w.heap.size + 1 < w0.heap.size := by rw [← hw0]; simp only [World.size_alloc]; omega
 have HB0 : Hid (Below w.heap.size w w0) := by rw [← hw0]; exact hid (((Below.refl _ _).alloc (Nat.le_refl _) _).alloc (by simp) _)
 clear hw0
 go_wp2_with fail
 refine (AL.out _ HB0.out).mono ?_
 rintro e w1 ⟨rfl, hb1⟩
 replace P_m := hid (pb_below hb1 P_m.out Z_m)
 replace Z_m := Nat.lt_of_lt_of_le Z_m hb1.size
 replace P_s := hid (pb_below hb1 P_s.out Z_s)
 replace Z_s := Nat.lt_of_lt_of_le Z_s hb1.size
 have hz_w1 := hb1.size
 try simp only [World.size_alloc, World.size_setCell] at hz_w1
 have HB1 := xv hb1 HB0
 clear hb1
 go_upto_region 3 with (refine wpl_store_new 31 (.tmp 10) (.tmp 30) #[.int .i64 0, .int .i64 0] #[.int .i64 3, .int .i64 4] rfl rfl rfl rfl xk rfl (by simp [Value.oneCell']) ?_)
 generalize hw2 : w1.alloc (.cells #[.int .i64 3, .int .i64 4] 31) = w2
 replace P_m : Hid (PB w2 (w.heap.size) [.int .u8 c.tag, .int .i64 c.most, .int .i64 c.seg, .int .i64 c.least, .int .i64 c.den, .int .i64 c.ll, .int .i64 c.rl, .int .i64 c.rh, .int .i64 c.lh]) := by rw [← hw2]; exact hid (pb_alloc (P_m.out) Z_m _)
 replace Z_m : w.heap.size < w2.heap.size := by rw [← hw2]; simp only [World.size_alloc]; omega
 replace P_s : Hid (PB w2 (w.heap.size + 1) [.int .i64 s.seg, .slice wa s.ws.length wc, .slice ka s.ks.length kc, .slice va s.vs.length vc, .slice ca s.cs.length cc, .int .u64 s.laid]) := by rw [← hw2]; exact hid (pb_alloc (P_s.out) Z_s _)
 replace Z_s : w.heap.size + 1 < w2.heap.size := by rw [← hw2]; simp only [World.size_alloc]; omega
 have P_p : Hid (PB w2 (w1.heap.size) [.int .i64 3, .int .i64 4]) := by rw [← hw2]; exact hid (pb_new _ _ _ (by simp))
 have Z_p : w1.heap.size < w2.heap.size := by rw [← hw2]; simp only [World.size_alloc]; omega
 have hb2 : Below w1.heap.size w1 w2 := by rw [← hw2]; exact (Below.refl _ _).alloc (Nat.le_refl _) _
 have HB2 := xv hb2 HB1
 clear hw2 hb2
 go_wp2_with (first | refine wpl_load 29 (.tmp 5) (w.heap.size + 1) [.int .i64 s.seg, .slice wa s.ws.length wc, .slice ka s.ks.length kc, .slice va s.vs.length vc, .slice ca s.cs.length cc, .int .u64 s.laid] rfl rfl rfl Tryd.underlying29 rfl xk P_s.out ?_)
 go_wp2_with fail
 refine (G1.out _).mono ?_
 rintro e w3 ⟨rfl, hb3⟩
 replace P_m := hid (pb_below hb3 P_m.out Z_m)
 replace Z_m := Nat.lt_of_lt_of_le Z_m hb3.size
 replace P_s := hid (pb_below hb3 P_s.out Z_s)
 replace Z_s := Nat.lt_of_lt_of_le Z_s hb3.size
 replace P_p := hid (pb_below hb3 P_p.out Z_p)
 replace Z_p := Nat.lt_of_lt_of_le Z_p hb3.size
 have hz_w3 := hb3.size
 try simp only [World.size_alloc, World.size_setCell] at hz_w3
 have HB3 := xv hb3 HB2
 clear hb3 G1
 as_aux_lemma =>
 go_wp2_with (first | refine wpl_load 29 (.tmp 5) (w.heap.size + 1) [.int .i64 s.seg, .slice wa s.ws.length wc, .slice ka s.ks.length kc, .slice va s.vs.length vc, .slice ca s.cs.length cc, .int .u64 s.laid] rfl rfl rfl Tryd.underlying29 rfl xk P_s.out ?_)
 go_wp2_with fail
 refine (AW.out _ HB3.out).mono ?_
 rintro e w4 ⟨x1, rfl, p1, hb4⟩
 replace P_m := hid (pb_below hb4 P_m.out Z_m)
 replace Z_m := Nat.lt_of_lt_of_le Z_m hb4.size
 replace P_s := hid (pb_below hb4 P_s.out Z_s)
 replace Z_s := Nat.lt_of_lt_of_le Z_s hb4.size
 replace P_p := hid (pb_below hb4 P_p.out Z_p)
 replace Z_p := Nat.lt_of_lt_of_le Z_p hb4.size
 have hz_w4 := hb4.size
 try simp only [World.size_alloc, World.size_setCell] at hz_w4
 have HB4 := xv hb4 HB3
 obtain ⟨xa, xc, rfl, i1, -, n1, l1, -⟩ := row_of_owns p1
 have HWAS := hid (And.intro i1 (And.intro l1 (fun q : xa = none => (n1 q).2)))
 clear hb4 p1 i1 n1 l1
 as_aux_lemma =>
 go_wp2_with (first | refine wpl_load 23 (.tmp 4) (w.heap.size) [.int .u8 c.tag, .int .i64 c.most, .int .i64 c.seg, .int .i64 c.least, .int .i64 c.den, .int .i64 c.ll, .int .i64 c.rl, .int .i64 c.rh, .int .i64 c.lh] rfl rfl rfl Tryd.underlying23 rfl xk P_m.out ?_ | refine wpl_load 29 (.tmp 5) (w.heap.size + 1) [.int .i64 s.seg, .slice wa s.ws.length wc, .slice ka s.ks.length kc, .slice va s.vs.length vc, .slice ca s.cs.length cc, .int .u64 s.laid] rfl rfl rfl Tryd.underlying29 rfl xk P_s.out ?_ | refine wpl_load 31 (.tmp 10) (w1.heap.size) [.int .i64 3, .int .i64 4] rfl rfl rfl Tryd.underlying31 rfl xk P_p.out ?_)
 go_wp2_with fail
 refine (PU.out _ HB4.out).mono ?_
 rintro e w5 ⟨x1, x2, x3, x4, rfl, p1, p2, p3, p4, hb5⟩
 replace P_m := hid (pb_below hb5 P_m.out Z_m)
 replace Z_m := Nat.lt_of_lt_of_le Z_m hb5.size
 replace P_s := hid (pb_below hb5 P_s.out Z_s)
 replace Z_s := Nat.lt_of_lt_of_le Z_s hb5.size
 replace P_p := hid (pb_below hb5 P_p.out Z_p)
 replace Z_p := Nat.lt_of_lt_of_le Z_p hb5.size
 have hz_w5 := hb5.size
 try simp only [World.size_alloc, World.size_setCell] at hz_w5
 have HB5 := xv hb5 HB4
 have D4_5 := hid (hb5)
 obtain ⟨a1, k1, rfl, i1, -, -, -, -⟩ := row_of_owns p1
 obtain ⟨a2, k2, rfl, i2, -, -, -, -⟩ := row_of_owns p2
 obtain ⟨a3, k3, rfl, i3, -, -, -, -⟩ := row_of_owns p3
 obtain ⟨a4, k4, rfl, i4, -, -, hcc, -⟩ := row_of_owns p4
 have HIx : Hid (SlIn w5 pc ⟨a1, a2, a3, a4, k1, k2, k3, k4⟩) := hid ⟨i1, i2, i3, i4, HU.out.1⟩
 have HCCx := hid hcc
 clear hb5 p1 p2 p3 p4 i1 i2 i3 i4 hcc
 as_aux_lemma =>
 go_upto_region 7 with (refine wpl_store_new 29 (.tmp 13) (.tmp 54) #[.int .i64 0, .slice none 0 0, .slice none 0 0, .slice none 0 0, .slice none 0 0, .int .u64 0] #[.int .i64 pc.seg, .slice a1 pc.ws.length k1, .slice a2 pc.ks.length k2, .slice a3 pc.vs.length k3, .slice a4 pc.cs.length k4, .int .u64 pc.laid] rfl rfl rfl rfl xk rfl (by simp [Value.oneCell']) ?_)
 generalize hw6 : w5.alloc (.cells #[.int .i64 pc.seg, .slice a1 pc.ws.length k1, .slice a2 pc.ks.length k2, .slice a3 pc.vs.length k3, .slice a4 pc.cs.length k4, .int .u64 pc.laid] 29) = w6
 replace P_m : Hid (PB w6 (w.heap.size) [.int .u8 c.tag, .int .i64 c.most, .int .i64 c.seg, .int .i64 c.least, .int .i64 c.den, .int .i64 c.ll, .int .i64 c.rl, .int .i64 c.rh, .int .i64 c.lh]) := by rw [← hw6]; exact hid (pb_alloc (P_m.out) Z_m _)
 replace Z_m : w.heap.size < w6.heap.size := by rw [← hw6]; simp only [World.size_alloc]; omega
 replace P_s : Hid (PB w6 (w.heap.size + 1) [.int .i64 s.seg, .slice wa s.ws.length wc, .slice ka s.ks.length kc, .slice va s.vs.length vc, .slice ca s.cs.length cc, .int .u64 s.laid]) := by rw [← hw6]; exact hid (pb_alloc (P_s.out) Z_s _)
 replace Z_s : w.heap.size + 1 < w6.heap.size := by rw [← hw6]; simp only [World.size_alloc]; omega
 replace P_p : Hid (PB w6 (w1.heap.size) [.int .i64 3, .int .i64 4]) := by rw [← hw6]; exact hid (pb_alloc (P_p.out) Z_p _)
 replace Z_p : w1.heap.size < w6.heap.size := by rw [← hw6]; simp only [World.size_alloc]; omega
 have P_x : Hid (PB w6 (w5.heap.size) [.int .i64 pc.seg, .slice a1 pc.ws.length k1, .slice a2 pc.ks.length k2, .slice a3 pc.vs.length k3, .slice a4 pc.cs.length k4, .int .u64 pc.laid]) := by rw [← hw6]; exact hid (pb_new _ _ _ (by simp))
 have Z_x : w5.heap.size < w6.heap.size := by rw [← hw6]; simp only [World.size_alloc]; omega
 have hb6 : Below w5.heap.size w5 w6 := by rw [← hw6]; exact (Below.refl _ _).alloc (Nat.le_refl _) _
 have HB6 := xv hb6 HB5
 have D4_6 := xv hb6 D4_5
 have D5_6 := hid (hb6)
 clear D4_5
 clear hw6 hb6
 as_aux_lemma =>
 by_cases he : pe = 0
 · have g57 : (pe == 0) = true := by simpa using he
   have A1c := hid ((A1 he).out w6 ⟨a1, a2, a3, a4, k1, k2, k3, k4⟩ (HIx.out.below D5_6.out))
   dsimp only [slV] at A1c
   have T1h := T1 he
   have A2h := A2 he
   obtain ⟨hwb, n0, hkn, hn, hnow⟩ := HE.out.1 he
   have HN := hid (And.intro hwb (And.intro hkn (And.intro hn hnow)))
   clear he hwb hkn hn hnow
   go_wp2_with (first | refine wpl_load 29 (.tmp 13) (w5.heap.size) [.int .i64 pc.seg, .slice a1 pc.ws.length k1, .slice a2 pc.ks.length k2, .slice a3 pc.vs.length k3, .slice a4 pc.cs.length k4, .int .u64 pc.laid] rfl rfl rfl Tryd.underlying29 rfl xk P_x.out ?_)
   go_wp2_with fail
   refine (A1c.out).mono ?_
   rintro e w7 ⟨x1, rfl, p1, hb7⟩
   replace P_m := hid (pb_below hb7 P_m.out Z_m)
   replace Z_m := Nat.lt_of_lt_of_le Z_m hb7.size
   replace P_s := hid (pb_below hb7 P_s.out Z_s)
   replace Z_s := Nat.lt_of_lt_of_le Z_s hb7.size
   replace P_p := hid (pb_below hb7 P_p.out Z_p)
   replace Z_p := Nat.lt_of_lt_of_le Z_p hb7.size
   replace P_x := hid (pb_below hb7 P_x.out Z_x)
   replace Z_x := Nat.lt_of_lt_of_le Z_x hb7.size
   have hz_w7 := hb7.size
   try simp only [World.size_alloc, World.size_setCell] at hz_w7
   have HB7 := xv hb7 HB6
   have D4_7 := xv hb7 D4_6
   have D5_7 := xv hb7 D5_6
   clear D4_6 D5_6
   obtain ⟨na, nc, rfl, i1, -, n1, l1, -⟩ := row_of_owns p1
   have HNOW := hid (And.intro i1 (And.intro l1 (fun q : na = none => (n1 q).2)))
   clear hb7 p1 i1 n1 l1
   as_aux_lemma =>
   have T1c := hid (T1h.out w7 ⟨a1, a2, a3, a4, k1, k2, k3, k4⟩ HB7.out (HIx.out.below D5_7.out) HCCx.out)
   dsimp only [slV] at T1c
   go_wp2_with (first | refine wpl_load 23 (.tmp 4) (w.heap.size) [.int .u8 c.tag, .int .i64 c.most, .int .i64 c.seg, .int .i64 c.least, .int .i64 c.den, .int .i64 c.ll, .int .i64 c.rl, .int .i64 c.rh, .int .i64 c.lh] rfl rfl rfl Tryd.underlying23 rfl xk P_m.out ?_ | refine wpl_load 29 (.tmp 13) (w5.heap.size) [.int .i64 pc.seg, .slice a1 pc.ws.length k1, .slice a2 pc.ks.length k2, .slice a3 pc.vs.length k3, .slice a4 pc.cs.length k4, .int .u64 pc.laid] rfl rfl rfl Tryd.underlying29 rfl xk P_x.out ?_)
   go_wp2_with fail
   refine (T1c.out).mono ?_
   rintro e w8 ⟨x1, x2, x3, x4, rfl, p1, p2, p3, p4, hb8⟩
   replace P_m := hid (pb_below hb8 P_m.out Z_m)
   replace Z_m := Nat.lt_of_lt_of_le Z_m hb8.size
   replace P_s := hid (pb_below hb8 P_s.out Z_s)
   replace Z_s := Nat.lt_of_lt_of_le Z_s hb8.size
   replace P_p := hid (pb_below hb8 P_p.out Z_p)
   replace Z_p := Nat.lt_of_lt_of_le Z_p hb8.size
   replace P_x := hid (pb_below hb8 P_x.out Z_x)
   replace Z_x := Nat.lt_of_lt_of_le Z_x hb8.size
   have hz_w8 := hb8.size
   try simp only [World.size_alloc, World.size_setCell] at hz_w8
   have HB8 := xv hb8 HB7
   have D4_8 := xv hb8 D4_7
   have D5_8 := xv hb8 D5_7
   have D7_8 := hid (hb8)
   clear D4_7 D5_7
   obtain ⟨f1, g1, rfl, i1, -, -, -, -⟩ := row_of_owns p1
   obtain ⟨f2, g2, rfl, i2, -, -, -, -⟩ := row_of_owns p2
   obtain ⟨f3, g3, rfl, i3, -, -, -, -⟩ := row_of_owns p3
   obtain ⟨f4, g4, rfl, i4, -, -, hcc, -⟩ := row_of_owns p4
   have HIv : Hid (SlIn w8 bc ⟨f1, f2, f3, f4, g1, g2, g3, g4⟩) := hid ⟨i1, i2, i3, i4, HU.out.2.1⟩
   have HCCv := hid hcc
   clear hb8 p1 p2 p3 p4 i1 i2 i3 i4 hcc
   as_aux_lemma =>
   go_upto_region 10 with (refine wpl_store_new 29 (.tmp 17) (.tmp 68) #[.int .i64 0, .slice none 0 0, .slice none 0 0, .slice none 0 0, .slice none 0 0, .int .u64 0] #[.int .i64 bc.seg, .slice f1 bc.ws.length g1, .slice f2 bc.ks.length g2, .slice f3 bc.vs.length g3, .slice f4 bc.cs.length g4, .int .u64 bc.laid] rfl rfl rfl rfl xk rfl (by simp [Value.oneCell']) ?_)
   generalize hw9 : w8.alloc (.cells #[.int .i64 bc.seg, .slice f1 bc.ws.length g1, .slice f2 bc.ks.length g2, .slice f3 bc.vs.length g3, .slice f4 bc.cs.length g4, .int .u64 bc.laid] 29) = w9
   replace P_m : Hid (PB w9 (w.heap.size) [.int .u8 c.tag, .int .i64 c.most, .int .i64 c.seg, .int .i64 c.least, .int .i64 c.den, .int .i64 c.ll, .int .i64 c.rl, .int .i64 c.rh, .int .i64 c.lh]) := by rw [← hw9]; exact hid (pb_alloc (P_m.out) Z_m _)
   replace Z_m : w.heap.size < w9.heap.size := by rw [← hw9]; simp only [World.size_alloc]; omega
   replace P_s : Hid (PB w9 (w.heap.size + 1) [.int .i64 s.seg, .slice wa s.ws.length wc, .slice ka s.ks.length kc, .slice va s.vs.length vc, .slice ca s.cs.length cc, .int .u64 s.laid]) := by rw [← hw9]; exact hid (pb_alloc (P_s.out) Z_s _)
   replace Z_s : w.heap.size + 1 < w9.heap.size := by rw [← hw9]; simp only [World.size_alloc]; omega
   replace P_p : Hid (PB w9 (w1.heap.size) [.int .i64 3, .int .i64 4]) := by rw [← hw9]; exact hid (pb_alloc (P_p.out) Z_p _)
   replace Z_p : w1.heap.size < w9.heap.size := by rw [← hw9]; simp only [World.size_alloc]; omega
   replace P_x : Hid (PB w9 (w5.heap.size) [.int .i64 pc.seg, .slice a1 pc.ws.length k1, .slice a2 pc.ks.length k2, .slice a3 pc.vs.length k3, .slice a4 pc.cs.length k4, .int .u64 pc.laid]) := by rw [← hw9]; exact hid (pb_alloc (P_x.out) Z_x _)
   replace Z_x : w5.heap.size < w9.heap.size := by rw [← hw9]; simp only [World.size_alloc]; omega
   have P_v : Hid (PB w9 (w8.heap.size) [.int .i64 bc.seg, .slice f1 bc.ws.length g1, .slice f2 bc.ks.length g2, .slice f3 bc.vs.length g3, .slice f4 bc.cs.length g4, .int .u64 bc.laid]) := by rw [← hw9]; exact hid (pb_new _ _ _ (by simp))
   have Z_v : w8.heap.size < w9.heap.size := by rw [← hw9]; simp only [World.size_alloc]; omega
   have hb9 : Below w8.heap.size w8 w9 := by rw [← hw9]; exact (Below.refl _ _).alloc (Nat.le_refl _) _
   have HB9 := xv hb9 HB8
   have D4_9 := xv hb9 D4_8
   have D5_9 := xv hb9 D5_8
   have D7_9 := xv hb9 D7_8
   have D8_9 := hid (hb9)
   clear D4_8 D5_8 D7_8
   clear hw9 hb9
   have A2c := hid (A2h.out w9 ⟨f1, f2, f3, f4, g1, g2, g3, g4⟩ (HIv.out.below D8_9.out))
   dsimp only [slV] at A2c
   go_wp2_with (first | refine wpl_load 29 (.tmp 17) (w8.heap.size) [.int .i64 bc.seg, .slice f1 bc.ws.length g1, .slice f2 bc.ks.length g2, .slice f3 bc.vs.length g3, .slice f4 bc.cs.length g4, .int .u64 bc.laid] rfl rfl rfl Tryd.underlying29 rfl xk P_v.out ?_)
   go_wp2_with fail
   refine (A2c.out).mono ?_
   rintro e w10 ⟨x1, rfl, p1, hb10⟩
   replace P_m := hid (pb_below hb10 P_m.out Z_m)
   replace Z_m := Nat.lt_of_lt_of_le Z_m hb10.size
   replace P_s := hid (pb_below hb10 P_s.out Z_s)
   replace Z_s := Nat.lt_of_lt_of_le Z_s hb10.size
   replace P_p := hid (pb_below hb10 P_p.out Z_p)
   replace Z_p := Nat.lt_of_lt_of_le Z_p hb10.size
   replace P_x := hid (pb_below hb10 P_x.out Z_x)
   replace Z_x := Nat.lt_of_lt_of_le Z_x hb10.size
   replace P_v := hid (pb_below hb10 P_v.out Z_v)
   replace Z_v := Nat.lt_of_lt_of_le Z_v hb10.size
   have hz_w10 := hb10.size
   try simp only [World.size_alloc, World.size_setCell] at hz_w10
   have HB10 := xv hb10 HB9
   have D4_10 := xv hb10 D4_9
   have D5_10 := xv hb10 D5_9
   have D7_10 := xv hb10 D7_9
   have D8_10 := xv hb10 D8_9
   clear D4_9 D5_9 D7_9 D8_9
   obtain ⟨ba, bc_, rfl, i1, -, n1, l1, -⟩ := row_of_owns p1
   have HAGN := hid (And.intro i1 (And.intro l1 (fun q : ba = none => (n1 q).2)))
   clear hb10 p1 i1 n1 l1
   as_aux_lemma =>
   go_upto_region 11 with (fail)
   obtain ⟨hwb, rfl, hn, hnow⟩ := HN.out
   subst hwb
   have hnn : now.length = was.length + 1 := by rw [hnow, insL_length hn]
   have hxw := HWAS.out.2.1
   have hnc := HNOW.out.2.1
   have HXR := hid (HWAS.out.1.below D4_10.out)
   have HNR := hid (HNOW.out.1.below D7_10.out)
   obtain ⟨nb, no, rfl, cn0, cn1, hnb⟩ := pr_get HNR.out (i := n0) xo
   have hget : now.getD n0 (0, 0) = (3, 4) := by rw [hnow, ins_get hn]
   rw [hget] at cn0 cn1
   have rd := row_from (k := n0 + 1) HNR.out rfl hnc xo HNOW.out.2.2
   have rv := row_from (k := n0) HXR.out rfl hxw xo HWAS.out.2.2
   have HRD := hid rd.1
   have HRV := hid rv.1
   obtain ⟨da, hda⟩ : ∃ da, (if nc = n0 + 1 then some ⟨nb, no, none⟩ else (some (⟨nb, no, none⟩ : Addr)).map (·.add ((n0 + 1) * 2))) = da := ⟨_, rfl⟩
   obtain ⟨dw, hdw⟩ : ∃ dw, (if xc = n0 then xa else xa.map (·.add (n0 * 2))) = dw := ⟨_, rfl⟩
   rw [hda] at HRD
   rw [hdw] at HRV
   have SP1 := hid (fun W' (h : Below w10.heap.size w10 W') => same_at (n := n0) (m := n0) (ca := nc) (cb := xc) ((row_take HNR.out (k := n0) xo).below h) ((row_take HXR.out (k := n0) xo).below h) (by rw [List.length_take]; omega) (by rw [List.length_take]; omega) (by have := HWL.out; omega) (by rw [hnow, ins_take hn]))
   have SP2 := hid (fun W' (h : Below w10.heap.size w10 W') => same_at (n := now.length - (n0 + 1)) (m := was.length - n0) (ca := nc - (n0 + 1)) (cb := xc - n0) (HRD.out.below h) (HRV.out.below h) (by rw [List.length_drop]) (by rw [List.length_drop]) (by have := HWL.out; omega) (by rw [hnow, ins_drop hn]))
   have SP3 := hid (fun W' (h : Below w10.heap.size w10 W') => same_at (n := was.length) (m := was.length) (ca := bc_) (cb := xc) (HAGN.out.1.below h) (HXR.out.below h) rfl rfl (by have := HWL.out; omega) rfl)
   have g3 : IntKind.i64.wrap ((was.length : Int) + 1) = (now.length : Int) := by rw [IntWalk.i64_in _ (by have := HWL.out; omega)]; omega
   have g4 : IntKind.i64.wrap ((n0 : Int) + 1) = ((n0 + 1 : Nat) : Int) := by rw [IntWalk.i64_in _ (by have := HWL.out; omega)]; omega
   have hp0 := P_p.out 0 _ rfl
   have hp1 := P_p.out 1 _ rfl
   refine Code.wp_mono ?_ (GO_r11 w10 _ _ _ _ _ _ _ _ _ _ _ _ _ _ _ _ _ _ _ _ _ _ _ _ _ _ _ _ _ _ _ _ _ _ _ _ _ _ _ _ _ _ _ _ _ _ _ _ _ _ _ _ _ _ _ _ _ _ _ _ _ _ _ _ _ _ _ _ _ _ _ _ _ _ _ _ _ _ _ _ _ _ _ _ _ _ _ _ _ _ _ _ _ _ _ _ _ _ _ _ _ _ _ _ _ _ _ _ _ _ _ _ _ _ _ _ _ _ _ _ _ _ _ _ _ _ _ _ _ _ _ _ _ _ _ _ _ _ _ _ _ _ _ _ _ _ _ _ _ _ _ _ _ _ _ _ _ _ _ _ _ _ _ _ _ _ _ _ _ _ _ _ _ _ _ _ _ _ _ _ _ _ _ _ _ _ _ _ _ _ _ _ _ _ _ _ _ _ _ _ _ _ _ _ _ _ _ _ _ _ _ _ _ _ _ _ _ _ _ _ _ _ _ _ _ _ _ _ _ n0 (n0 + 1) was.length xc now.length nc was.length bc_ nb no _ xa ba da dw hda hdw hp0 hp1 cn0 cn1 (by first | (simp; done) | (simp; omega)) (by first | (simp; done) | (simp; omega)) (by first | (simp; done) | (simp; omega)) (by first | (simp; done) | (simp; omega)) (by first | (simp; done) | (simp; omega)) (by first | (simp; done) | (simp; omega)) g3 g4 hn hxw hnc xo xo xo xo SP1 SP2 SP3)
   intro e a' w11 hq
   cases e with
   | exit id => exact hq.elim
   | goto l => exact hq.elim
   | ret => exact hq.elim
   | panic ch => exact hq.elim
   | outgrown => exact hq.elim
   | normal =>
   obtain ⟨⟨dq, osq, hwq⟩, u75, u76, u77, u78, u79, u80, u81, u82, u83, u84, u85, u86, u87, u88, u89, u90, u91, u92, u93, u94, u95, u96, u97, u98, u99, u100, u101, u102, u103, u104, u105, u106, u107, u108, u109, u110, u111, u112, u113, u114, u115, u116, u117, u118, u119, u120, u121, u122, u123, u124, u125, u126, u127, u128, u129, u130, u131, u132, u133, u134, u135, u136, u137, u138, u139, u140, rfl⟩ := hq
   have hbq : Below w10.heap.size w10 w11 := by rw [hwq]; exact below_regrown w10 dq osq
   clear hwq SP1 SP2 SP3 HRD HRV HXR HNR rd rv hnn hnow hda hdw hn hxw hnc g3 g4 hp0 hp1 cn0 cn1 hget HN T1c T1h A2h A1c A2c
   replace P_m := hid (pb_below hbq P_m.out Z_m)
   replace Z_m := Nat.lt_of_lt_of_le Z_m hbq.size
   replace P_s := hid (pb_below hbq P_s.out Z_s)
   replace Z_s := Nat.lt_of_lt_of_le Z_s hbq.size
   have hz_w11 := hbq.size
   try simp only [World.size_alloc, World.size_setCell] at hz_w11
   have HB11 := xv hbq HB10
   have D4_11 := xv hbq D4_10
   clear D4_10
   clear hbq
   as_aux_lemma =>
   go_wp2_with (first | refine wpl_load 23 (.tmp 4) (w.heap.size) [.int .u8 c.tag, .int .i64 c.most, .int .i64 c.seg, .int .i64 c.least, .int .i64 c.den, .int .i64 c.ll, .int .i64 c.rl, .int .i64 c.rh, .int .i64 c.lh] rfl rfl rfl Tryd.underlying23 rfl xk P_m.out ?_ | refine wpl_load 29 (.tmp 5) (w.heap.size + 1) [.int .i64 s.seg, .slice wa s.ws.length wc, .slice ka s.ks.length kc, .slice va s.vs.length vc, .slice ca s.cs.length cc, .int .u64 s.laid] rfl rfl rfl Tryd.underlying29 rfl xk P_s.out ?_)
   go_wp2_with fail
   refine (TK.out _ HB11.out).mono ?_
   rintro e w12 ⟨x1, x2, x3, x4, rfl, p1, p2, p3, p4, hb12⟩
   replace P_m := hid (pb_below hb12 P_m.out Z_m)
   replace Z_m := Nat.lt_of_lt_of_le Z_m hb12.size
   replace P_s := hid (pb_below hb12 P_s.out Z_s)
   replace Z_s := Nat.lt_of_lt_of_le Z_s hb12.size
   have hz_w12 := hb12.size
   try simp only [World.size_alloc, World.size_setCell] at hz_w12
   have HB12 := xv hb12 HB11
   have D4_12 := xv hb12 D4_11
   clear D4_11
   obtain ⟨b1, j1, rfl, i1, -, -, -, -⟩ := row_of_owns p1
   obtain ⟨b2, j2, rfl, i2, -, -, -, -⟩ := row_of_owns p2
   obtain ⟨b3, j3, rfl, i3, -, -, -, -⟩ := row_of_owns p3
   obtain ⟨b4, j4, rfl, i4, -, -, hcc, -⟩ := row_of_owns p4
   have HIy : Hid (SlIn w12 tc ⟨b1, b2, b3, b4, j1, j2, j3, j4⟩) := hid ⟨i1, i2, i3, i4, HU.out.2.2.1⟩
   have HCCy := hid hcc
   clear hb12 p1 p2 p3 p4 i1 i2 i3 i4 hcc
   as_aux_lemma =>
   go_upto_region 14 with (refine wpl_store_new 29 (.tmp 21) (.tmp 147) #[.int .i64 0, .slice none 0 0, .slice none 0 0, .slice none 0 0, .slice none 0 0, .int .u64 0] #[.int .i64 tc.seg, .slice b1 tc.ws.length j1, .slice b2 tc.ks.length j2, .slice b3 tc.vs.length j3, .slice b4 tc.cs.length j4, .int .u64 tc.laid] rfl rfl rfl rfl xk rfl (by simp [Value.oneCell']) ?_)
   generalize hw13 : w12.alloc (.cells #[.int .i64 tc.seg, .slice b1 tc.ws.length j1, .slice b2 tc.ks.length j2, .slice b3 tc.vs.length j3, .slice b4 tc.cs.length j4, .int .u64 tc.laid] 29) = w13
   replace P_m : Hid (PB w13 (w.heap.size) [.int .u8 c.tag, .int .i64 c.most, .int .i64 c.seg, .int .i64 c.least, .int .i64 c.den, .int .i64 c.ll, .int .i64 c.rl, .int .i64 c.rh, .int .i64 c.lh]) := by rw [← hw13]; exact hid (pb_alloc (P_m.out) Z_m _)
   replace Z_m : w.heap.size < w13.heap.size := by rw [← hw13]; simp only [World.size_alloc]; omega
   replace P_s : Hid (PB w13 (w.heap.size + 1) [.int .i64 s.seg, .slice wa s.ws.length wc, .slice ka s.ks.length kc, .slice va s.vs.length vc, .slice ca s.cs.length cc, .int .u64 s.laid]) := by rw [← hw13]; exact hid (pb_alloc (P_s.out) Z_s _)
   replace Z_s : w.heap.size + 1 < w13.heap.size := by rw [← hw13]; simp only [World.size_alloc]; omega
   have P_y : Hid (PB w13 (w12.heap.size) [.int .i64 tc.seg, .slice b1 tc.ws.length j1, .slice b2 tc.ks.length j2, .slice b3 tc.vs.length j3, .slice b4 tc.cs.length j4, .int .u64 tc.laid]) := by rw [← hw13]; exact hid (pb_new _ _ _ (by simp))
   have Z_y : w12.heap.size < w13.heap.size := by rw [← hw13]; simp only [World.size_alloc]; omega
   have hb13 : Below w12.heap.size w12 w13 := by rw [← hw13]; exact (Below.refl _ _).alloc (Nat.le_refl _) _
   have HB13 := xv hb13 HB12
   have D4_13 := xv hb13 D4_12
   have D12_13 := hid (hb13)
   clear D4_12
   clear hw13 hb13
   as_aux_lemma =>
   by_cases he : te = 0
   · have g150 : (te == 0) = true := by simpa using he
     have A3c := hid ((A3 he).out w13 ⟨b1, b2, b3, b4, j1, j2, j3, j4⟩ (HIy.out.below D12_13.out))
     dsimp only [slV] at A3c
     obtain ⟨hwb, n, hkn, hn, hyl⟩ := HE.out.2.1 he
     have HN := hid (And.intro hwb (And.intro hkn (And.intro hn hyl)))
     clear he hwb hkn hn hyl
     go_wp2_with (first | refine wpl_load 29 (.tmp 21) (w12.heap.size) [.int .i64 tc.seg, .slice b1 tc.ws.length j1, .slice b2 tc.ks.length j2, .slice b3 tc.vs.length j3, .slice b4 tc.cs.length j4, .int .u64 tc.laid] rfl rfl rfl Tryd.underlying29 rfl xk P_y.out ?_)
     go_wp2_with fail
     refine (A3c.out).mono ?_
     rintro e w14 ⟨x1, rfl, p1, hb14⟩
     replace P_m := hid (pb_below hb14 P_m.out Z_m)
     replace Z_m := Nat.lt_of_lt_of_le Z_m hb14.size
     replace P_s := hid (pb_below hb14 P_s.out Z_s)
     replace Z_s := Nat.lt_of_lt_of_le Z_s hb14.size
     replace P_y := hid (pb_below hb14 P_y.out Z_y)
     replace Z_y := Nat.lt_of_lt_of_le Z_y hb14.size
     have hz_w14 := hb14.size
     try simp only [World.size_alloc, World.size_setCell] at hz_w14
     have HB14 := xv hb14 HB13
     have D4_14 := xv hb14 D4_13
     have D12_14 := xv hb14 D12_13
     clear D4_13 D12_13
     obtain ⟨za, zc, rfl, i1, -, n1, l1, -⟩ := row_of_owns p1
     have HYL := hid (And.intro i1 (And.intro l1 (fun q : za = none => (n1 q).2)))
     clear hb14 p1 i1 n1 l1
     as_aux_lemma =>
     go_upto_region 16 with (fail)
     obtain ⟨hwb, hkn, hn, hyl⟩ := HN.out
     first | subst hkn | (have h2 : n = n0 := xo
                          subst h2)
     first | subst hwb | clear hwb
     have hyn : yl.length = was.length - 1 := by rw [hyl, del_length hn]
     have hxw := HWAS.out.2.1
     have hyc := HYL.out.2.1
     have HXR := hid (HWAS.out.1.below D4_14.out)
     have HYR := hid HYL.out.1
     have rd := row_from (k := n) HYR.out rfl hyc xo HYL.out.2.2
     have rv := row_from (k := n + 1) HXR.out rfl hxw xo HWAS.out.2.2
     have HRD := hid rd.1
     have HRV := hid rv.1
     obtain ⟨dy, hdy⟩ : ∃ dy, (if zc = n then za else za.map (·.add (n * 2))) = dy := ⟨_, rfl⟩
     obtain ⟨dv, hdv⟩ : ∃ dv, (if xc = n + 1 then xa else xa.map (·.add ((n + 1) * 2))) = dv := ⟨_, rfl⟩
     rw [hdy] at HRD
     rw [hdv] at HRV
     have SQ1 := hid (fun W' (h : Below w14.heap.size w14 W') => same_at (n := n) (m := n) (ca := zc) (cb := xc) ((row_take HYR.out (k := n) xo).below h) ((row_take HXR.out (k := n) xo).below h) (by rw [List.length_take]; omega) (by rw [List.length_take]; omega) (by have := HWL.out; omega) (by rw [hyl, del_take hn]))
     have SQ2 := hid (fun W' (h : Below w14.heap.size w14 W') => same_at (n := yl.length - n) (m := was.length - (n + 1)) (ca := zc - n) (cb := xc - (n + 1)) (HRD.out.below h) (HRV.out.below h) (by rw [List.length_drop]) (by rw [List.length_drop]) (by have := HWL.out; omega) (by rw [hyl, del_drop hn]))
     have g3 : IntKind.i64.wrap ((was.length : Int) - 1) = (yl.length : Int) := by rw [IntWalk.i64_in _ (by have := HWL.out; omega)]; omega
     have g4 : IntKind.i64.wrap ((n : Int) + 1) = ((n + 1 : Nat) : Int) := by rw [IntWalk.i64_in _ (by have := HWL.out; omega)]; omega
     refine Code.wp_mono ?_ (GO_r16 w14 _ _ _ _ _ _ _ _ _ _ _ _ _ _ _ _ _ _ _ _ _ _ _ _ _ _ _ _ _ _ _ _ _ _ _ _ _ _ _ _ _ _ _ _ _ _ _ _ _ _ _ _ _ _ _ _ _ _ _ _ _ _ _ _ _ _ _ _ _ _ _ _ _ _ _ _ _ _ _ _ _ _ _ _ _ _ _ _ _ _ _ _ _ _ _ _ _ _ _ _ _ _ _ _ _ _ _ _ _ _ _ _ _ _ _ _ _ _ _ _ _ _ _ _ _ _ _ _ _ _ _ _ _ _ _ _ _ _ _ _ _ _ _ _ _ _ _ _ _ _ _ _ _ _ _ _ _ _ _ _ _ _ _ _ _ _ _ _ _ _ _ _ _ _ _ _ _ _ _ _ _ _ _ _ _ _ _ _ _ _ _ _ _ _ _ _ _ _ _ _ _ _ _ _ _ _ _ _ _ _ _ _ _ _ _ _ _ _ _ _ _ _ _ _ _ _ _ _ _ _ _ _ _ n (n + 1) was.length xc yl.length zc xa za dy dv hdy hdv (by first | (simp; done) | (simp; omega)) (by first | (simp; done) | (simp; omega)) (by first | (simp; done) | (simp; omega)) (by first | (simp; done) | (simp; omega)) (by first | (simp; done) | (simp; omega)) (by first | (simp; done) | (simp; omega)) g3 g4 xo hxw hyc xo xo xo SQ1 SQ2)
     intro e a' w15 hq
     cases e with
     | exit id => exact hq.elim
     | goto l => exact hq.elim
     | ret => exact hq.elim
     | panic ch => exact hq.elim
     | outgrown => exact hq.elim
     | normal =>
     obtain ⟨⟨dq, osq, hwq⟩, u156, u157, u158, u159, u160, u161, u162, u163, u164, u165, u166, u167, u168, u169, u170, u171, u172, u173, u174, u175, u176, u177, u178, u179, u180, u181, u182, u183, u184, u185, u186, u187, u188, u189, u190, u191, u192, u193, u194, u195, u196, u197, u198, u199, rfl⟩ := hq
     have hbq : Below w14.heap.size w14 w15 := by rw [hwq]; exact below_regrown w14 dq osq
     clear hwq SQ1 SQ2 HRD HRV HXR HYR rd rv hyn hyl hdy hdv hn hxw hyc g3 g4
     replace P_m := hid (pb_below hbq P_m.out Z_m)
     replace Z_m := Nat.lt_of_lt_of_le Z_m hbq.size
     replace P_s := hid (pb_below hbq P_s.out Z_s)
     replace Z_s := Nat.lt_of_lt_of_le Z_s hbq.size
     have hz_w15 := hbq.size
     try simp only [World.size_alloc, World.size_setCell] at hz_w15
     have HB15 := xv hbq HB14
     have D4_15 := xv hbq D4_14
     have D12_15 := xv hbq D12_14
     have D14_15 := hid (hbq)
     clear D4_14 D12_14
     clear hbq
     as_aux_lemma =>
     go_wp2_with (first | refine wpl_load 23 (.tmp 4) (w.heap.size) [.int .u8 c.tag, .int .i64 c.most, .int .i64 c.seg, .int .i64 c.least, .int .i64 c.den, .int .i64 c.ll, .int .i64 c.rl, .int .i64 c.rh, .int .i64 c.lh] rfl rfl rfl Tryd.underlying23 rfl xk P_m.out ?_ | refine wpl_load 29 (.tmp 5) (w.heap.size + 1) [.int .i64 s.seg, .slice wa s.ws.length wc, .slice ka s.ks.length kc, .slice va s.vs.length vc, .slice ca s.cs.length cc, .int .u64 s.laid] rfl rfl rfl Tryd.underlying29 rfl xk P_s.out ?_)
     go_wp2_with fail
     refine (LD.out _ HB15.out).mono ?_
     rintro e w16 ⟨x1, x2, x3, x4, rfl, p1, p2, p3, p4, hb16⟩
     replace P_m := hid (pb_below hb16 P_m.out Z_m)
     replace Z_m := Nat.lt_of_lt_of_le Z_m hb16.size
     replace P_s := hid (pb_below hb16 P_s.out Z_s)
     replace Z_s := Nat.lt_of_lt_of_le Z_s hb16.size
     have hz_w16 := hb16.size
     try simp only [World.size_alloc, World.size_setCell] at hz_w16
     have HB16 := xv hb16 HB15
     have D4_16 := xv hb16 D4_15
     have D12_16 := xv hb16 D12_15
     have D14_16 := xv hb16 D14_15
     clear D4_15 D12_15 D14_15
     obtain ⟨e1, l1, rfl, i1, -, -, -, -⟩ := row_of_owns p1
     obtain ⟨e2, l2, rfl, i2, -, -, -, -⟩ := row_of_owns p2
     obtain ⟨e3, l3, rfl, i3, -, -, -, -⟩ := row_of_owns p3
     obtain ⟨e4, l4, rfl, i4, -, -, hcc, -⟩ := row_of_owns p4
     have HIz : Hid (SlIn w16 lc ⟨e1, e2, e3, e4, l1, l2, l3, l4⟩) := hid ⟨i1, i2, i3, i4, HU.out.2.2.2⟩
     have HCCz := hid hcc
     clear hb16 p1 p2 p3 p4 i1 i2 i3 i4 hcc
     as_aux_lemma =>
     go_upto_region 19 with (refine wpl_store_new 29 (.tmp 25) (.tmp 206) #[.int .i64 0, .slice none 0 0, .slice none 0 0, .slice none 0 0, .slice none 0 0, .int .u64 0] #[.int .i64 lc.seg, .slice e1 lc.ws.length l1, .slice e2 lc.ks.length l2, .slice e3 lc.vs.length l3, .slice e4 lc.cs.length l4, .int .u64 lc.laid] rfl rfl rfl rfl xk rfl (by simp [Value.oneCell']) ?_)
     generalize hw17 : w16.alloc (.cells #[.int .i64 lc.seg, .slice e1 lc.ws.length l1, .slice e2 lc.ks.length l2, .slice e3 lc.vs.length l3, .slice e4 lc.cs.length l4, .int .u64 lc.laid] 29) = w17
     replace P_m : Hid (PB w17 (w.heap.size) [.int .u8 c.tag, .int .i64 c.most, .int .i64 c.seg, .int .i64 c.least, .int .i64 c.den, .int .i64 c.ll, .int .i64 c.rl, .int .i64 c.rh, .int .i64 c.lh]) := by rw [← hw17]; exact hid (pb_alloc (P_m.out) Z_m _)
     replace Z_m : w.heap.size < w17.heap.size := by rw [← hw17]; simp only [World.size_alloc]; omega
     replace P_s : Hid (PB w17 (w.heap.size + 1) [.int .i64 s.seg, .slice wa s.ws.length wc, .slice ka s.ks.length kc, .slice va s.vs.length vc, .slice ca s.cs.length cc, .int .u64 s.laid]) := by rw [← hw17]; exact hid (pb_alloc (P_s.out) Z_s _)
     replace Z_s : w.heap.size + 1 < w17.heap.size := by rw [← hw17]; simp only [World.size_alloc]; omega
     have P_z : Hid (PB w17 (w16.heap.size) [.int .i64 lc.seg, .slice e1 lc.ws.length l1, .slice e2 lc.ks.length l2, .slice e3 lc.vs.length l3, .slice e4 lc.cs.length l4, .int .u64 lc.laid]) := by rw [← hw17]; exact hid (pb_new _ _ _ (by simp))
     have Z_z : w16.heap.size < w17.heap.size := by rw [← hw17]; simp only [World.size_alloc]; omega
     have hb17 : Below w16.heap.size w16 w17 := by rw [← hw17]; exact (Below.refl _ _).alloc (Nat.le_refl _) _
     have HB17 := xv hb17 HB16
     have D4_17 := xv hb17 D4_16
     have D12_17 := xv hb17 D12_16
     have D14_17 := xv hb17 D14_16
     have D16_17 := hid (hb17)
     clear D4_16 D12_16 D14_16
     clear hw17 hb17
     have A4c := hid (A4.out w17 ⟨e1, e2, e3, e4, l1, l2, l3, l4⟩ (HIz.out.below D16_17.out))
     dsimp only [slV] at A4c
     go_wp2_with (first | refine wpl_load 29 (.tmp 25) (w16.heap.size) [.int .i64 lc.seg, .slice e1 lc.ws.length l1, .slice e2 lc.ks.length l2, .slice e3 lc.vs.length l3, .slice e4 lc.cs.length l4, .int .u64 lc.laid] rfl rfl rfl Tryd.underlying29 rfl xk P_z.out ?_)
     go_wp2_with fail
     refine (A4c.out).mono ?_
     rintro e w18 ⟨x1, rfl, p1, hb18⟩
     replace P_m := hid (pb_below hb18 P_m.out Z_m)
     replace Z_m := Nat.lt_of_lt_of_le Z_m hb18.size
     replace P_s := hid (pb_below hb18 P_s.out Z_s)
     replace Z_s := Nat.lt_of_lt_of_le Z_s hb18.size
     replace P_z := hid (pb_below hb18 P_z.out Z_z)
     replace Z_z := Nat.lt_of_lt_of_le Z_z hb18.size
     have hz_w18 := hb18.size
     try simp only [World.size_alloc, World.size_setCell] at hz_w18
     have HB18 := xv hb18 HB17
     have D4_18 := xv hb18 D4_17
     have D12_18 := xv hb18 D12_17
     have D14_18 := xv hb18 D14_17
     have D16_18 := xv hb18 D16_17
     clear D4_17 D12_17 D14_17 D16_17
     obtain ⟨ya, yc, rfl, i1, -, n1, l1, -⟩ := row_of_owns p1
     have HLL := hid (And.intro i1 (And.intro l1 (fun q : ya = none => (n1 q).2)))
     clear hb18 p1 i1 n1 l1
     as_aux_lemma =>
     go_upto_region 20 with (fail)
     have hz5 := P_z.out 5 _ rfl
     have hs5 := P_s.out 5 _ rfl
     have SPL := fun he : le_ = 0 => hid (fun W' (h : Below w18.heap.size w18 W') => same_at (n := ll.length) (m := m) (ca := yc) (cb := pl) ((HLL.out.1.below h)) (((HE.out.2.2 he).2.1.below HB18.out).below h) rfl (HE.out.2.2 he).2.2.1 (by have := (HE.out.2.2 he).2.2.1; have := HM.out; omega) rfl)
     refine Code.wp_mono ?_ (GO_r20 w18 _ _ _ _ _ _ _ _ _ _ _ _ _ _ _ _ _ _ _ _ _ _ _ _ _ _ _ _ _ _ _ _ _ _ _ _ _ _ _ _ _ _ _ _ _ _ _ _ _ _ _ _ _ _ _ _ _ _ _ _ _ _ _ _ _ _ _ _ _ _ _ _ _ _ _ _ _ _ _ _ _ _ _ _ _ _ _ _ _ _ _ _ _ _ _ _ _ _ _ _ _ _ _ _ _ _ _ _ _ _ _ _ _ _ _ _ _ _ _ _ _ _ _ _ _ _ _ _ _ _ _ _ _ _ _ _ _ _ _ _ _ _ _ _ _ _ _ _ _ _ _ _ _ _ _ _ _ _ _ _ _ _ _ _ _ _ _ _ _ _ _ _ _ _ _ _ _ _ _ _ _ _ _ _ _ _ _ _ _ _ _ _ _ _ _ _ _ _ _ _ _ _ _ _ _ _ _ _ _ _ _ _ _ _ _ _ _ _ _ _ _ _ _ _ _ _ _ _ _ _ _ m pl ll.length yc _ _ la ya lb le_ _ _ hs5 hz5 (fun he => (HE.out.2.2 he).1) (fun he => by rw [(HE.out.2.2 he).2.2.2, IntWalk.u64_in (m : Int) (by have := HM.out; omega)]; simp) SPL)
     intro e a' w19 hq
     cases e with
     | exit id => exact hq.elim
     | goto l => exact hq.elim
     | ret => exact hq.elim
     | panic ch => exact hq.elim
     | outgrown => exact hq.elim
     | normal =>
     obtain ⟨hbq, u213, u214, u215, u216, u217, u218, u219, u220, u221, u222, u223, u224, u225, u226, u227, u228, u229, u230, u231, u232, u233, u234, u235, u236, rfl⟩ := hq
     have HBE := xv hbq HB18
     go_wp2
     go_ret
     exact ⟨rfl, HBE.out⟩
   · have g150 : (te == 0) = false := by simpa using he
     clear he
     as_aux_lemma =>
     go_wp2_with (first | refine wpl_load 23 (.tmp 4) (w.heap.size) [.int .u8 c.tag, .int .i64 c.most, .int .i64 c.seg, .int .i64 c.least, .int .i64 c.den, .int .i64 c.ll, .int .i64 c.rl, .int .i64 c.rh, .int .i64 c.lh] rfl rfl rfl Tryd.underlying23 rfl xk P_m.out ?_ | refine wpl_load 29 (.tmp 5) (w.heap.size + 1) [.int .i64 s.seg, .slice wa s.ws.length wc, .slice ka s.ks.length kc, .slice va s.vs.length vc, .slice ca s.cs.length cc, .int .u64 s.laid] rfl rfl rfl Tryd.underlying29 rfl xk P_s.out ?_)
     go_wp2_with fail
     refine (LD.out _ HB13.out).mono ?_
     rintro e w14 ⟨x1, x2, x3, x4, rfl, p1, p2, p3, p4, hb14⟩
     replace P_m := hid (pb_below hb14 P_m.out Z_m)
     replace Z_m := Nat.lt_of_lt_of_le Z_m hb14.size
     replace P_s := hid (pb_below hb14 P_s.out Z_s)
     replace Z_s := Nat.lt_of_lt_of_le Z_s hb14.size
     have hz_w14 := hb14.size
     try simp only [World.size_alloc, World.size_setCell] at hz_w14
     have HB14 := xv hb14 HB13
     have D4_14 := xv hb14 D4_13
     have D12_14 := xv hb14 D12_13
     clear D4_13 D12_13
     obtain ⟨e1, l1, rfl, i1, -, -, -, -⟩ := row_of_owns p1
     obtain ⟨e2, l2, rfl, i2, -, -, -, -⟩ := row_of_owns p2
     obtain ⟨e3, l3, rfl, i3, -, -, -, -⟩ := row_of_owns p3
     obtain ⟨e4, l4, rfl, i4, -, -, hcc, -⟩ := row_of_owns p4
     have HIz : Hid (SlIn w14 lc ⟨e1, e2, e3, e4, l1, l2, l3, l4⟩) := hid ⟨i1, i2, i3, i4, HU.out.2.2.2⟩
     have HCCz := hid hcc
     clear hb14 p1 p2 p3 p4 i1 i2 i3 i4 hcc
     as_aux_lemma =>
     go_upto_region 19 with (refine wpl_store_new 29 (.tmp 25) (.tmp 206) #[.int .i64 0, .slice none 0 0, .slice none 0 0, .slice none 0 0, .slice none 0 0, .int .u64 0] #[.int .i64 lc.seg, .slice e1 lc.ws.length l1, .slice e2 lc.ks.length l2, .slice e3 lc.vs.length l3, .slice e4 lc.cs.length l4, .int .u64 lc.laid] rfl rfl rfl rfl xk rfl (by simp [Value.oneCell']) ?_)
     generalize hw15 : w14.alloc (.cells #[.int .i64 lc.seg, .slice e1 lc.ws.length l1, .slice e2 lc.ks.length l2, .slice e3 lc.vs.length l3, .slice e4 lc.cs.length l4, .int .u64 lc.laid] 29) = w15
     replace P_m : Hid (PB w15 (w.heap.size) [.int .u8 c.tag, .int .i64 c.most, .int .i64 c.seg, .int .i64 c.least, .int .i64 c.den, .int .i64 c.ll, .int .i64 c.rl, .int .i64 c.rh, .int .i64 c.lh]) := by rw [← hw15]; exact hid (pb_alloc (P_m.out) Z_m _)
     replace Z_m : w.heap.size < w15.heap.size := by rw [← hw15]; simp only [World.size_alloc]; omega
     replace P_s : Hid (PB w15 (w.heap.size + 1) [.int .i64 s.seg, .slice wa s.ws.length wc, .slice ka s.ks.length kc, .slice va s.vs.length vc, .slice ca s.cs.length cc, .int .u64 s.laid]) := by rw [← hw15]; exact hid (pb_alloc (P_s.out) Z_s _)
     replace Z_s : w.heap.size + 1 < w15.heap.size := by rw [← hw15]; simp only [World.size_alloc]; omega
     have P_z : Hid (PB w15 (w14.heap.size) [.int .i64 lc.seg, .slice e1 lc.ws.length l1, .slice e2 lc.ks.length l2, .slice e3 lc.vs.length l3, .slice e4 lc.cs.length l4, .int .u64 lc.laid]) := by rw [← hw15]; exact hid (pb_new _ _ _ (by simp))
     have Z_z : w14.heap.size < w15.heap.size := by rw [← hw15]; simp only [World.size_alloc]; omega
     have hb15 : Below w14.heap.size w14 w15 := by rw [← hw15]; exact (Below.refl _ _).alloc (Nat.le_refl _) _
     have HB15 := xv hb15 HB14
     have D4_15 := xv hb15 D4_14
     have D12_15 := xv hb15 D12_14
     have D14_15 := hid (hb15)
     clear D4_14 D12_14
     clear hw15 hb15
     have A4c := hid (A4.out w15 ⟨e1, e2, e3, e4, l1, l2, l3, l4⟩ (HIz.out.below D14_15.out))
     dsimp only [slV] at A4c
     go_wp2_with (first | refine wpl_load 29 (.tmp 25) (w14.heap.size) [.int .i64 lc.seg, .slice e1 lc.ws.length l1, .slice e2 lc.ks.length l2, .slice e3 lc.vs.length l3, .slice e4 lc.cs.length l4, .int .u64 lc.laid] rfl rfl rfl Tryd.underlying29 rfl xk P_z.out ?_)
     go_wp2_with fail
     refine (A4c.out).mono ?_
     rintro e w16 ⟨x1, rfl, p1, hb16⟩
     replace P_m := hid (pb_below hb16 P_m.out Z_m)
     replace Z_m := Nat.lt_of_lt_of_le Z_m hb16.size
     replace P_s := hid (pb_below hb16 P_s.out Z_s)
     replace Z_s := Nat.lt_of_lt_of_le Z_s hb16.size
     replace P_z := hid (pb_below hb16 P_z.out Z_z)
     replace Z_z := Nat.lt_of_lt_of_le Z_z hb16.size
     have hz_w16 := hb16.size
     try simp only [World.size_alloc, World.size_setCell] at hz_w16
     have HB16 := xv hb16 HB15
     have D4_16 := xv hb16 D4_15
     have D12_16 := xv hb16 D12_15
     have D14_16 := xv hb16 D14_15
     clear D4_15 D12_15 D14_15
     obtain ⟨ya, yc, rfl, i1, -, n1, l1, -⟩ := row_of_owns p1
     have HLL := hid (And.intro i1 (And.intro l1 (fun q : ya = none => (n1 q).2)))
     clear hb16 p1 i1 n1 l1
     as_aux_lemma =>
     go_upto_region 20 with (fail)
     have hz5 := P_z.out 5 _ rfl
     have hs5 := P_s.out 5 _ rfl
     have SPL := fun he : le_ = 0 => hid (fun W' (h : Below w16.heap.size w16 W') => same_at (n := ll.length) (m := m) (ca := yc) (cb := pl) ((HLL.out.1.below h)) (((HE.out.2.2 he).2.1.below HB16.out).below h) rfl (HE.out.2.2 he).2.2.1 (by have := (HE.out.2.2 he).2.2.1; have := HM.out; omega) rfl)
     refine Code.wp_mono ?_ (GO_r20 w16 _ _ _ _ _ _ _ _ _ _ _ _ _ _ _ _ _ _ _ _ _ _ _ _ _ _ _ _ _ _ _ _ _ _ _ _ _ _ _ _ _ _ _ _ _ _ _ _ _ _ _ _ _ _ _ _ _ _ _ _ _ _ _ _ _ _ _ _ _ _ _ _ _ _ _ _ _ _ _ _ _ _ _ _ _ _ _ _ _ _ _ _ _ _ _ _ _ _ _ _ _ _ _ _ _ _ _ _ _ _ _ _ _ _ _ _ _ _ _ _ _ _ _ _ _ _ _ _ _ _ _ _ _ _ _ _ _ _ _ _ _ _ _ _ _ _ _ _ _ _ _ _ _ _ _ _ _ _ _ _ _ _ _ _ _ _ _ _ _ _ _ _ _ _ _ _ _ _ _ _ _ _ _ _ _ _ _ _ _ _ _ _ _ _ _ _ _ _ _ _ _ _ _ _ _ _ _ _ _ _ _ _ _ _ _ _ _ _ _ _ _ _ _ _ _ _ _ _ _ _ _ m pl ll.length yc _ _ la ya lb le_ _ _ hs5 hz5 (fun he => (HE.out.2.2 he).1) (fun he => by rw [(HE.out.2.2 he).2.2.2, IntWalk.u64_in (m : Int) (by have := HM.out; omega)]; simp) SPL)
     intro e a' w17 hq
     cases e with
     | exit id => exact hq.elim
     | goto l => exact hq.elim
     | ret => exact hq.elim
     | panic ch => exact hq.elim
     | outgrown => exact hq.elim
     | normal =>
     obtain ⟨hbq, u213, u214, u215, u216, u217, u218, u219, u220, u221, u222, u223, u224, u225, u226, u227, u228, u229, u230, u231, u232, u233, u234, u235, u236, rfl⟩ := hq
     have HBE := xv hbq HB16
     go_wp2
     go_ret
     exact ⟨rfl, HBE.out⟩
 · have g57 : (pe == 0) = false := by simpa using he
   clear he
   as_aux_lemma =>
   go_wp2_with (first | refine wpl_load 23 (.tmp 4) (w.heap.size) [.int .u8 c.tag, .int .i64 c.most, .int .i64 c.seg, .int .i64 c.least, .int .i64 c.den, .int .i64 c.ll, .int .i64 c.rl, .int .i64 c.rh, .int .i64 c.lh] rfl rfl rfl Tryd.underlying23 rfl xk P_m.out ?_ | refine wpl_load 29 (.tmp 5) (w.heap.size + 1) [.int .i64 s.seg, .slice wa s.ws.length wc, .slice ka s.ks.length kc, .slice va s.vs.length vc, .slice ca s.cs.length cc, .int .u64 s.laid] rfl rfl rfl Tryd.underlying29 rfl xk P_s.out ?_)
   go_wp2_with fail
   refine (TK.out _ HB6.out).mono ?_
   rintro e w7 ⟨x1, x2, x3, x4, rfl, p1, p2, p3, p4, hb7⟩
   replace P_m := hid (pb_below hb7 P_m.out Z_m)
   replace Z_m := Nat.lt_of_lt_of_le Z_m hb7.size
   replace P_s := hid (pb_below hb7 P_s.out Z_s)
   replace Z_s := Nat.lt_of_lt_of_le Z_s hb7.size
   have hz_w7 := hb7.size
   try simp only [World.size_alloc, World.size_setCell] at hz_w7
   have HB7 := xv hb7 HB6
   have D4_7 := xv hb7 D4_6
   clear D4_6
   obtain ⟨b1, j1, rfl, i1, -, -, -, -⟩ := row_of_owns p1
   obtain ⟨b2, j2, rfl, i2, -, -, -, -⟩ := row_of_owns p2
   obtain ⟨b3, j3, rfl, i3, -, -, -, -⟩ := row_of_owns p3
   obtain ⟨b4, j4, rfl, i4, -, -, hcc, -⟩ := row_of_owns p4
   have HIy : Hid (SlIn w7 tc ⟨b1, b2, b3, b4, j1, j2, j3, j4⟩) := hid ⟨i1, i2, i3, i4, HU.out.2.2.1⟩
   have HCCy := hid hcc
   clear hb7 p1 p2 p3 p4 i1 i2 i3 i4 hcc
   as_aux_lemma =>
   go_upto_region 14 with (refine wpl_store_new 29 (.tmp 21) (.tmp 147) #[.int .i64 0, .slice none 0 0, .slice none 0 0, .slice none 0 0, .slice none 0 0, .int .u64 0] #[.int .i64 tc.seg, .slice b1 tc.ws.length j1, .slice b2 tc.ks.length j2, .slice b3 tc.vs.length j3, .slice b4 tc.cs.length j4, .int .u64 tc.laid] rfl rfl rfl rfl xk rfl (by simp [Value.oneCell']) ?_)
   generalize hw8 : w7.alloc (.cells #[.int .i64 tc.seg, .slice b1 tc.ws.length j1, .slice b2 tc.ks.length j2, .slice b3 tc.vs.length j3, .slice b4 tc.cs.length j4, .int .u64 tc.laid] 29) = w8
   replace P_m : Hid (PB w8 (w.heap.size) [.int .u8 c.tag, .int .i64 c.most, .int .i64 c.seg, .int .i64 c.least, .int .i64 c.den, .int .i64 c.ll, .int .i64 c.rl, .int .i64 c.rh, .int .i64 c.lh]) := by rw [← hw8]; exact hid (pb_alloc (P_m.out) Z_m _)
   replace Z_m : w.heap.size < w8.heap.size := by rw [← hw8]; simp only [World.size_alloc]; omega
   replace P_s : Hid (PB w8 (w.heap.size + 1) [.int .i64 s.seg, .slice wa s.ws.length wc, .slice ka s.ks.length kc, .slice va s.vs.length vc, .slice ca s.cs.length cc, .int .u64 s.laid]) := by rw [← hw8]; exact hid (pb_alloc (P_s.out) Z_s _)
   replace Z_s : w.heap.size + 1 < w8.heap.size := by rw [← hw8]; simp only [World.size_alloc]; omega
   have P_y : Hid (PB w8 (w7.heap.size) [.int .i64 tc.seg, .slice b1 tc.ws.length j1, .slice b2 tc.ks.length j2, .slice b3 tc.vs.length j3, .slice b4 tc.cs.length j4, .int .u64 tc.laid]) := by rw [← hw8]; exact hid (pb_new _ _ _ (by simp))
   have Z_y : w7.heap.size < w8.heap.size := by rw [← hw8]; simp only [World.size_alloc]; omega
   have hb8 : Below w7.heap.size w7 w8 := by rw [← hw8]; exact (Below.refl _ _).alloc (Nat.le_refl _) _
   have HB8 := xv hb8 HB7
   have D4_8 := xv hb8 D4_7
   have D7_8 := hid (hb8)
   clear D4_7
   clear hw8 hb8
   as_aux_lemma =>
   by_cases he : te = 0
   · have g150 : (te == 0) = true := by simpa using he
     have A3c := hid ((A3 he).out w8 ⟨b1, b2, b3, b4, j1, j2, j3, j4⟩ (HIy.out.below D7_8.out))
     dsimp only [slV] at A3c
     obtain ⟨hwb, n, hkn, hn, hyl⟩ := HE.out.2.1 he
     have HN := hid (And.intro hwb (And.intro hkn (And.intro hn hyl)))
     clear he hwb hkn hn hyl
     go_wp2_with (first | refine wpl_load 29 (.tmp 21) (w7.heap.size) [.int .i64 tc.seg, .slice b1 tc.ws.length j1, .slice b2 tc.ks.length j2, .slice b3 tc.vs.length j3, .slice b4 tc.cs.length j4, .int .u64 tc.laid] rfl rfl rfl Tryd.underlying29 rfl xk P_y.out ?_)
     go_wp2_with fail
     refine (A3c.out).mono ?_
     rintro e w9 ⟨x1, rfl, p1, hb9⟩
     replace P_m := hid (pb_below hb9 P_m.out Z_m)
     replace Z_m := Nat.lt_of_lt_of_le Z_m hb9.size
     replace P_s := hid (pb_below hb9 P_s.out Z_s)
     replace Z_s := Nat.lt_of_lt_of_le Z_s hb9.size
     replace P_y := hid (pb_below hb9 P_y.out Z_y)
     replace Z_y := Nat.lt_of_lt_of_le Z_y hb9.size
     have hz_w9 := hb9.size
     try simp only [World.size_alloc, World.size_setCell] at hz_w9
     have HB9 := xv hb9 HB8
     have D4_9 := xv hb9 D4_8
     have D7_9 := xv hb9 D7_8
     clear D4_8 D7_8
     obtain ⟨za, zc, rfl, i1, -, n1, l1, -⟩ := row_of_owns p1
     have HYL := hid (And.intro i1 (And.intro l1 (fun q : za = none => (n1 q).2)))
     clear hb9 p1 i1 n1 l1
     as_aux_lemma =>
     go_upto_region 16 with (fail)
     obtain ⟨hwb, hkn, hn, hyl⟩ := HN.out
     first | subst hkn | (have h2 : n = n0 := xo
                          subst h2)
     first | subst hwb | clear hwb
     have hyn : yl.length = was.length - 1 := by rw [hyl, del_length hn]
     have hxw := HWAS.out.2.1
     have hyc := HYL.out.2.1
     have HXR := hid (HWAS.out.1.below D4_9.out)
     have HYR := hid HYL.out.1
     have rd := row_from (k := n) HYR.out rfl hyc xo HYL.out.2.2
     have rv := row_from (k := n + 1) HXR.out rfl hxw xo HWAS.out.2.2
     have HRD := hid rd.1
     have HRV := hid rv.1
     obtain ⟨dy, hdy⟩ : ∃ dy, (if zc = n then za else za.map (·.add (n * 2))) = dy := ⟨_, rfl⟩
     obtain ⟨dv, hdv⟩ : ∃ dv, (if xc = n + 1 then xa else xa.map (·.add ((n + 1) * 2))) = dv := ⟨_, rfl⟩
     rw [hdy] at HRD
     rw [hdv] at HRV
     have SQ1 := hid (fun W' (h : Below w9.heap.size w9 W') => same_at (n := n) (m := n) (ca := zc) (cb := xc) ((row_take HYR.out (k := n) xo).below h) ((row_take HXR.out (k := n) xo).below h) (by rw [List.length_take]; omega) (by rw [List.length_take]; omega) (by have := HWL.out; omega) (by rw [hyl, del_take hn]))
     have SQ2 := hid (fun W' (h : Below w9.heap.size w9 W') => same_at (n := yl.length - n) (m := was.length - (n + 1)) (ca := zc - n) (cb := xc - (n + 1)) (HRD.out.below h) (HRV.out.below h) (by rw [List.length_drop]) (by rw [List.length_drop]) (by have := HWL.out; omega) (by rw [hyl, del_drop hn]))
     have g3 : IntKind.i64.wrap ((was.length : Int) - 1) = (yl.length : Int) := by rw [IntWalk.i64_in _ (by have := HWL.out; omega)]; omega
     have g4 : IntKind.i64.wrap ((n : Int) + 1) = ((n + 1 : Nat) : Int) := by rw [IntWalk.i64_in _ (by have := HWL.out; omega)]; omega
     refine Code.wp_mono ?_ (GO_r16 w9 _ _ _ _ _ _ _ _ _ _ _ _ _ _ _ _ _ _ _ _ _ _ _ _ _ _ _ _ _ _ _ _ _ _ _ _ _ _ _ _ _ _ _ _ _ _ _ _ _ _ _ _ _ _ _ _ _ _ _ _ _ _ _ _ _ _ _ _ _ _ _ _ _ _ _ _ _ _ _ _ _ _ _ _ _ _ _ _ _ _ _ _ _ _ _ _ _ _ _ _ _ _ _ _ _ _ _ _ _ _ _ _ _ _ _ _ _ _ _ _ _ _ _ _ _ _ _ _ _ _ _ _ _ _ _ _ _ _ _ _ _ _ _ _ _ _ _ _ _ _ _ _ _ _ _ _ _ _ _ _ _ _ _ _ _ _ _ _ _ _ _ _ _ _ _ _ _ _ _ _ _ _ _ _ _ _ _ _ _ _ _ _ _ _ _ _ _ _ _ _ _ _ _ _ _ _ _ _ _ _ _ _ _ _ _ _ _ _ _ _ _ _ _ _ _ _ _ _ _ _ _ _ _ n (n + 1) was.length xc yl.length zc xa za dy dv hdy hdv (by first | (simp; done) | (simp; omega)) (by first | (simp; done) | (simp; omega)) (by first | (simp; done) | (simp; omega)) (by first | (simp; done) | (simp; omega)) (by first | (simp; done) | (simp; omega)) (by first | (simp; done) | (simp; omega)) g3 g4 xo hxw hyc xo xo xo SQ1 SQ2)
     intro e a' w10 hq
     cases e with
     | exit id => exact hq.elim
     | goto l => exact hq.elim
     | ret => exact hq.elim
     | panic ch => exact hq.elim
     | outgrown => exact hq.elim
     | normal =>
     obtain ⟨⟨dq, osq, hwq⟩, u156, u157, u158, u159, u160, u161, u162, u163, u164, u165, u166, u167, u168, u169, u170, u171, u172, u173, u174, u175, u176, u177, u178, u179, u180, u181, u182, u183, u184, u185, u186, u187, u188, u189, u190, u191, u192, u193, u194, u195, u196, u197, u198, u199, rfl⟩ := hq
     have hbq : Below w9.heap.size w9 w10 := by rw [hwq]; exact below_regrown w9 dq osq
     clear hwq SQ1 SQ2 HRD HRV HXR HYR rd rv hyn hyl hdy hdv hn hxw hyc g3 g4
     replace P_m := hid (pb_below hbq P_m.out Z_m)
     replace Z_m := Nat.lt_of_lt_of_le Z_m hbq.size
     replace P_s := hid (pb_below hbq P_s.out Z_s)
     replace Z_s := Nat.lt_of_lt_of_le Z_s hbq.size
     have hz_w10 := hbq.size
     try simp only [World.size_alloc, World.size_setCell] at hz_w10
     have HB10 := xv hbq HB9
     have D4_10 := xv hbq D4_9
     have D7_10 := xv hbq D7_9
     have D9_10 := hid (hbq)
     clear D4_9 D7_9
     clear hbq
     as_aux_lemma =>
     go_wp2_with (first | refine wpl_load 23 (.tmp 4) (w.heap.size) [.int .u8 c.tag, .int .i64 c.most, .int .i64 c.seg, .int .i64 c.least, .int .i64 c.den, .int .i64 c.ll, .int .i64 c.rl, .int .i64 c.rh, .int .i64 c.lh] rfl rfl rfl Tryd.underlying23 rfl xk P_m.out ?_ | refine wpl_load 29 (.tmp 5) (w.heap.size + 1) [.int .i64 s.seg, .slice wa s.ws.length wc, .slice ka s.ks.length kc, .slice va s.vs.length vc, .slice ca s.cs.length cc, .int .u64 s.laid] rfl rfl rfl Tryd.underlying29 rfl xk P_s.out ?_)
     go_wp2_with fail
     refine (LD.out _ HB10.out).mono ?_
     rintro e w11 ⟨x1, x2, x3, x4, rfl, p1, p2, p3, p4, hb11⟩
     replace P_m := hid (pb_below hb11 P_m.out Z_m)
     replace Z_m := Nat.lt_of_lt_of_le Z_m hb11.size
     replace P_s := hid (pb_below hb11 P_s.out Z_s)
     replace Z_s := Nat.lt_of_lt_of_le Z_s hb11.size
     have hz_w11 := hb11.size
     try simp only [World.size_alloc, World.size_setCell] at hz_w11
     have HB11 := xv hb11 HB10
     have D4_11 := xv hb11 D4_10
     have D7_11 := xv hb11 D7_10
     have D9_11 := xv hb11 D9_10
     clear D4_10 D7_10 D9_10
     obtain ⟨e1, l1, rfl, i1, -, -, -, -⟩ := row_of_owns p1
     obtain ⟨e2, l2, rfl, i2, -, -, -, -⟩ := row_of_owns p2
     obtain ⟨e3, l3, rfl, i3, -, -, -, -⟩ := row_of_owns p3
     obtain ⟨e4, l4, rfl, i4, -, -, hcc, -⟩ := row_of_owns p4
     have HIz : Hid (SlIn w11 lc ⟨e1, e2, e3, e4, l1, l2, l3, l4⟩) := hid ⟨i1, i2, i3, i4, HU.out.2.2.2⟩
     have HCCz := hid hcc
     clear hb11 p1 p2 p3 p4 i1 i2 i3 i4 hcc
     as_aux_lemma =>
     go_upto_region 19 with (refine wpl_store_new 29 (.tmp 25) (.tmp 206) #[.int .i64 0, .slice none 0 0, .slice none 0 0, .slice none 0 0, .slice none 0 0, .int .u64 0] #[.int .i64 lc.seg, .slice e1 lc.ws.length l1, .slice e2 lc.ks.length l2, .slice e3 lc.vs.length l3, .slice e4 lc.cs.length l4, .int .u64 lc.laid] rfl rfl rfl rfl xk rfl (by simp [Value.oneCell']) ?_)
     generalize hw12 : w11.alloc (.cells #[.int .i64 lc.seg, .slice e1 lc.ws.length l1, .slice e2 lc.ks.length l2, .slice e3 lc.vs.length l3, .slice e4 lc.cs.length l4, .int .u64 lc.laid] 29) = w12
     replace P_m : Hid (PB w12 (w.heap.size) [.int .u8 c.tag, .int .i64 c.most, .int .i64 c.seg, .int .i64 c.least, .int .i64 c.den, .int .i64 c.ll, .int .i64 c.rl, .int .i64 c.rh, .int .i64 c.lh]) := by rw [← hw12]; exact hid (pb_alloc (P_m.out) Z_m _)
     replace Z_m : w.heap.size < w12.heap.size := by rw [← hw12]; simp only [World.size_alloc]; omega
     replace P_s : Hid (PB w12 (w.heap.size + 1) [.int .i64 s.seg, .slice wa s.ws.length wc, .slice ka s.ks.length kc, .slice va s.vs.length vc, .slice ca s.cs.length cc, .int .u64 s.laid]) := by rw [← hw12]; exact hid (pb_alloc (P_s.out) Z_s _)
     replace Z_s : w.heap.size + 1 < w12.heap.size := by rw [← hw12]; simp only [World.size_alloc]; omega
     have P_z : Hid (PB w12 (w11.heap.size) [.int .i64 lc.seg, .slice e1 lc.ws.length l1, .slice e2 lc.ks.length l2, .slice e3 lc.vs.length l3, .slice e4 lc.cs.length l4, .int .u64 lc.laid]) := by rw [← hw12]; exact hid (pb_new _ _ _ (by simp))
     have Z_z : w11.heap.size < w12.heap.size := by rw [← hw12]; simp only [World.size_alloc]; omega
     have hb12 : Below w11.heap.size w11 w12 := by rw [← hw12]; exact (Below.refl _ _).alloc (Nat.le_refl _) _
     have HB12 := xv hb12 HB11
     have D4_12 := xv hb12 D4_11
     have D7_12 := xv hb12 D7_11
     have D9_12 := xv hb12 D9_11
     have D11_12 := hid (hb12)
     clear D4_11 D7_11 D9_11
     clear hw12 hb12
     have A4c := hid (A4.out w12 ⟨e1, e2, e3, e4, l1, l2, l3, l4⟩ (HIz.out.below D11_12.out))
     dsimp only [slV] at A4c
     go_wp2_with (first | refine wpl_load 29 (.tmp 25) (w11.heap.size) [.int .i64 lc.seg, .slice e1 lc.ws.length l1, .slice e2 lc.ks.length l2, .slice e3 lc.vs.length l3, .slice e4 lc.cs.length l4, .int .u64 lc.laid] rfl rfl rfl Tryd.underlying29 rfl xk P_z.out ?_)
     go_wp2_with fail
     refine (A4c.out).mono ?_
     rintro e w13 ⟨x1, rfl, p1, hb13⟩
     replace P_m := hid (pb_below hb13 P_m.out Z_m)
     replace Z_m := Nat.lt_of_lt_of_le Z_m hb13.size
     replace P_s := hid (pb_below hb13 P_s.out Z_s)
     replace Z_s := Nat.lt_of_lt_of_le Z_s hb13.size
     replace P_z := hid (pb_below hb13 P_z.out Z_z)
     replace Z_z := Nat.lt_of_lt_of_le Z_z hb13.size
     have hz_w13 := hb13.size
     try simp only [World.size_alloc, World.size_setCell] at hz_w13
     have HB13 := xv hb13 HB12
     have D4_13 := xv hb13 D4_12
     have D7_13 := xv hb13 D7_12
     have D9_13 := xv hb13 D9_12
     have D11_13 := xv hb13 D11_12
     clear D4_12 D7_12 D9_12 D11_12
     obtain ⟨ya, yc, rfl, i1, -, n1, l1, -⟩ := row_of_owns p1
     have HLL := hid (And.intro i1 (And.intro l1 (fun q : ya = none => (n1 q).2)))
     clear hb13 p1 i1 n1 l1
     as_aux_lemma =>
     go_upto_region 20 with (fail)
     have hz5 := P_z.out 5 _ rfl
     have hs5 := P_s.out 5 _ rfl
     have SPL := fun he : le_ = 0 => hid (fun W' (h : Below w13.heap.size w13 W') => same_at (n := ll.length) (m := m) (ca := yc) (cb := pl) ((HLL.out.1.below h)) (((HE.out.2.2 he).2.1.below HB13.out).below h) rfl (HE.out.2.2 he).2.2.1 (by have := (HE.out.2.2 he).2.2.1; have := HM.out; omega) rfl)
     refine Code.wp_mono ?_ (GO_r20 w13 _ _ _ _ _ _ _ _ _ _ _ _ _ _ _ _ _ _ _ _ _ _ _ _ _ _ _ _ _ _ _ _ _ _ _ _ _ _ _ _ _ _ _ _ _ _ _ _ _ _ _ _ _ _ _ _ _ _ _ _ _ _ _ _ _ _ _ _ _ _ _ _ _ _ _ _ _ _ _ _ _ _ _ _ _ _ _ _ _ _ _ _ _ _ _ _ _ _ _ _ _ _ _ _ _ _ _ _ _ _ _ _ _ _ _ _ _ _ _ _ _ _ _ _ _ _ _ _ _ _ _ _ _ _ _ _ _ _ _ _ _ _ _ _ _ _ _ _ _ _ _ _ _ _ _ _ _ _ _ _ _ _ _ _ _ _ _ _ _ _ _ _ _ _ _ _ _ _ _ _ _ _ _ _ _ _ _ _ _ _ _ _ _ _ _ _ _ _ _ _ _ _ _ _ _ _ _ _ _ _ _ _ _ _ _ _ _ _ _ _ _ _ _ _ _ _ _ _ _ _ _ m pl ll.length yc _ _ la ya lb le_ _ _ hs5 hz5 (fun he => (HE.out.2.2 he).1) (fun he => by rw [(HE.out.2.2 he).2.2.2, IntWalk.u64_in (m : Int) (by have := HM.out; omega)]; simp) SPL)
     intro e a' w14 hq
     cases e with
     | exit id => exact hq.elim
     | goto l => exact hq.elim
     | ret => exact hq.elim
     | panic ch => exact hq.elim
     | outgrown => exact hq.elim
     | normal =>
     obtain ⟨hbq, u213, u214, u215, u216, u217, u218, u219, u220, u221, u222, u223, u224, u225, u226, u227, u228, u229, u230, u231, u232, u233, u234, u235, u236, rfl⟩ := hq
     have HBE := xv hbq HB13
     go_wp2
     go_ret
     exact ⟨rfl, HBE.out⟩
   · have g150 : (te == 0) = false := by simpa using he
     clear he
     as_aux_lemma =>
     go_wp2_with (first | refine wpl_load 23 (.tmp 4) (w.heap.size) [.int .u8 c.tag, .int .i64 c.most, .int .i64 c.seg, .int .i64 c.least, .int .i64 c.den, .int .i64 c.ll, .int .i64 c.rl, .int .i64 c.rh, .int .i64 c.lh] rfl rfl rfl Tryd.underlying23 rfl xk P_m.out ?_ | refine wpl_load 29 (.tmp 5) (w.heap.size + 1) [.int .i64 s.seg, .slice wa s.ws.length wc, .slice ka s.ks.length kc, .slice va s.vs.length vc, .slice ca s.cs.length cc, .int .u64 s.laid] rfl rfl rfl Tryd.underlying29 rfl xk P_s.out ?_)
     go_wp2_with fail
     refine (LD.out _ HB8.out).mono ?_
     rintro e w9 ⟨x1, x2, x3, x4, rfl, p1, p2, p3, p4, hb9⟩
     replace P_m := hid (pb_below hb9 P_m.out Z_m)
     replace Z_m := Nat.lt_of_lt_of_le Z_m hb9.size
     replace P_s := hid (pb_below hb9 P_s.out Z_s)
     replace Z_s := Nat.lt_of_lt_of_le Z_s hb9.size
     have hz_w9 := hb9.size
     try simp only [World.size_alloc, World.size_setCell] at hz_w9
     have HB9 := xv hb9 HB8
     have D4_9 := xv hb9 D4_8
     have D7_9 := xv hb9 D7_8
     clear D4_8 D7_8
     obtain ⟨e1, l1, rfl, i1, -, -, -, -⟩ := row_of_owns p1
     obtain ⟨e2, l2, rfl, i2, -, -, -, -⟩ := row_of_owns p2
     obtain ⟨e3, l3, rfl, i3, -, -, -, -⟩ := row_of_owns p3
     obtain ⟨e4, l4, rfl, i4, -, -, hcc, -⟩ := row_of_owns p4
     have HIz : Hid (SlIn w9 lc ⟨e1, e2, e3, e4, l1, l2, l3, l4⟩) := hid ⟨i1, i2, i3, i4, HU.out.2.2.2⟩
     have HCCz := hid hcc
     clear hb9 p1 p2 p3 p4 i1 i2 i3 i4 hcc
     as_aux_lemma =>
     go_upto_region 19 with (refine wpl_store_new 29 (.tmp 25) (.tmp 206) #[.int .i64 0, .slice none 0 0, .slice none 0 0, .slice none 0 0, .slice none 0 0, .int .u64 0] #[.int .i64 lc.seg, .slice e1 lc.ws.length l1, .slice e2 lc.ks.length l2, .slice e3 lc.vs.length l3, .slice e4 lc.cs.length l4, .int .u64 lc.laid] rfl rfl rfl rfl xk rfl (by simp [Value.oneCell']) ?_)
     generalize hw10 : w9.alloc (.cells #[.int .i64 lc.seg, .slice e1 lc.ws.length l1, .slice e2 lc.ks.length l2, .slice e3 lc.vs.length l3, .slice e4 lc.cs.length l4, .int .u64 lc.laid] 29) = w10
     replace P_m : Hid (PB w10 (w.heap.size) [.int .u8 c.tag, .int .i64 c.most, .int .i64 c.seg, .int .i64 c.least, .int .i64 c.den, .int .i64 c.ll, .int .i64 c.rl, .int .i64 c.rh, .int .i64 c.lh]) := by rw [← hw10]; exact hid (pb_alloc (P_m.out) Z_m _)
     replace Z_m : w.heap.size < w10.heap.size := by rw [← hw10]; simp only [World.size_alloc]; omega
     replace P_s : Hid (PB w10 (w.heap.size + 1) [.int .i64 s.seg, .slice wa s.ws.length wc, .slice ka s.ks.length kc, .slice va s.vs.length vc, .slice ca s.cs.length cc, .int .u64 s.laid]) := by rw [← hw10]; exact hid (pb_alloc (P_s.out) Z_s _)
     replace Z_s : w.heap.size + 1 < w10.heap.size := by rw [← hw10]; simp only [World.size_alloc]; omega
     have P_z : Hid (PB w10 (w9.heap.size) [.int .i64 lc.seg, .slice e1 lc.ws.length l1, .slice e2 lc.ks.length l2, .slice e3 lc.vs.length l3, .slice e4 lc.cs.length l4, .int .u64 lc.laid]) := by rw [← hw10]; exact hid (pb_new _ _ _ (by simp))
     have Z_z : w9.heap.size < w10.heap.size := by rw [← hw10]; simp only [World.size_alloc]; omega
     have hb10 : Below w9.heap.size w9 w10 := by rw [← hw10]; exact (Below.refl _ _).alloc (Nat.le_refl _) _
     have HB10 := xv hb10 HB9
     have D4_10 := xv hb10 D4_9
     have D7_10 := xv hb10 D7_9
     have D9_10 := hid (hb10)
     clear D4_9 D7_9
     clear hw10 hb10
     have A4c := hid (A4.out w10 ⟨e1, e2, e3, e4, l1, l2, l3, l4⟩ (HIz.out.below D9_10.out))
     dsimp only [slV] at A4c
     go_wp2_with (first | refine wpl_load 29 (.tmp 25) (w9.heap.size) [.int .i64 lc.seg, .slice e1 lc.ws.length l1, .slice e2 lc.ks.length l2, .slice e3 lc.vs.length l3, .slice e4 lc.cs.length l4, .int .u64 lc.laid] rfl rfl rfl Tryd.underlying29 rfl xk P_z.out ?_)
     go_wp2_with fail
     refine (A4c.out).mono ?_
     rintro e w11 ⟨x1, rfl, p1, hb11⟩
     replace P_m := hid (pb_below hb11 P_m.out Z_m)
     replace Z_m := Nat.lt_of_lt_of_le Z_m hb11.size
     replace P_s := hid (pb_below hb11 P_s.out Z_s)
     replace Z_s := Nat.lt_of_lt_of_le Z_s hb11.size
     replace P_z := hid (pb_below hb11 P_z.out Z_z)
     replace Z_z := Nat.lt_of_lt_of_le Z_z hb11.size
     have hz_w11 := hb11.size
     try simp only [World.size_alloc, World.size_setCell] at hz_w11
     have HB11 := xv hb11 HB10
     have D4_11 := xv hb11 D4_10
     have D7_11 := xv hb11 D7_10
     have D9_11 := xv hb11 D9_10
     clear D4_10 D7_10 D9_10
     obtain ⟨ya, yc, rfl, i1, -, n1, l1, -⟩ := row_of_owns p1
     have HLL := hid (And.intro i1 (And.intro l1 (fun q : ya = none => (n1 q).2)))
     clear hb11 p1 i1 n1 l1
     as_aux_lemma =>
     go_upto_region 20 with (fail)
     have hz5 := P_z.out 5 _ rfl
     have hs5 := P_s.out 5 _ rfl
     have SPL := fun he : le_ = 0 => hid (fun W' (h : Below w11.heap.size w11 W') => same_at (n := ll.length) (m := m) (ca := yc) (cb := pl) ((HLL.out.1.below h)) (((HE.out.2.2 he).2.1.below HB11.out).below h) rfl (HE.out.2.2 he).2.2.1 (by have := (HE.out.2.2 he).2.2.1; have := HM.out; omega) rfl)
     refine Code.wp_mono ?_ (GO_r20 w11 _ _ _ _ _ _ _ _ _ _ _ _ _ _ _ _ _ _ _ _ _ _ _ _ _ _ _ _ _ _ _ _ _ _ _ _ _ _ _ _ _ _ _ _ _ _ _ _ _ _ _ _ _ _ _ _ _ _ _ _ _ _ _ _ _ _ _ _ _ _ _ _ _ _ _ _ _ _ _ _ _ _ _ _ _ _ _ _ _ _ _ _ _ _ _ _ _ _ _ _ _ _ _ _ _ _ _ _ _ _ _ _ _ _ _ _ _ _ _ _ _ _ _ _ _ _ _ _ _ _ _ _ _ _ _ _ _ _ _ _ _ _ _ _ _ _ _ _ _ _ _ _ _ _ _ _ _ _ _ _ _ _ _ _ _ _ _ _ _ _ _ _ _ _ _ _ _ _ _ _ _ _ _ _ _ _ _ _ _ _ _ _ _ _ _ _ _ _ _ _ _ _ _ _ _ _ _ _ _ _ _ _ _ _ _ _ _ _ _ _ _ _ _ _ _ _ _ _ _ _ _ m pl ll.length yc _ _ la ya lb le_ _ _ hs5 hz5 (fun he => (HE.out.2.2 he).1) (fun he => by rw [(HE.out.2.2 he).2.2.2, IntWalk.u64_in (m : Int) (by have := HM.out; omega)]; simp) SPL)
     intro e a' w12 hq
     cases e with
     | exit id => exact hq.elim
     | goto l => exact hq.elim
     | ret => exact hq.elim
     | panic ch => exact hq.elim
     | outgrown => exact hq.elim
     | normal =>
     obtain ⟨hbq, u213, u214, u215, u216, u217, u218, u219, u220, u221, u222, u223, u224, u225, u226, u227, u228, u229, u230, u231, u232, u233, u234, u235, u236, rfl⟩ := hq
     have HBE := xv hbq HB11
     go_wp2
     go_ret
     exact ⟨rfl, HBE.out⟩
end
end Go.Proofs.YtookgoidlnlckaaDoor

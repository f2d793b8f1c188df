/- Merged: GapCost. -/
import Derived.Test.YtookgoidlnlckaaDoorGapCostP22
import Derived.Test.YtookgoidlnlckaaDoorGapCostP29
import Derived.Test.YtookgoidlnlckaaDoorGapCostP30
import Derived.Test.YtookgoidlnlckaaDoorGapCostP8
namespace Go.Proofs.YtookgoidlnlckaaDoor
set_option maxRecDepth 100000
set_option maxHeartbeats 40000000
set_option linter.unusedVariables false
set_option linter.unusedSimpArgs false
section
open Go.RowKit Go.Shelf Go.Sort
def CostP (w : World) (s X : SlC) (e : Ending) (w' : World) : Prop := ∃ x y z, e = .returned (.tuple #[.int .i64 x, .int .i64 y, .bool z]) ∧ CostR s X x y z ∧ Below w.heap.size w w'
theorem GK_great (c : Cfg) (s : SlC) (wa ka va ca : Option Addr) (wc kc vc cc : Nat) (k px py : Int) (h : gr4 600 s.ks.length s.vs.length s.ws.length s.cs.length = true) (w : World)
    (AL : Hid (∀ (W : World), Below w.heap.size w W → Calls Tryd.prog 7 #[] W (AnsB W (.bool true)))) :
    Calls Tryd.prog 3 #[.agg #[.int .u8 c.tag, .int .i64 c.most, .int .i64 c.seg, .int .i64 c.least, .int .i64 c.den, .int .i64 c.ll, .int .i64 c.rl, .int .i64 c.rh, .int .i64 c.lh], .agg #[.int .i64 s.seg, .slice wa s.ws.length wc, .slice ka s.ks.length kc, .slice va s.vs.length vc, .slice ca s.cs.length cc, .int .u64 s.laid], .int .i64 k, .agg #[.int .i64 px, .int .i64 py]] w (AnsB w (.bool true)) := by
 have G1 := hid (fun W => Great04_ok s.seg wa ka va ca wc kc vc cc s.ws.length s.ks.length s.vs.length s.cs.length s.laid 600 W)
 rw [h] at G1
 clear h
 go_enter Tryd.func3, Tryd.ntmps3
 go_upto_region 1 with (fail)
 generalize hw0 : ((w.alloc (.cells #[.int .u8 c.tag, .int .i64 c.most, .int .i64 c.seg, .int .i64 c.least, .int .i64 c.den, .int .i64 c.ll, .int .i64 c.rl, .int .i64 c.rh, .int .i64 c.lh] 23)).alloc (.cells #[.int .i64 s.seg, .slice wa s.ws.length wc, .slice ka s.ks.length kc, .slice va s.vs.length vc, .slice ca s.cs.length cc, .int .u64 s.laid] 29)).alloc (.cells #[.int .i64 px, .int .i64 py] 31) = w0
 have P_m : Hid (PB w0 (w.heap.size) [.int .u8 c.tag, .int .i64 c.most, .int .i64 c.seg, .int .i64 c.least, .int .i64 c.den, .int .i64 c.ll, .int .i64 c.rl, .int .i64 c.rh, .int .i64 c.lh]) := by rw [← hw0]; exact hid (pb_alloc (pb_alloc (pb_new _ _ _ (by simp)) (by simp only [World.size_alloc]; omega) _) (by simp only [World.size_alloc]; omega) _)
 have Z_m : w.heap.size < w0.heap.size := by rw [← hw0]; simp only [World.size_alloc]; omega
 have P_s : Hid (PB w0 (w.heap.size + 1) [.int .i64 s.seg, .slice wa s.ws.length wc, .slice ka s.ks.length kc, .slice va s.vs.length vc, .slice ca s.cs.length cc, .int .u64 s.laid]) := by rw [← hw0]; exact hid (pb_alloc (pb_new _ _ _ (by simp)) (by simp only [World.size_alloc]; omega) _)
 have Z_s : w.heap.size + 1 < w0.heap.size := by rw [← hw0]; simp only [World.size_alloc]; omega
 have P_p : Hid (PB w0 (w.heap.size + 1 + 1) [.int .i64 px, .int .i64 py]) := by rw [← hw0]; exact hid (pb_new _ _ _ (by simp))
 have Z_p : w.heap.size + 1 + 1 < w0.heap.size := by rw [← hw0]; simp only [World.size_alloc]; omega
 have HB0 : Hid (Below w.heap.size w w0) := by rw [← hw0]; exact hid ((((Below.refl _ _).alloc (Nat.le_refl _) _).alloc (by simp) _).alloc (by simp; omega) _)
 clear hw0
 go_wp2_with fail
 refine (AL.out _ HB0.out).mono ?_
 rintro e w1 ⟨rfl, hb1⟩
 replace P_m := hid (pb_below hb1 P_m.out Z_m)
 replace Z_m := Nat.lt_of_lt_of_le Z_m hb1.size
 replace P_s := hid (pb_below hb1 P_s.out Z_s)
 replace Z_s := Nat.lt_of_lt_of_le Z_s hb1.size
 replace P_p := hid (pb_below hb1 P_p.out Z_p)
 replace Z_p := Nat.lt_of_lt_of_le Z_p hb1.size
 have hz_w1 := hb1.size
 try simp only [World.size_alloc, World.size_setCell] at hz_w1
 have HB1 := xv hb1 HB0
 clear hb1
 go_wp2_with (first | refine wpl_load 29 (.tmp 5) (w.heap.size + 1) [.int .i64 s.seg, .slice wa s.ws.length wc, .slice ka s.ks.length kc, .slice va s.vs.length vc, .slice ca s.cs.length cc, .int .u64 s.laid] rfl rfl rfl Tryd.underlying29 rfl xk P_s.out ?_)
 go_wp2_with fail
 refine (G1.out _).mono ?_
 rintro e w2 ⟨rfl, hb2⟩
 replace P_m := hid (pb_below hb2 P_m.out Z_m)
 replace Z_m := Nat.lt_of_lt_of_le Z_m hb2.size
 replace P_s := hid (pb_below hb2 P_s.out Z_s)
 replace Z_s := Nat.lt_of_lt_of_le Z_s hb2.size
 replace P_p := hid (pb_below hb2 P_p.out Z_p)
 replace Z_p := Nat.lt_of_lt_of_le Z_p hb2.size
 have hz_w2 := hb2.size
 try simp only [World.size_alloc, World.size_setCell] at hz_w2
 have HB2 := xv hb2 HB1
 clear hb2 G1
 go_wp2
 go_ret
 exact ⟨rfl, HB2.out⟩
theorem GK_in (c : Cfg) (s : SlC) (wa ka va ca : Option Addr) (wc kc vc cc : Nat) (k px py : Int) (pc bc tc : SlC) (pe te at1 at2 ee : Int) (w : World) (h : gr4 600 s.ks.length s.vs.length s.ws.length s.cs.length = false) (hpu : U64s pc.ws) (hbu : U64s bc.ws) (htu : U64s tc.ws) (hkp : pe = 0 → 0 ≤ k ∧ k ≤ 65536)
    (AL : Hid (∀ (W : World), Below w.heap.size w W → Calls Tryd.prog 7 #[] W (AnsB W (.bool true))))
    (PU : Hid (∀ (W : World), Below w.heap.size w W → Calls Tryd.prog 9 #[.agg #[.int .u8 c.tag, .int .i64 c.most, .int .i64 c.seg, .int .i64 c.least, .int .i64 c.den, .int .i64 c.ll, .int .i64 c.rl, .int .i64 c.rh, .int .i64 c.lh], .agg #[.int .i64 s.seg, .slice wa s.ws.length wc, .slice ka s.ks.length kc, .slice va s.vs.length vc, .slice ca s.cs.length cc, .int .u64 s.laid], .int .i64 k, .agg #[.int .i64 px, .int .i64 py]] W (FreshSl2 W pc (.int .i64 pe))))
    (TK : Hid (∀ (W : World), Below w.heap.size w W → Calls Tryd.prog 13 #[.agg #[.int .u8 c.tag, .int .i64 c.most, .int .i64 c.seg, .int .i64 c.least, .int .i64 c.den, .int .i64 c.ll, .int .i64 c.rl, .int .i64 c.rh, .int .i64 c.lh], .agg #[.int .i64 s.seg, .slice wa s.ws.length wc, .slice ka s.ks.length kc, .slice va s.vs.length vc, .slice ca s.cs.length cc, .int .u64 s.laid], .int .i64 k] W (FreshSl2 W tc (.int .i64 te))))
    (N1 : pe = 0 → Hid (∀ (W : World), Below w.heap.size w W → Calls Tryd.prog 10 #[.slice wa s.ws.length wc, .int .i64 s.ks.length, .int .i64 ((k.toNat - 1 : Nat) : Int)] W (AnsB W (.tuple #[.int .i64 at1, .int .i64 ee]))))
    (P1 : pe = 0 → Hid (∀ (W : World), Below w.heap.size w W → Calls Tryd.prog 11 #[.agg #[.int .u8 c.tag, .int .i64 c.most, .int .i64 c.seg, .int .i64 c.least, .int .i64 c.den, .int .i64 c.ll, .int .i64 c.rl, .int .i64 c.rh, .int .i64 c.lh], .agg #[.int .i64 s.seg, .slice wa s.ws.length wc, .slice ka s.ks.length kc, .slice va s.vs.length vc, .slice ca s.cs.length cc, .int .u64 s.laid], .int .i64 at1, .int .i64 1] W (CostP W s pc)))
    (C1 : pe = 0 → Hid (∀ (W : World) (a2 : SlA) (lo hi : Nat), lo ≤ hi → hi ≤ pc.ks.length → SlIn W pc a2 → Calls Tryd.prog 12 #[.slice a2.wa pc.ws.length a2.wc, .int .i64 pc.ks.length, .int .i64 lo, .int .i64 hi] W (AnsB W (.tuple #[.int .i64 (cntW pc.ws lo hi : Nat), .int .i64 0]))))
    (N2 : te = 0 → Hid (∀ (W : World), Below w.heap.size w W → Calls Tryd.prog 10 #[.slice wa s.ws.length wc, .int .i64 s.ks.length, .int .i64 k] W (AnsB W (.tuple #[.int .i64 at2, .int .i64 0]))))
    (CL : te = 0 → Hid (∀ (W : World), Below w.heap.size w W → Calls Tryd.prog 14 #[.agg #[.int .i64 s.seg, .slice wa s.ws.length wc, .slice ka s.ks.length kc, .slice va s.vs.length vc, .slice ca s.cs.length cc, .int .u64 s.laid], .int .i64 at2] W (FreshSl2 W bc (.int .i64 0))))
    (P2 : te = 0 → Hid (∀ (W : World) (a2 : SlA), Below w.heap.size w W → SlIn W bc a2 → Calls Tryd.prog 11 #[.agg #[.int .u8 c.tag, .int .i64 c.most, .int .i64 c.seg, .int .i64 c.least, .int .i64 c.den, .int .i64 c.ll, .int .i64 c.rl, .int .i64 c.rh, .int .i64 c.lh], slV bc a2, .int .i64 at2, .int .i64 0] W (CostP W s tc)))
    (C2 : te = 0 → Hid (∀ (W : World) (a2 : SlA) (lo hi : Nat), lo ≤ hi → hi ≤ tc.ks.length → SlIn W tc a2 → Calls Tryd.prog 12 #[.slice a2.wa tc.ws.length a2.wc, .int .i64 tc.ks.length, .int .i64 lo, .int .i64 hi] W (AnsB W (.tuple #[.int .i64 (cntW tc.ws lo hi : Nat), .int .i64 0])))) :
    Calls Tryd.prog 3 #[.agg #[.int .u8 c.tag, .int .i64 c.most, .int .i64 c.seg, .int .i64 c.least, .int .i64 c.den, .int .i64 c.ll, .int .i64 c.rl, .int .i64 c.rh, .int .i64 c.lh], .agg #[.int .i64 s.seg, .slice wa s.ws.length wc, .slice ka s.ks.length kc, .slice va s.vs.length vc, .slice ca s.cs.length cc, .int .u64 s.laid], .int .i64 k, .agg #[.int .i64 px, .int .i64 py]] w (AnsB w (.bool true)) := by
 have G1 := hid (fun W => Great04_ok s.seg wa ka va ca wc kc vc cc s.ws.length s.ks.length s.vs.length s.cs.length s.laid 600 W)
 rw [h] at G1
 clear h
 have HU := hid (And.intro hpu (And.intro hbu htu))
 clear hpu hbu htu
 go_enter Tryd.func3, Tryd.ntmps3
 go_upto_region 1 with (fail)
 generalize hw0 : ((w.alloc (.cells #[.int .u8 c.tag, .int .i64 c.most, .int .i64 c.seg, .int .i64 c.least, .int .i64 c.den, .int .i64 c.ll, .int .i64 c.rl, .int .i64 c.rh, .int .i64 c.lh] 23)).alloc (.cells #[.int .i64 s.seg, .slice wa s.ws.length wc, .slice ka s.ks.length kc, .slice va s.vs.length vc, .slice ca s.cs.length cc, .int .u64 s.laid] 29)).alloc (.cells #[.int .i64 px, .int .i64 py] 31) = w0
 have P_m : Hid (PB w0 (w.heap.size) [.int .u8 c.tag, .int .i64 c.most, .int .i64 c.seg, .int .i64 c.least, .int .i64 c.den, .int .i64 c.ll, .int .i64 c.rl, .int .i64 c.rh, .int .i64 c.lh]) := by rw [← hw0]; exact hid (pb_alloc (pb_alloc (pb_new _ _ _ (by simp)) (by simp only [World.size_alloc]; omega) _) (by simp only [World.size_alloc]; omega) _)
 have Z_m : w.heap.size < w0.heap.size := by rw [← hw0]; simp only [World.size_alloc]; omega
 have P_s : Hid (PB w0 (w.heap.size + 1) [.int .i64 s.seg, .slice wa s.ws.length wc, .slice ka s.ks.length kc, .slice va s.vs.length vc, .slice ca s.cs.length cc, .int .u64 s.laid]) := by rw [← hw0]; exact hid (pb_alloc (pb_new _ _ _ (by simp)) (by simp only [World.size_alloc]; omega) _)
 have Z_s : w.heap.size + 1 < w0.heap.size := by rw [← hw0]; simp only [World.size_alloc]; omega
 have P_p : Hid (PB w0 (w.heap.size + 1 + 1) [.int .i64 px, .int .i64 py]) := by rw [← hw0]; exact hid (pb_new _ _ _ (by simp))
 have Z_p : w.heap.size + 1 + 1 < w0.heap.size := by rw [← hw0]; simp only [World.size_alloc]; omega
 have HB0 : Hid (Below w.heap.size w w0) := by rw [← hw0]; exact hid ((((Below.refl _ _).alloc (Nat.le_refl _) _).alloc (by simp) _).alloc (by simp; omega) _)
 clear hw0
 go_wp2_with fail
 refine (AL.out _ HB0.out).mono ?_
 rintro e w1 ⟨rfl, hb1⟩
 replace P_m := hid (pb_below hb1 P_m.out Z_m)
 replace Z_m := Nat.lt_of_lt_of_le Z_m hb1.size
 replace P_s := hid (pb_below hb1 P_s.out Z_s)
 replace Z_s := Nat.lt_of_lt_of_le Z_s hb1.size
 replace P_p := hid (pb_below hb1 P_p.out Z_p)
 replace Z_p := Nat.lt_of_lt_of_le Z_p hb1.size
 have hz_w1 := hb1.size
 try simp only [World.size_alloc, World.size_setCell] at hz_w1
 have HB1 := xv hb1 HB0
 clear hb1
 go_wp2_with (first | refine wpl_load 29 (.tmp 5) (w.heap.size + 1) [.int .i64 s.seg, .slice wa s.ws.length wc, .slice ka s.ks.length kc, .slice va s.vs.length vc, .slice ca s.cs.length cc, .int .u64 s.laid] rfl rfl rfl Tryd.underlying29 rfl xk P_s.out ?_)
 go_wp2_with fail
 refine (G1.out _).mono ?_
 rintro e w2 ⟨rfl, hb2⟩
 replace P_m := hid (pb_below hb2 P_m.out Z_m)
 replace Z_m := Nat.lt_of_lt_of_le Z_m hb2.size
 replace P_s := hid (pb_below hb2 P_s.out Z_s)
 replace Z_s := Nat.lt_of_lt_of_le Z_s hb2.size
 replace P_p := hid (pb_below hb2 P_p.out Z_p)
 replace Z_p := Nat.lt_of_lt_of_le Z_p hb2.size
 have hz_w2 := hb2.size
 try simp only [World.size_alloc, World.size_setCell] at hz_w2
 have HB2 := xv hb2 HB1
 clear hb2 G1
 as_aux_lemma =>
 have c_s2 := P_s.out 2 _ rfl
 go_upto_region 5 with (fail)
 clear c_s2
 go_wp2_with (first | refine wpl_load 23 (.tmp 4) (w.heap.size) [.int .u8 c.tag, .int .i64 c.most, .int .i64 c.seg, .int .i64 c.least, .int .i64 c.den, .int .i64 c.ll, .int .i64 c.rl, .int .i64 c.rh, .int .i64 c.lh] rfl rfl rfl Tryd.underlying23 rfl xk P_m.out ?_ | refine wpl_load 29 (.tmp 5) (w.heap.size + 1) [.int .i64 s.seg, .slice wa s.ws.length wc, .slice ka s.ks.length kc, .slice va s.vs.length vc, .slice ca s.cs.length cc, .int .u64 s.laid] rfl rfl rfl Tryd.underlying29 rfl xk P_s.out ?_ | refine wpl_load 31 (.tmp 7) (w.heap.size + 1 + 1) [.int .i64 px, .int .i64 py] rfl rfl rfl Tryd.underlying31 rfl xk P_p.out ?_)
 go_wp2_with fail
 refine (PU.out _ HB2.out).mono ?_
 rintro e w3 ⟨x1, x2, x3, x4, rfl, p1, p2, p3, p4, hb3⟩
 replace P_m := hid (pb_below hb3 P_m.out Z_m)
 replace Z_m := Nat.lt_of_lt_of_le Z_m hb3.size
 replace P_s := hid (pb_below hb3 P_s.out Z_s)
 replace Z_s := Nat.lt_of_lt_of_le Z_s hb3.size
 replace P_p := hid (pb_below hb3 P_p.out Z_p)
 replace Z_p := Nat.lt_of_lt_of_le Z_p hb3.size
 have hz_w3 := hb3.size
 try simp only [World.size_alloc, World.size_setCell] at hz_w3
 have HB3 := xv hb3 HB2
 obtain ⟨a1, k1, rfl, i1, -, -, -, -⟩ := row_of_owns p1
 obtain ⟨a2, k2, rfl, i2, -, -, -, -⟩ := row_of_owns p2
 obtain ⟨a3, k3, rfl, i3, -, -, -, -⟩ := row_of_owns p3
 obtain ⟨a4, k4, rfl, i4, -, -, -, -⟩ := row_of_owns p4
 have HIx : Hid (SlIn w3 pc ⟨a1, a2, a3, a4, k1, k2, k3, k4⟩) := hid ⟨i1, i2, i3, i4, HU.out.1⟩
 clear hb3 p1 p2 p3 p4 i1 i2 i3 i4
 as_aux_lemma =>
 go_upto_region 6 with (refine wpl_store_new 29 (.tmp 11) (.tmp 48) #[.int .i64 0, .slice none 0 0, .slice none 0 0, .slice none 0 0, .slice none 0 0, .int .u64 0] #[.int .i64 pc.seg, .slice a1 pc.ws.length k1, .slice a2 pc.ks.length k2, .slice a3 pc.vs.length k3, .slice a4 pc.cs.length k4, .int .u64 pc.laid] rfl rfl rfl rfl xk rfl (by simp [Value.oneCell']) ?_)
 generalize hw4 : w3.alloc (.cells #[.int .i64 pc.seg, .slice a1 pc.ws.length k1, .slice a2 pc.ks.length k2, .slice a3 pc.vs.length k3, .slice a4 pc.cs.length k4, .int .u64 pc.laid] 29) = w4
 replace P_m : Hid (PB w4 (w.heap.size) [.int .u8 c.tag, .int .i64 c.most, .int .i64 c.seg, .int .i64 c.least, .int .i64 c.den, .int .i64 c.ll, .int .i64 c.rl, .int .i64 c.rh, .int .i64 c.lh]) := by rw [← hw4]; exact hid (pb_alloc (P_m.out) Z_m _)
 replace Z_m : w.heap.size < w4.heap.size := by rw [← hw4]; simp only [World.size_alloc]; omega
 replace P_s : Hid (PB w4 (w.heap.size + 1) [.int .i64 s.seg, .slice wa s.ws.length wc, .slice ka s.ks.length kc, .slice va s.vs.length vc, .slice ca s.cs.length cc, .int .u64 s.laid]) := by rw [← hw4]; exact hid (pb_alloc (P_s.out) Z_s _)
 replace Z_s : w.heap.size + 1 < w4.heap.size := by rw [← hw4]; simp only [World.size_alloc]; omega
 replace P_p : Hid (PB w4 (w.heap.size + 1 + 1) [.int .i64 px, .int .i64 py]) := by rw [← hw4]; exact hid (pb_alloc (P_p.out) Z_p _)
 replace Z_p : w.heap.size + 1 + 1 < w4.heap.size := by rw [← hw4]; simp only [World.size_alloc]; omega
 have P_x : Hid (PB w4 (w3.heap.size) [.int .i64 pc.seg, .slice a1 pc.ws.length k1, .slice a2 pc.ks.length k2, .slice a3 pc.vs.length k3, .slice a4 pc.cs.length k4, .int .u64 pc.laid]) := by rw [← hw4]; exact hid (pb_new _ _ _ (by simp))
 have Z_x : w3.heap.size < w4.heap.size := by rw [← hw4]; simp only [World.size_alloc]; omega
 have hb4 : Below w3.heap.size w3 w4 := by rw [← hw4]; exact (Below.refl _ _).alloc (Nat.le_refl _) _
 have HB4 := xv hb4 HB3
 have D3_4 := hid (hb4)
 clear hw4 hb4
 as_aux_lemma =>
 by_cases he : pe = 0
 · have g51 : (pe == 0) = true := by rw [he]; rfl
   have N1h := N1 he
   have P1h := P1 he
   have C1h := C1 he
   obtain ⟨hk0, hk1⟩ := hkp he
   obtain ⟨n, rfl⟩ : ∃ n : Nat, k = n := ⟨k.toNat, by omega⟩
   rw [Int.toNat_natCast] at N1h
   clear he hkp N1 P1 C1 hk0
   go_upto_region 7 with (fail)
   have c_s1 := P_s.out 1 _ rfl
   have NTc := hid (fun W' (h : Below w4.heap.size w4 W') => N1h.out W' (below_via h HB4.out HB4.out.size))
   refine Code.wp_mono ?_ (GK_r7 w4 _ _ _ _ _ _ _ _ _ _ _ _ _ _ _ _ _ _ _ _ _ _ _ _ _ _ _ _ _ _ _ _ _ _ _ _ _ _ _ _ _ _ _ _ _ _ _ _ _ _ _ _ _ _ _ _ _ _ _ _ _ _ _ _ _ _ _ _ _ _ _ _ _ _ _ _ _ _ _ _ _ _ _ _ _ _ _ _ _ _ _ _ _ _ _ _ _ _ _ _ _ _ _ _ _ _ _ _ _ _ _ _ _ _ _ _ _ _ _ _ _ _ _ _ _ _ _ _ _ _ _ _ _ _ _ _ _ _ _ _ _ _ _ _ _ _ _ _ _ _ _ _ _ _ _ _ _ _ _ _ _ _ _ _ _ _ _ _ _ _ _ _ _ _ _ _ _ _ _ _ _ _ _ n s.ks.length s.ws.length wc _ wa at1 ee xo c_s1 NTc)
   intro e a' w5 hq
   cases e with
   | exit id => exact hq.elim
   | goto l => exact hq.elim
   | ret => exact hq.elim
   | panic ch => exact hq.elim
   | outgrown => exact hq.elim
   | normal =>
   obtain ⟨hbq, u52, u53, u54, u55, u56, u57, u58, u59, u60, u61, rfl⟩ := hq
   clear NTc c_s1 N1h
   replace P_m := hid (pb_below hbq P_m.out Z_m)
   replace Z_m := Nat.lt_of_lt_of_le Z_m hbq.size
   replace P_s := hid (pb_below hbq P_s.out Z_s)
   replace Z_s := Nat.lt_of_lt_of_le Z_s hbq.size
   replace P_p := hid (pb_below hbq P_p.out Z_p)
   replace Z_p := Nat.lt_of_lt_of_le Z_p hbq.size
   replace P_x := hid (pb_below hbq P_x.out Z_x)
   replace Z_x := Nat.lt_of_lt_of_le Z_x hbq.size
   have hz_w5 := hbq.size
   try simp only [World.size_alloc, World.size_setCell] at hz_w5
   have HB5 := xv hbq HB4
   have D3_5 := xv hbq D3_4
   clear D3_4
   clear hbq
   as_aux_lemma =>
   go_wp2_with (first | refine wpl_load 23 (.tmp 4) (w.heap.size) [.int .u8 c.tag, .int .i64 c.most, .int .i64 c.seg, .int .i64 c.least, .int .i64 c.den, .int .i64 c.ll, .int .i64 c.rl, .int .i64 c.rh, .int .i64 c.lh] rfl rfl rfl Tryd.underlying23 rfl xk P_m.out ?_ | refine wpl_load 29 (.tmp 5) (w.heap.size + 1) [.int .i64 s.seg, .slice wa s.ws.length wc, .slice ka s.ks.length kc, .slice va s.vs.length vc, .slice ca s.cs.length cc, .int .u64 s.laid] rfl rfl rfl Tryd.underlying29 rfl xk P_s.out ?_)
   go_wp2_with fail
   refine (P1h.out _ HB5.out).mono ?_
   rintro e w6 ⟨x, y, z, rfl, hco, hb6⟩
   replace P_m := hid (pb_below hb6 P_m.out Z_m)
   replace Z_m := Nat.lt_of_lt_of_le Z_m hb6.size
   replace P_s := hid (pb_below hb6 P_s.out Z_s)
   replace Z_s := Nat.lt_of_lt_of_le Z_s hb6.size
   replace P_p := hid (pb_below hb6 P_p.out Z_p)
   replace Z_p := Nat.lt_of_lt_of_le Z_p hb6.size
   replace P_x := hid (pb_below hb6 P_x.out Z_x)
   replace Z_x := Nat.lt_of_lt_of_le Z_x hb6.size
   have hz_w6 := hb6.size
   try simp only [World.size_alloc, World.size_setCell] at hz_w6
   have HB6 := xv hb6 HB5
   have D3_6 := xv hb6 D3_5
   clear D3_5
   have HCO := hid hco
   clear hb6 hco P1h
   cases z with
   | true =>
    obtain ⟨lo, hi, hz1, hz2, hle, hhi, hlaid, hlen⟩ := HCO.out
    obtain ⟨hx, hy⟩ := hz1 rfl
    subst hx hy
    have hl104 : ((pc.ks.length : Int) == (s.ks.length : Int)) = true := by
     simp only [beq_iff_eq, true_eq_decide_iff] at hlen
     rw [beq_iff_eq, hlen]
    have HLD := hid hlaid
    have HLE := hid (And.intro hle hhi)
    clear hz1 hz2 hlen hlaid hle hhi HCO
    as_aux_lemma =>
    have CNc := hid (C1h.out w6 ⟨a1, a2, a3, a4, k1, k2, k3, k4⟩ lo hi HLE.out.1 HLE.out.2 (HIx.out.below D3_6.out))
    dsimp only at CNc
    have c_x1 := P_x.out 1 _ rfl
    have c_x2 := P_x.out 2 _ rfl
    go_wp2_with fail
    refine (CNc.out).mono ?_
    rintro e w7 ⟨rfl, hb7⟩
    replace P_m := hid (pb_below hb7 P_m.out Z_m)
    replace Z_m := Nat.lt_of_lt_of_le Z_m hb7.size
    replace P_s := hid (pb_below hb7 P_s.out Z_s)
    replace Z_s := Nat.lt_of_lt_of_le Z_s hb7.size
    replace P_p := hid (pb_below hb7 P_p.out Z_p)
    replace Z_p := Nat.lt_of_lt_of_le Z_p hb7.size
    replace P_x := hid (pb_below hb7 P_x.out Z_x)
    replace Z_x := Nat.lt_of_lt_of_le Z_x hb7.size
    have hz_w7 := hb7.size
    try simp only [World.size_alloc, World.size_setCell] at hz_w7
    have HB7 := xv hb7 HB6
    have D3_7 := xv hb7 D3_6
    clear D3_6
    clear hb7 CNc c_x1 c_x2
    as_aux_lemma =>
    have hlw := HLD.out
    generalize ((cntW pc.ws lo hi : Nat) : Int) = cn at *
    have c_x2 := P_x.out 2 _ rfl
    have c_x5 := P_x.out 5 _ rfl
    have c_s5 := P_s.out 5 _ rfl
    go_upto_region 14 with (fail)
    clear c_x2 c_x5 c_s5 hlw
    as_aux_lemma =>
    go_wp2_with (first | refine wpl_load 23 (.tmp 4) (w.heap.size) [.int .u8 c.tag, .int .i64 c.most, .int .i64 c.seg, .int .i64 c.least, .int .i64 c.den, .int .i64 c.ll, .int .i64 c.rl, .int .i64 c.rh, .int .i64 c.lh] rfl rfl rfl Tryd.underlying23 rfl xk P_m.out ?_ | refine wpl_load 29 (.tmp 5) (w.heap.size + 1) [.int .i64 s.seg, .slice wa s.ws.length wc, .slice ka s.ks.length kc, .slice va s.vs.length vc, .slice ca s.cs.length cc, .int .u64 s.laid] rfl rfl rfl Tryd.underlying29 rfl xk P_s.out ?_)
    go_wp2_with fail
    refine (TK.out _ HB7.out).mono ?_
    rintro e w8 ⟨x1, x2, x3, x4, rfl, p1, p2, p3, p4, hb8⟩
    replace P_m := hid (pb_below hb8 P_m.out Z_m)
    replace Z_m := Nat.lt_of_lt_of_le Z_m hb8.size
    replace P_s := hid (pb_below hb8 P_s.out Z_s)
    replace Z_s := Nat.lt_of_lt_of_le Z_s hb8.size
    have hz_w8 := hb8.size
    try simp only [World.size_alloc, World.size_setCell] at hz_w8
    have HB8 := xv hb8 HB7
    obtain ⟨b1, j1, rfl, i1, -, -, -, -⟩ := row_of_owns p1
    obtain ⟨b2, j2, rfl, i2, -, -, -, -⟩ := row_of_owns p2
    obtain ⟨b3, j3, rfl, i3, -, -, -, -⟩ := row_of_owns p3
    obtain ⟨b4, j4, rfl, i4, -, -, -, -⟩ := row_of_owns p4
    have HIy : Hid (SlIn w8 tc ⟨b1, b2, b3, b4, j1, j2, j3, j4⟩) := hid ⟨i1, i2, i3, i4, HU.out.2.2⟩
    clear hb8 p1 p2 p3 p4 i1 i2 i3 i4
    as_aux_lemma =>
    go_upto_region 15 with (refine wpl_store_new 29 (.tmp 20) (.tmp 112) #[.int .i64 0, .slice none 0 0, .slice none 0 0, .slice none 0 0, .slice none 0 0, .int .u64 0] #[.int .i64 tc.seg, .slice b1 tc.ws.length j1, .slice b2 tc.ks.length j2, .slice b3 tc.vs.length j3, .slice b4 tc.cs.length j4, .int .u64 tc.laid] rfl rfl rfl rfl xk rfl (by simp [Value.oneCell']) ?_)
    generalize hw9 : w8.alloc (.cells #[.int .i64 tc.seg, .slice b1 tc.ws.length j1, .slice b2 tc.ks.length j2, .slice b3 tc.vs.length j3, .slice b4 tc.cs.length j4, .int .u64 tc.laid] 29) = w9
    replace P_m : Hid (PB w9 (w.heap.size) [.int .u8 c.tag, .int .i64 c.most, .int .i64 c.seg, .int .i64 c.least, .int .i64 c.den, .int .i64 c.ll, .int .i64 c.rl, .int .i64 c.rh, .int .i64 c.lh]) := by rw [← hw9]; exact hid (pb_alloc (P_m.out) Z_m _)
    replace Z_m : w.heap.size < w9.heap.size := by rw [← hw9]; simp only [World.size_alloc]; omega
    replace P_s : Hid (PB w9 (w.heap.size + 1) [.int .i64 s.seg, .slice wa s.ws.length wc, .slice ka s.ks.length kc, .slice va s.vs.length vc, .slice ca s.cs.length cc, .int .u64 s.laid]) := by rw [← hw9]; exact hid (pb_alloc (P_s.out) Z_s _)
    replace Z_s : w.heap.size + 1 < w9.heap.size := by rw [← hw9]; simp only [World.size_alloc]; omega
    have P_y : Hid (PB w9 (w8.heap.size) [.int .i64 tc.seg, .slice b1 tc.ws.length j1, .slice b2 tc.ks.length j2, .slice b3 tc.vs.length j3, .slice b4 tc.cs.length j4, .int .u64 tc.laid]) := by rw [← hw9]; exact hid (pb_new _ _ _ (by simp))
    have Z_y : w8.heap.size < w9.heap.size := by rw [← hw9]; simp only [World.size_alloc]; omega
    have hb9 : Below w8.heap.size w8 w9 := by rw [← hw9]; exact (Below.refl _ _).alloc (Nat.le_refl _) _
    have HB9 := xv hb9 HB8
    have D8_9 := hid (hb9)
    clear hw9 hb9
    as_aux_lemma =>
    by_cases he : te = 0
    · have g115 : (te != 0) = false := by rw [he]; rfl
      have N2h := N2 he
      have CLh := CL he
      have P2h := P2 he
      have C2h := C2 he
      clear he
      have c_s1 := P_s.out 1 _ rfl
      go_wp2_with fail
      refine (N2h.out _ HB9.out).mono ?_
      rintro e w10 ⟨rfl, hb10⟩
      replace P_m := hid (pb_below hb10 P_m.out Z_m)
      replace Z_m := Nat.lt_of_lt_of_le Z_m hb10.size
      replace P_s := hid (pb_below hb10 P_s.out Z_s)
      replace Z_s := Nat.lt_of_lt_of_le Z_s hb10.size
      replace P_y := hid (pb_below hb10 P_y.out Z_y)
      replace Z_y := Nat.lt_of_lt_of_le Z_y hb10.size
      have hz_w10 := hb10.size
      try simp only [World.size_alloc, World.size_setCell] at hz_w10
      have HB10 := xv hb10 HB9
      have D8_10 := xv hb10 D8_9
      clear D8_9
      clear hb10 c_s1
      as_aux_lemma =>
      go_wp2_with (first | refine wpl_load 29 (.tmp 5) (w.heap.size + 1) [.int .i64 s.seg, .slice wa s.ws.length wc, .slice ka s.ks.length kc, .slice va s.vs.length vc, .slice ca s.cs.length cc, .int .u64 s.laid] rfl rfl rfl Tryd.underlying29 rfl xk P_s.out ?_)
      go_wp2_with fail
      refine (CLh.out _ HB10.out).mono ?_
      rintro e w11 ⟨x1, x2, x3, x4, rfl, p1, p2, p3, p4, hb11⟩
      replace P_m := hid (pb_below hb11 P_m.out Z_m)
      replace Z_m := Nat.lt_of_lt_of_le Z_m hb11.size
      replace P_s := hid (pb_below hb11 P_s.out Z_s)
      replace Z_s := Nat.lt_of_lt_of_le Z_s hb11.size
      replace P_y := hid (pb_below hb11 P_y.out Z_y)
      replace Z_y := Nat.lt_of_lt_of_le Z_y hb11.size
      have hz_w11 := hb11.size
      try simp only [World.size_alloc, World.size_setCell] at hz_w11
      have HB11 := xv hb11 HB10
      have D8_11 := xv hb11 D8_10
      clear D8_10
      obtain ⟨f1, g1, rfl, i1, -, -, -, -⟩ := row_of_owns p1
      obtain ⟨f2, g2, rfl, i2, -, -, -, -⟩ := row_of_owns p2
      obtain ⟨f3, g3, rfl, i3, -, -, -, -⟩ := row_of_owns p3
      obtain ⟨f4, g4, rfl, i4, -, -, -, -⟩ := row_of_owns p4
      have HIv : Hid (SlIn w11 bc ⟨f1, f2, f3, f4, g1, g2, g3, g4⟩) := hid ⟨i1, i2, i3, i4, HU.out.2.1⟩
      clear hb11 p1 p2 p3 p4 i1 i2 i3 i4
      as_aux_lemma =>
      go_upto_region 19 with (refine wpl_store_new 29 (.tmp 24) (.tmp 129) #[.int .i64 0, .slice none 0 0, .slice none 0 0, .slice none 0 0, .slice none 0 0, .int .u64 0] #[.int .i64 bc.seg, .slice f1 bc.ws.length g1, .slice f2 bc.ks.length g2, .slice f3 bc.vs.length g3, .slice f4 bc.cs.length g4, .int .u64 bc.laid] rfl rfl rfl rfl xk rfl (by simp [Value.oneCell']) ?_)
      generalize hw12 : w11.alloc (.cells #[.int .i64 bc.seg, .slice f1 bc.ws.length g1, .slice f2 bc.ks.length g2, .slice f3 bc.vs.length g3, .slice f4 bc.cs.length g4, .int .u64 bc.laid] 29) = w12
      replace P_m : Hid (PB w12 (w.heap.size) [.int .u8 c.tag, .int .i64 c.most, .int .i64 c.seg, .int .i64 c.least, .int .i64 c.den, .int .i64 c.ll, .int .i64 c.rl, .int .i64 c.rh, .int .i64 c.lh]) := by rw [← hw12]; exact hid (pb_alloc (P_m.out) Z_m _)
      replace Z_m : w.heap.size < w12.heap.size := by rw [← hw12]; simp only [World.size_alloc]; omega
      replace P_s : Hid (PB w12 (w.heap.size + 1) [.int .i64 s.seg, .slice wa s.ws.length wc, .slice ka s.ks.length kc, .slice va s.vs.length vc, .slice ca s.cs.length cc, .int .u64 s.laid]) := by rw [← hw12]; exact hid (pb_alloc (P_s.out) Z_s _)
      replace Z_s : w.heap.size + 1 < w12.heap.size := by rw [← hw12]; simp only [World.size_alloc]; omega
      replace P_y : Hid (PB w12 (w8.heap.size) [.int .i64 tc.seg, .slice b1 tc.ws.length j1, .slice b2 tc.ks.length j2, .slice b3 tc.vs.length j3, .slice b4 tc.cs.length j4, .int .u64 tc.laid]) := by rw [← hw12]; exact hid (pb_alloc (P_y.out) Z_y _)
      replace Z_y : w8.heap.size < w12.heap.size := by rw [← hw12]; simp only [World.size_alloc]; omega
      have P_v : Hid (PB w12 (w11.heap.size) [.int .i64 bc.seg, .slice f1 bc.ws.length g1, .slice f2 bc.ks.length g2, .slice f3 bc.vs.length g3, .slice f4 bc.cs.length g4, .int .u64 bc.laid]) := by rw [← hw12]; exact hid (pb_new _ _ _ (by simp))
      have Z_v : w11.heap.size < w12.heap.size := by rw [← hw12]; simp only [World.size_alloc]; omega
      have hb12 : Below w11.heap.size w11 w12 := by rw [← hw12]; exact (Below.refl _ _).alloc (Nat.le_refl _) _
      have HB12 := xv hb12 HB11
      have D8_12 := xv hb12 D8_11
      have D11_12 := hid (hb12)
      clear D8_11
      clear hw12 hb12
      as_aux_lemma =>
      have P2c := hid (P2h.out w12 ⟨f1, f2, f3, f4, g1, g2, g3, g4⟩ HB12.out (HIv.out.below D11_12.out))
      dsimp only [slV] at P2c
      go_wp2_with (first | refine wpl_load 23 (.tmp 4) (w.heap.size) [.int .u8 c.tag, .int .i64 c.most, .int .i64 c.seg, .int .i64 c.least, .int .i64 c.den, .int .i64 c.ll, .int .i64 c.rl, .int .i64 c.rh, .int .i64 c.lh] rfl rfl rfl Tryd.underlying23 rfl xk P_m.out ?_ | refine wpl_load 29 (.tmp 24) (w11.heap.size) [.int .i64 bc.seg, .slice f1 bc.ws.length g1, .slice f2 bc.ks.length g2, .slice f3 bc.vs.length g3, .slice f4 bc.cs.length g4, .int .u64 bc.laid] rfl rfl rfl Tryd.underlying29 rfl xk P_v.out ?_)
      go_wp2_with fail
      refine (P2c.out).mono ?_
      rintro e w13 ⟨x, y, z, rfl, hco, hb13⟩
      replace P_m := hid (pb_below hb13 P_m.out Z_m)
      replace Z_m := Nat.lt_of_lt_of_le Z_m hb13.size
      replace P_s := hid (pb_below hb13 P_s.out Z_s)
      replace Z_s := Nat.lt_of_lt_of_le Z_s hb13.size
      replace P_y := hid (pb_below hb13 P_y.out Z_y)
      replace Z_y := Nat.lt_of_lt_of_le Z_y hb13.size
      replace P_v := hid (pb_below hb13 P_v.out Z_v)
      replace Z_v := Nat.lt_of_lt_of_le Z_v hb13.size
      have hz_w13 := hb13.size
      try simp only [World.size_alloc, World.size_setCell] at hz_w13
      have HB13 := xv hb13 HB12
      have D8_13 := xv hb13 D8_12
      have D11_13 := xv hb13 D11_12
      clear D8_12 D11_12
      have HCO := hid hco
      clear hb13 hco P2c
      cases z with
      | true =>
       obtain ⟨lo, hi, hz1, hz2, hle, hhi, hlaid, hlen⟩ := HCO.out
       obtain ⟨hx, hy⟩ := hz1 rfl
       subst hx hy
       have hl104 : ((tc.ks.length : Int) == (s.ks.length : Int)) = true := by
        simp only [beq_iff_eq, true_eq_decide_iff] at hlen
        rw [beq_iff_eq, hlen]
       have HLD := hid hlaid
       have HLE := hid (And.intro hle hhi)
       clear hz1 hz2 hlen hlaid hle hhi HCO
       as_aux_lemma =>
       have CNc := hid (C2h.out w13 ⟨b1, b2, b3, b4, j1, j2, j3, j4⟩ lo hi HLE.out.1 HLE.out.2 (HIy.out.below D8_13.out))
       dsimp only at CNc
       have c_y1 := P_y.out 1 _ rfl
       have c_y2 := P_y.out 2 _ rfl
       go_wp2_with fail
       refine (CNc.out).mono ?_
       rintro e w14 ⟨rfl, hb14⟩
       replace P_s := hid (pb_below hb14 P_s.out Z_s)
       replace Z_s := Nat.lt_of_lt_of_le Z_s hb14.size
       replace P_y := hid (pb_below hb14 P_y.out Z_y)
       replace Z_y := Nat.lt_of_lt_of_le Z_y hb14.size
       have hz_w14 := hb14.size
       try simp only [World.size_alloc, World.size_setCell] at hz_w14
       have HB14 := xv hb14 HB13
       have D8_14 := xv hb14 D8_13
       have D11_14 := xv hb14 D11_13
       clear D8_13 D11_13
       clear hb14 CNc c_y1 c_y2
       as_aux_lemma =>
       have hlw := HLD.out
       generalize ((cntW tc.ws lo hi : Nat) : Int) = cn at *
       have c_y2 := P_y.out 2 _ rfl
       have c_y5 := P_y.out 5 _ rfl
       have c_s5 := P_s.out 5 _ rfl
       go_wp2
       go_ret
       exact ⟨rfl, HB14.out⟩
      | false =>
       obtain ⟨lo, hi, hz1, hz2, hle, hhi, hlaid, hlen⟩ := HCO.out
       obtain ⟨hx, hy⟩ := hz2 rfl
       subst hx hy
       have hl104 : ((tc.ks.length : Int) == (s.ks.length : Int)) = false := by
        simp only [beq_iff_eq, false_eq_decide_iff] at hlen
        rw [beq_eq_false_iff_ne]; omega
       have HLD := hid hlaid
       have HLE := hid (And.intro hle hhi)
       clear hz1 hz2 hlen hlaid hle hhi HCO
       have c_y2 := P_y.out 2 _ rfl
       go_upto_region 23 with (fail)
       have q0 := cell_regrown c_y2
       refine wp_region_quiet_below xk xk ?_
       repeat (first | go_big_quiet_skip | (go_big_quiet_want; (first | fail); (conv => arg 1; simp only [Act.put, List.setIfInBounds_toArray, List.set_cons_succ, List.set_cons_zero]); go_big_quiet_on) | go_big_quiet_step (fail))
       refine wpQuiet_nil ?_
       intro _ hw'
       obtain ⟨⟨dq, osq⟩, hw''⟩ := hw'
       subst hw''
       have hbq := below_regrown w13 dq osq
       clear q0
       generalize Sort.grow (redrawn w13 dq) osq = w14 at *
       clear c_y2
       replace P_s := hid (pb_below hbq P_s.out Z_s)
       replace Z_s := Nat.lt_of_lt_of_le Z_s hbq.size
       replace P_y := hid (pb_below hbq P_y.out Z_y)
       replace Z_y := Nat.lt_of_lt_of_le Z_y hbq.size
       have hz_w14 := hbq.size
       try simp only [World.size_alloc, World.size_setCell] at hz_w14
       have HB14 := xv hbq HB13
       have D8_14 := xv hbq D8_13
       have D11_14 := xv hbq D11_13
       clear D8_13 D11_13
       clear hbq
       as_aux_lemma =>
       have CNc := hid (C2h.out w14 ⟨b1, b2, b3, b4, j1, j2, j3, j4⟩ 0 tc.ks.length HLE.out.1 HLE.out.2 (HIy.out.below D8_14.out))
       dsimp only at CNc
       have c_y1 := P_y.out 1 _ rfl
       have c_y2 := P_y.out 2 _ rfl
       rw [show ((0 : Nat) : Int) = 0 from rfl] at CNc
       go_wp2_with fail
       refine (CNc.out).mono ?_
       rintro e w15 ⟨rfl, hb15⟩
       replace P_s := hid (pb_below hb15 P_s.out Z_s)
       replace Z_s := Nat.lt_of_lt_of_le Z_s hb15.size
       replace P_y := hid (pb_below hb15 P_y.out Z_y)
       replace Z_y := Nat.lt_of_lt_of_le Z_y hb15.size
       have hz_w15 := hb15.size
       try simp only [World.size_alloc, World.size_setCell] at hz_w15
       have HB15 := xv hb15 HB14
       have D8_15 := xv hb15 D8_14
       have D11_15 := xv hb15 D11_14
       clear D8_14 D11_14
       clear hb15 CNc c_y1 c_y2
       as_aux_lemma =>
       have hlw := HLD.out
       generalize ((cntW tc.ws 0 tc.ks.length : Nat) : Int) = cn at *
       have c_y2 := P_y.out 2 _ rfl
       have c_y5 := P_y.out 5 _ rfl
       have c_s5 := P_s.out 5 _ rfl
       go_wp2
       go_ret
       exact ⟨rfl, HB15.out⟩
    · have g115 : (te != 0) = true := by simpa using he
      clear he
      go_wp2
      go_ret
      exact ⟨rfl, HB9.out⟩
   | false =>
    obtain ⟨lo, hi, hz1, hz2, hle, hhi, hlaid, hlen⟩ := HCO.out
    obtain ⟨hx, hy⟩ := hz2 rfl
    subst hx hy
    have hl104 : ((pc.ks.length : Int) == (s.ks.length : Int)) = false := by
     simp only [beq_iff_eq, false_eq_decide_iff] at hlen
     rw [beq_eq_false_iff_ne]; omega
    have HLD := hid hlaid
    have HLE := hid (And.intro hle hhi)
    clear hz1 hz2 hlen hlaid hle hhi HCO
    have c_x2 := P_x.out 2 _ rfl
    go_upto_region 10 with (fail)
    have q0 := cell_regrown c_x2
    refine wp_region_quiet_below xk xk ?_
    repeat (first | go_big_quiet_skip | (go_big_quiet_want; (first | fail); (conv => arg 1; simp only [Act.put, List.setIfInBounds_toArray, List.set_cons_succ, List.set_cons_zero]); go_big_quiet_on) | go_big_quiet_step (fail))
    refine wpQuiet_nil ?_
    intro _ hw'
    obtain ⟨⟨dq, osq⟩, hw''⟩ := hw'
    subst hw''
    have hbq := below_regrown w6 dq osq
    clear q0
    generalize Sort.grow (redrawn w6 dq) osq = w7 at *
    clear c_x2
    replace P_m := hid (pb_below hbq P_m.out Z_m)
    replace Z_m := Nat.lt_of_lt_of_le Z_m hbq.size
    replace P_s := hid (pb_below hbq P_s.out Z_s)
    replace Z_s := Nat.lt_of_lt_of_le Z_s hbq.size
    replace P_p := hid (pb_below hbq P_p.out Z_p)
    replace Z_p := Nat.lt_of_lt_of_le Z_p hbq.size
    replace P_x := hid (pb_below hbq P_x.out Z_x)
    replace Z_x := Nat.lt_of_lt_of_le Z_x hbq.size
    have hz_w7 := hbq.size
    try simp only [World.size_alloc, World.size_setCell] at hz_w7
    have HB7 := xv hbq HB6
    have D3_7 := xv hbq D3_6
    clear D3_6
    clear hbq
    as_aux_lemma =>
    have CNc := hid (C1h.out w7 ⟨a1, a2, a3, a4, k1, k2, k3, k4⟩ 0 pc.ks.length HLE.out.1 HLE.out.2 (HIx.out.below D3_7.out))
    dsimp only at CNc
    have c_x1 := P_x.out 1 _ rfl
    have c_x2 := P_x.out 2 _ rfl
    rw [show ((0 : Nat) : Int) = 0 from rfl] at CNc
    go_wp2_with fail
    refine (CNc.out).mono ?_
    rintro e w8 ⟨rfl, hb8⟩
    replace P_m := hid (pb_below hb8 P_m.out Z_m)
    replace Z_m := Nat.lt_of_lt_of_le Z_m hb8.size
    replace P_s := hid (pb_below hb8 P_s.out Z_s)
    replace Z_s := Nat.lt_of_lt_of_le Z_s hb8.size
    replace P_p := hid (pb_below hb8 P_p.out Z_p)
    replace Z_p := Nat.lt_of_lt_of_le Z_p hb8.size
    replace P_x := hid (pb_below hb8 P_x.out Z_x)
    replace Z_x := Nat.lt_of_lt_of_le Z_x hb8.size
    have hz_w8 := hb8.size
    try simp only [World.size_alloc, World.size_setCell] at hz_w8
    have HB8 := xv hb8 HB7
    have D3_8 := xv hb8 D3_7
    clear D3_7
    clear hb8 CNc c_x1 c_x2
    as_aux_lemma =>
    have hlw := HLD.out
    generalize ((cntW pc.ws 0 pc.ks.length : Nat) : Int) = cn at *
    have c_x2 := P_x.out 2 _ rfl
    have c_x5 := P_x.out 5 _ rfl
    have c_s5 := P_s.out 5 _ rfl
    go_upto_region 14 with (fail)
    clear c_x2 c_x5 c_s5 hlw
    as_aux_lemma =>
    go_wp2_with (first | refine wpl_load 23 (.tmp 4) (w.heap.size) [.int .u8 c.tag, .int .i64 c.most, .int .i64 c.seg, .int .i64 c.least, .int .i64 c.den, .int .i64 c.ll, .int .i64 c.rl, .int .i64 c.rh, .int .i64 c.lh] rfl rfl rfl Tryd.underlying23 rfl xk P_m.out ?_ | refine wpl_load 29 (.tmp 5) (w.heap.size + 1) [.int .i64 s.seg, .slice wa s.ws.length wc, .slice ka s.ks.length kc, .slice va s.vs.length vc, .slice ca s.cs.length cc, .int .u64 s.laid] rfl rfl rfl Tryd.underlying29 rfl xk P_s.out ?_)
    go_wp2_with fail
    refine (TK.out _ HB8.out).mono ?_
    rintro e w9 ⟨x1, x2, x3, x4, rfl, p1, p2, p3, p4, hb9⟩
    replace P_m := hid (pb_below hb9 P_m.out Z_m)
    replace Z_m := Nat.lt_of_lt_of_le Z_m hb9.size
    replace P_s := hid (pb_below hb9 P_s.out Z_s)
    replace Z_s := Nat.lt_of_lt_of_le Z_s hb9.size
    have hz_w9 := hb9.size
    try simp only [World.size_alloc, World.size_setCell] at hz_w9
    have HB9 := xv hb9 HB8
    obtain ⟨b1, j1, rfl, i1, -, -, -, -⟩ := row_of_owns p1
    obtain ⟨b2, j2, rfl, i2, -, -, -, -⟩ := row_of_owns p2
    obtain ⟨b3, j3, rfl, i3, -, -, -, -⟩ := row_of_owns p3
    obtain ⟨b4, j4, rfl, i4, -, -, -, -⟩ := row_of_owns p4
    have HIy : Hid (SlIn w9 tc ⟨b1, b2, b3, b4, j1, j2, j3, j4⟩) := hid ⟨i1, i2, i3, i4, HU.out.2.2⟩
    clear hb9 p1 p2 p3 p4 i1 i2 i3 i4
    as_aux_lemma =>
    go_upto_region 15 with (refine wpl_store_new 29 (.tmp 20) (.tmp 112) #[.int .i64 0, .slice none 0 0, .slice none 0 0, .slice none 0 0, .slice none 0 0, .int .u64 0] #[.int .i64 tc.seg, .slice b1 tc.ws.length j1, .slice b2 tc.ks.length j2, .slice b3 tc.vs.length j3, .slice b4 tc.cs.length j4, .int .u64 tc.laid] rfl rfl rfl rfl xk rfl (by simp [Value.oneCell']) ?_)
    generalize hw10 : w9.alloc (.cells #[.int .i64 tc.seg, .slice b1 tc.ws.length j1, .slice b2 tc.ks.length j2, .slice b3 tc.vs.length j3, .slice b4 tc.cs.length j4, .int .u64 tc.laid] 29) = w10
    replace P_m : Hid (PB w10 (w.heap.size) [.int .u8 c.tag, .int .i64 c.most, .int .i64 c.seg, .int .i64 c.least, .int .i64 c.den, .int .i64 c.ll, .int .i64 c.rl, .int .i64 c.rh, .int .i64 c.lh]) := by rw [← hw10]; exact hid (pb_alloc (P_m.out) Z_m _)
    replace Z_m : w.heap.size < w10.heap.size := by rw [← hw10]; simp only [World.size_alloc]; omega
    replace P_s : Hid (PB w10 (w.heap.size + 1) [.int .i64 s.seg, .slice wa s.ws.length wc, .slice ka s.ks.length kc, .slice va s.vs.length vc, .slice ca s.cs.length cc, .int .u64 s.laid]) := by rw [← hw10]; exact hid (pb_alloc (P_s.out) Z_s _)
    replace Z_s : w.heap.size + 1 < w10.heap.size := by rw [← hw10]; simp only [World.size_alloc]; omega
    have P_y : Hid (PB w10 (w9.heap.size) [.int .i64 tc.seg, .slice b1 tc.ws.length j1, .slice b2 tc.ks.length j2, .slice b3 tc.vs.length j3, .slice b4 tc.cs.length j4, .int .u64 tc.laid]) := by rw [← hw10]; exact hid (pb_new _ _ _ (by simp))
    have Z_y : w9.heap.size < w10.heap.size := by rw [← hw10]; simp only [World.size_alloc]; omega
    have hb10 : Below w9.heap.size w9 w10 := by rw [← hw10]; exact (Below.refl _ _).alloc (Nat.le_refl _) _
    have HB10 := xv hb10 HB9
    have D9_10 := hid (hb10)
    clear hw10 hb10
    as_aux_lemma =>
    by_cases he : te = 0
    · have g115 : (te != 0) = false := by rw [he]; rfl
      have N2h := N2 he
      have CLh := CL he
      have P2h := P2 he
      have C2h := C2 he
      clear he
      have c_s1 := P_s.out 1 _ rfl
      go_wp2_with fail
      refine (N2h.out _ HB10.out).mono ?_
      rintro e w11 ⟨rfl, hb11⟩
      replace P_m := hid (pb_below hb11 P_m.out Z_m)
      replace Z_m := Nat.lt_of_lt_of_le Z_m hb11.size
      replace P_s := hid (pb_below hb11 P_s.out Z_s)
      replace Z_s := Nat.lt_of_lt_of_le Z_s hb11.size
      replace P_y := hid (pb_below hb11 P_y.out Z_y)
      replace Z_y := Nat.lt_of_lt_of_le Z_y hb11.size
      have hz_w11 := hb11.size
      try simp only [World.size_alloc, World.size_setCell] at hz_w11
      have HB11 := xv hb11 HB10
      have D9_11 := xv hb11 D9_10
      clear D9_10
      clear hb11 c_s1
      as_aux_lemma =>
      go_wp2_with (first | refine wpl_load 29 (.tmp 5) (w.heap.size + 1) [.int .i64 s.seg, .slice wa s.ws.length wc, .slice ka s.ks.length kc, .slice va s.vs.length vc, .slice ca s.cs.length cc, .int .u64 s.laid] rfl rfl rfl Tryd.underlying29 rfl xk P_s.out ?_)
      go_wp2_with fail
      refine (CLh.out _ HB11.out).mono ?_
      rintro e w12 ⟨x1, x2, x3, x4, rfl, p1, p2, p3, p4, hb12⟩
      replace P_m := hid (pb_below hb12 P_m.out Z_m)
      replace Z_m := Nat.lt_of_lt_of_le Z_m hb12.size
      replace P_s := hid (pb_below hb12 P_s.out Z_s)
      replace Z_s := Nat.lt_of_lt_of_le Z_s hb12.size
      replace P_y := hid (pb_below hb12 P_y.out Z_y)
      replace Z_y := Nat.lt_of_lt_of_le Z_y hb12.size
      have hz_w12 := hb12.size
      try simp only [World.size_alloc, World.size_setCell] at hz_w12
      have HB12 := xv hb12 HB11
      have D9_12 := xv hb12 D9_11
      clear D9_11
      obtain ⟨f1, g1, rfl, i1, -, -, -, -⟩ := row_of_owns p1
      obtain ⟨f2, g2, rfl, i2, -, -, -, -⟩ := row_of_owns p2
      obtain ⟨f3, g3, rfl, i3, -, -, -, -⟩ := row_of_owns p3
      obtain ⟨f4, g4, rfl, i4, -, -, -, -⟩ := row_of_owns p4
      have HIv : Hid (SlIn w12 bc ⟨f1, f2, f3, f4, g1, g2, g3, g4⟩) := hid ⟨i1, i2, i3, i4, HU.out.2.1⟩
      clear hb12 p1 p2 p3 p4 i1 i2 i3 i4
      as_aux_lemma =>
      go_upto_region 19 with (refine wpl_store_new 29 (.tmp 24) (.tmp 129) #[.int .i64 0, .slice none 0 0, .slice none 0 0, .slice none 0 0, .slice none 0 0, .int .u64 0] #[.int .i64 bc.seg, .slice f1 bc.ws.length g1, .slice f2 bc.ks.length g2, .slice f3 bc.vs.length g3, .slice f4 bc.cs.length g4, .int .u64 bc.laid] rfl rfl rfl rfl xk rfl (by simp [Value.oneCell']) ?_)
      generalize hw13 : w12.alloc (.cells #[.int .i64 bc.seg, .slice f1 bc.ws.length g1, .slice f2 bc.ks.length g2, .slice f3 bc.vs.length g3, .slice f4 bc.cs.length g4, .int .u64 bc.laid] 29) = w13
      replace P_m : Hid (PB w13 (w.heap.size) [.int .u8 c.tag, .int .i64 c.most, .int .i64 c.seg, .int .i64 c.least, .int .i64 c.den, .int .i64 c.ll, .int .i64 c.rl, .int .i64 c.rh, .int .i64 c.lh]) := by rw [← hw13]; exact hid (pb_alloc (P_m.out) Z_m _)
      replace Z_m : w.heap.size < w13.heap.size := by rw [← hw13]; simp only [World.size_alloc]; omega
      replace P_s : Hid (PB w13 (w.heap.size + 1) [.int .i64 s.seg, .slice wa s.ws.length wc, .slice ka s.ks.length kc, .slice va s.vs.length vc, .slice ca s.cs.length cc, .int .u64 s.laid]) := by rw [← hw13]; exact hid (pb_alloc (P_s.out) Z_s _)
      replace Z_s : w.heap.size + 1 < w13.heap.size := by rw [← hw13]; simp only [World.size_alloc]; omega
      replace P_y : Hid (PB w13 (w9.heap.size) [.int .i64 tc.seg, .slice b1 tc.ws.length j1, .slice b2 tc.ks.length j2, .slice b3 tc.vs.length j3, .slice b4 tc.cs.length j4, .int .u64 tc.laid]) := by rw [← hw13]; exact hid (pb_alloc (P_y.out) Z_y _)
      replace Z_y : w9.heap.size < w13.heap.size := by rw [← hw13]; simp only [World.size_alloc]; omega
      have P_v : Hid (PB w13 (w12.heap.size) [.int .i64 bc.seg, .slice f1 bc.ws.length g1, .slice f2 bc.ks.length g2, .slice f3 bc.vs.length g3, .slice f4 bc.cs.length g4, .int .u64 bc.laid]) := by rw [← hw13]; exact hid (pb_new _ _ _ (by simp))
      have Z_v : w12.heap.size < w13.heap.size := by rw [← hw13]; simp only [World.size_alloc]; omega
      have hb13 : Below w12.heap.size w12 w13 := by rw [← hw13]; exact (Below.refl _ _).alloc (Nat.le_refl _) _
      have HB13 := xv hb13 HB12
      have D9_13 := xv hb13 D9_12
      have D12_13 := hid (hb13)
      clear D9_12
      clear hw13 hb13
      as_aux_lemma =>
      have P2c := hid (P2h.out w13 ⟨f1, f2, f3, f4, g1, g2, g3, g4⟩ HB13.out (HIv.out.below D12_13.out))
      dsimp only [slV] at P2c
      go_wp2_with (first | refine wpl_load 23 (.tmp 4) (w.heap.size) [.int .u8 c.tag, .int .i64 c.most, .int .i64 c.seg, .int .i64 c.least, .int .i64 c.den, .int .i64 c.ll, .int .i64 c.rl, .int .i64 c.rh, .int .i64 c.lh] rfl rfl rfl Tryd.underlying23 rfl xk P_m.out ?_ | refine wpl_load 29 (.tmp 24) (w12.heap.size) [.int .i64 bc.seg, .slice f1 bc.ws.length g1, .slice f2 bc.ks.length g2, .slice f3 bc.vs.length g3, .slice f4 bc.cs.length g4, .int .u64 bc.laid] rfl rfl rfl Tryd.underlying29 rfl xk P_v.out ?_)
      go_wp2_with fail
      refine (P2c.out).mono ?_
      rintro e w14 ⟨x, y, z, rfl, hco, hb14⟩
      replace P_m := hid (pb_below hb14 P_m.out Z_m)
      replace Z_m := Nat.lt_of_lt_of_le Z_m hb14.size
      replace P_s := hid (pb_below hb14 P_s.out Z_s)
      replace Z_s := Nat.lt_of_lt_of_le Z_s hb14.size
      replace P_y := hid (pb_below hb14 P_y.out Z_y)
      replace Z_y := Nat.lt_of_lt_of_le Z_y hb14.size
      replace P_v := hid (pb_below hb14 P_v.out Z_v)
      replace Z_v := Nat.lt_of_lt_of_le Z_v hb14.size
      have hz_w14 := hb14.size
      try simp only [World.size_alloc, World.size_setCell] at hz_w14
      have HB14 := xv hb14 HB13
      have D9_14 := xv hb14 D9_13
      have D12_14 := xv hb14 D12_13
      clear D9_13 D12_13
      have HCO := hid hco
      clear hb14 hco P2c
      cases z with
      | true =>
       obtain ⟨lo, hi, hz1, hz2, hle, hhi, hlaid, hlen⟩ := HCO.out
       obtain ⟨hx, hy⟩ := hz1 rfl
       subst hx hy
       have hl104 : ((tc.ks.length : Int) == (s.ks.length : Int)) = true := by
        simp only [beq_iff_eq, true_eq_decide_iff] at hlen
        rw [beq_iff_eq, hlen]
       have HLD := hid hlaid
       have HLE := hid (And.intro hle hhi)
       clear hz1 hz2 hlen hlaid hle hhi HCO
       as_aux_lemma =>
       have CNc := hid (C2h.out w14 ⟨b1, b2, b3, b4, j1, j2, j3, j4⟩ lo hi HLE.out.1 HLE.out.2 (HIy.out.below D9_14.out))
       dsimp only at CNc
       have c_y1 := P_y.out 1 _ rfl
       have c_y2 := P_y.out 2 _ rfl
       go_wp2_with fail
       refine (CNc.out).mono ?_
       rintro e w15 ⟨rfl, hb15⟩
       replace P_s := hid (pb_below hb15 P_s.out Z_s)
       replace Z_s := Nat.lt_of_lt_of_le Z_s hb15.size
       replace P_y := hid (pb_below hb15 P_y.out Z_y)
       replace Z_y := Nat.lt_of_lt_of_le Z_y hb15.size
       have hz_w15 := hb15.size
       try simp only [World.size_alloc, World.size_setCell] at hz_w15
       have HB15 := xv hb15 HB14
       have D9_15 := xv hb15 D9_14
       have D12_15 := xv hb15 D12_14
       clear D9_14 D12_14
       clear hb15 CNc c_y1 c_y2
       as_aux_lemma =>
       have hlw := HLD.out
       generalize ((cntW tc.ws lo hi : Nat) : Int) = cn at *
       have c_y2 := P_y.out 2 _ rfl
       have c_y5 := P_y.out 5 _ rfl
       have c_s5 := P_s.out 5 _ rfl
       go_wp2
       go_ret
       exact ⟨rfl, HB15.out⟩
      | false =>
       obtain ⟨lo, hi, hz1, hz2, hle, hhi, hlaid, hlen⟩ := HCO.out
       obtain ⟨hx, hy⟩ := hz2 rfl
       subst hx hy
       have hl104 : ((tc.ks.length : Int) == (s.ks.length : Int)) = false := by
        simp only [beq_iff_eq, false_eq_decide_iff] at hlen
        rw [beq_eq_false_iff_ne]; omega
       have HLD := hid hlaid
       have HLE := hid (And.intro hle hhi)
       clear hz1 hz2 hlen hlaid hle hhi HCO
       have c_y2 := P_y.out 2 _ rfl
       go_upto_region 23 with (fail)
       have q0 := cell_regrown c_y2
       refine wp_region_quiet_below xk xk ?_
       repeat (first | go_big_quiet_skip | (go_big_quiet_want; (first | fail); (conv => arg 1; simp only [Act.put, List.setIfInBounds_toArray, List.set_cons_succ, List.set_cons_zero]); go_big_quiet_on) | go_big_quiet_step (fail))
       refine wpQuiet_nil ?_
       intro _ hw'
       obtain ⟨⟨dq, osq⟩, hw''⟩ := hw'
       subst hw''
       have hbq := below_regrown w14 dq osq
       clear q0
       generalize Sort.grow (redrawn w14 dq) osq = w15 at *
       clear c_y2
       replace P_s := hid (pb_below hbq P_s.out Z_s)
       replace Z_s := Nat.lt_of_lt_of_le Z_s hbq.size
       replace P_y := hid (pb_below hbq P_y.out Z_y)
       replace Z_y := Nat.lt_of_lt_of_le Z_y hbq.size
       have hz_w15 := hbq.size
       try simp only [World.size_alloc, World.size_setCell] at hz_w15
       have HB15 := xv hbq HB14
       have D9_15 := xv hbq D9_14
       have D12_15 := xv hbq D12_14
       clear D9_14 D12_14
       clear hbq
       as_aux_lemma =>
       have CNc := hid (C2h.out w15 ⟨b1, b2, b3, b4, j1, j2, j3, j4⟩ 0 tc.ks.length HLE.out.1 HLE.out.2 (HIy.out.below D9_15.out))
       dsimp only at CNc
       have c_y1 := P_y.out 1 _ rfl
       have c_y2 := P_y.out 2 _ rfl
       rw [show ((0 : Nat) : Int) = 0 from rfl] at CNc
       go_wp2_with fail
       refine (CNc.out).mono ?_
       rintro e w16 ⟨rfl, hb16⟩
       replace P_s := hid (pb_below hb16 P_s.out Z_s)
       replace Z_s := Nat.lt_of_lt_of_le Z_s hb16.size
       replace P_y := hid (pb_below hb16 P_y.out Z_y)
       replace Z_y := Nat.lt_of_lt_of_le Z_y hb16.size
       have hz_w16 := hb16.size
       try simp only [World.size_alloc, World.size_setCell] at hz_w16
       have HB16 := xv hb16 HB15
       have D9_16 := xv hb16 D9_15
       have D12_16 := xv hb16 D12_15
       clear D9_15 D12_15
       clear hb16 CNc c_y1 c_y2
       as_aux_lemma =>
       have hlw := HLD.out
       generalize ((cntW tc.ws 0 tc.ks.length : Nat) : Int) = cn at *
       have c_y2 := P_y.out 2 _ rfl
       have c_y5 := P_y.out 5 _ rfl
       have c_s5 := P_s.out 5 _ rfl
       go_wp2
       go_ret
       exact ⟨rfl, HB16.out⟩
    · have g115 : (te != 0) = true := by simpa using he
      clear he
      go_wp2
      go_ret
      exact ⟨rfl, HB10.out⟩
 · have g51 : (pe == 0) = false := by simpa using he
   clear he
   go_upto_region 14 with (fail)
   as_aux_lemma =>
   go_wp2_with (first | refine wpl_load 23 (.tmp 4) (w.heap.size) [.int .u8 c.tag, .int .i64 c.most, .int .i64 c.seg, .int .i64 c.least, .int .i64 c.den, .int .i64 c.ll, .int .i64 c.rl, .int .i64 c.rh, .int .i64 c.lh] rfl rfl rfl Tryd.underlying23 rfl xk P_m.out ?_ | refine wpl_load 29 (.tmp 5) (w.heap.size + 1) [.int .i64 s.seg, .slice wa s.ws.length wc, .slice ka s.ks.length kc, .slice va s.vs.length vc, .slice ca s.cs.length cc, .int .u64 s.laid] rfl rfl rfl Tryd.underlying29 rfl xk P_s.out ?_)
   go_wp2_with fail
   refine (TK.out _ HB4.out).mono ?_
   rintro e w5 ⟨x1, x2, x3, x4, rfl, p1, p2, p3, p4, hb5⟩
   replace P_m := hid (pb_below hb5 P_m.out Z_m)
   replace Z_m := Nat.lt_of_lt_of_le Z_m hb5.size
   replace P_s := hid (pb_below hb5 P_s.out Z_s)
   replace Z_s := Nat.lt_of_lt_of_le Z_s hb5.size
   have hz_w5 := hb5.size
   try simp only [World.size_alloc, World.size_setCell] at hz_w5
   have HB5 := xv hb5 HB4
   obtain ⟨b1, j1, rfl, i1, -, -, -, -⟩ := row_of_owns p1
   obtain ⟨b2, j2, rfl, i2, -, -, -, -⟩ := row_of_owns p2
   obtain ⟨b3, j3, rfl, i3, -, -, -, -⟩ := row_of_owns p3
   obtain ⟨b4, j4, rfl, i4, -, -, -, -⟩ := row_of_owns p4
   have HIy : Hid (SlIn w5 tc ⟨b1, b2, b3, b4, j1, j2, j3, j4⟩) := hid ⟨i1, i2, i3, i4, HU.out.2.2⟩
   clear hb5 p1 p2 p3 p4 i1 i2 i3 i4
   as_aux_lemma =>
   go_upto_region 15 with (refine wpl_store_new 29 (.tmp 20) (.tmp 112) #[.int .i64 0, .slice none 0 0, .slice none 0 0, .slice none 0 0, .slice none 0 0, .int .u64 0] #[.int .i64 tc.seg, .slice b1 tc.ws.length j1, .slice b2 tc.ks.length j2, .slice b3 tc.vs.length j3, .slice b4 tc.cs.length j4, .int .u64 tc.laid] rfl rfl rfl rfl xk rfl (by simp [Value.oneCell']) ?_)
   generalize hw6 : w5.alloc (.cells #[.int .i64 tc.seg, .slice b1 tc.ws.length j1, .slice b2 tc.ks.length j2, .slice b3 tc.vs.length j3, .slice b4 tc.cs.length j4, .int .u64 tc.laid] 29) = w6
   replace P_m : Hid (PB w6 (w.heap.size) [.int .u8 c.tag, .int .i64 c.most, .int .i64 c.seg, .int .i64 c.least, .int .i64 c.den, .int .i64 c.ll, .int .i64 c.rl, .int .i64 c.rh, .int .i64 c.lh]) := by rw [← hw6]; exact hid (pb_alloc (P_m.out) Z_m _)
   replace Z_m : w.heap.size < w6.heap.size := by rw [← hw6]; simp only [World.size_alloc]; omega
   replace P_s : Hid (PB w6 (w.heap.size + 1) [.int .i64 s.seg, .slice wa s.ws.length wc, .slice ka s.ks.length kc, .slice va s.vs.length vc, .slice ca s.cs.length cc, .int .u64 s.laid]) := by rw [← hw6]; exact hid (pb_alloc (P_s.out) Z_s _)
   replace Z_s : w.heap.size + 1 < w6.heap.size := by rw [← hw6]; simp only [World.size_alloc]; omega
   have P_y : Hid (PB w6 (w5.heap.size) [.int .i64 tc.seg, .slice b1 tc.ws.length j1, .slice b2 tc.ks.length j2, .slice b3 tc.vs.length j3, .slice b4 tc.cs.length j4, .int .u64 tc.laid]) := by rw [← hw6]; exact hid (pb_new _ _ _ (by simp))
   have Z_y : w5.heap.size < w6.heap.size := by rw [← hw6]; simp only [World.size_alloc]; omega
   have hb6 : Below w5.heap.size w5 w6 := by rw [← hw6]; exact (Below.refl _ _).alloc (Nat.le_refl _) _
   have HB6 := xv hb6 HB5
   have D5_6 := hid (hb6)
   clear hw6 hb6
   as_aux_lemma =>
   by_cases he : te = 0
   · have g115 : (te != 0) = false := by rw [he]; rfl
     have N2h := N2 he
     have CLh := CL he
     have P2h := P2 he
     have C2h := C2 he
     clear he
     have c_s1 := P_s.out 1 _ rfl
     go_wp2_with fail
     refine (N2h.out _ HB6.out).mono ?_
     rintro e w7 ⟨rfl, hb7⟩
     replace P_m := hid (pb_below hb7 P_m.out Z_m)
     replace Z_m := Nat.lt_of_lt_of_le Z_m hb7.size
     replace P_s := hid (pb_below hb7 P_s.out Z_s)
     replace Z_s := Nat.lt_of_lt_of_le Z_s hb7.size
     replace P_y := hid (pb_below hb7 P_y.out Z_y)
     replace Z_y := Nat.lt_of_lt_of_le Z_y hb7.size
     have hz_w7 := hb7.size
     try simp only [World.size_alloc, World.size_setCell] at hz_w7
     have HB7 := xv hb7 HB6
     have D5_7 := xv hb7 D5_6
     clear D5_6
     clear hb7 c_s1
     as_aux_lemma =>
     go_wp2_with (first | refine wpl_load 29 (.tmp 5) (w.heap.size + 1) [.int .i64 s.seg, .slice wa s.ws.length wc, .slice ka s.ks.length kc, .slice va s.vs.length vc, .slice ca s.cs.length cc, .int .u64 s.laid] rfl rfl rfl Tryd.underlying29 rfl xk P_s.out ?_)
     go_wp2_with fail
     refine (CLh.out _ HB7.out).mono ?_
     rintro e w8 ⟨x1, x2, x3, x4, rfl, p1, p2, p3, p4, hb8⟩
     replace P_m := hid (pb_below hb8 P_m.out Z_m)
     replace Z_m := Nat.lt_of_lt_of_le Z_m hb8.size
     replace P_s := hid (pb_below hb8 P_s.out Z_s)
     replace Z_s := Nat.lt_of_lt_of_le Z_s hb8.size
     replace P_y := hid (pb_below hb8 P_y.out Z_y)
     replace Z_y := Nat.lt_of_lt_of_le Z_y hb8.size
     have hz_w8 := hb8.size
     try simp only [World.size_alloc, World.size_setCell] at hz_w8
     have HB8 := xv hb8 HB7
     have D5_8 := xv hb8 D5_7
     clear D5_7
     obtain ⟨f1, g1, rfl, i1, -, -, -, -⟩ := row_of_owns p1
     obtain ⟨f2, g2, rfl, i2, -, -, -, -⟩ := row_of_owns p2
     obtain ⟨f3, g3, rfl, i3, -, -, -, -⟩ := row_of_owns p3
     obtain ⟨f4, g4, rfl, i4, -, -, -, -⟩ := row_of_owns p4
     have HIv : Hid (SlIn w8 bc ⟨f1, f2, f3, f4, g1, g2, g3, g4⟩) := hid ⟨i1, i2, i3, i4, HU.out.2.1⟩
     clear hb8 p1 p2 p3 p4 i1 i2 i3 i4
     as_aux_lemma =>
     go_upto_region 19 with (refine wpl_store_new 29 (.tmp 24) (.tmp 129) #[.int .i64 0, .slice none 0 0, .slice none 0 0, .slice none 0 0, .slice none 0 0, .int .u64 0] #[.int .i64 bc.seg, .slice f1 bc.ws.length g1, .slice f2 bc.ks.length g2, .slice f3 bc.vs.length g3, .slice f4 bc.cs.length g4, .int .u64 bc.laid] rfl rfl rfl rfl xk rfl (by simp [Value.oneCell']) ?_)
     generalize hw9 : w8.alloc (.cells #[.int .i64 bc.seg, .slice f1 bc.ws.length g1, .slice f2 bc.ks.length g2, .slice f3 bc.vs.length g3, .slice f4 bc.cs.length g4, .int .u64 bc.laid] 29) = w9
     replace P_m : Hid (PB w9 (w.heap.size) [.int .u8 c.tag, .int .i64 c.most, .int .i64 c.seg, .int .i64 c.least, .int .i64 c.den, .int .i64 c.ll, .int .i64 c.rl, .int .i64 c.rh, .int .i64 c.lh]) := by rw [← hw9]; exact hid (pb_alloc (P_m.out) Z_m _)
     replace Z_m : w.heap.size < w9.heap.size := by rw [← hw9]; simp only [World.size_alloc]; omega
     replace P_s : Hid (PB w9 (w.heap.size + 1) [.int .i64 s.seg, .slice wa s.ws.length wc, .slice ka s.ks.length kc, .slice va s.vs.length vc, .slice ca s.cs.length cc, .int .u64 s.laid]) := by rw [← hw9]; exact hid (pb_alloc (P_s.out) Z_s _)
     replace Z_s : w.heap.size + 1 < w9.heap.size := by rw [← hw9]; simp only [World.size_alloc]; omega
     replace P_y : Hid (PB w9 (w5.heap.size) [.int .i64 tc.seg, .slice b1 tc.ws.length j1, .slice b2 tc.ks.length j2, .slice b3 tc.vs.length j3, .slice b4 tc.cs.length j4, .int .u64 tc.laid]) := by rw [← hw9]; exact hid (pb_alloc (P_y.out) Z_y _)
     replace Z_y : w5.heap.size < w9.heap.size := by rw [← hw9]; simp only [World.size_alloc]; omega
     have P_v : Hid (PB w9 (w8.heap.size) [.int .i64 bc.seg, .slice f1 bc.ws.length g1, .slice f2 bc.ks.length g2, .slice f3 bc.vs.length g3, .slice f4 bc.cs.length g4, .int .u64 bc.laid]) := by rw [← hw9]; exact hid (pb_new _ _ _ (by simp))
     have Z_v : w8.heap.size < w9.heap.size := by rw [← hw9]; simp only [World.size_alloc]; omega
     have hb9 : Below w8.heap.size w8 w9 := by rw [← hw9]; exact (Below.refl _ _).alloc (Nat.le_refl _) _
     have HB9 := xv hb9 HB8
     have D5_9 := xv hb9 D5_8
     have D8_9 := hid (hb9)
     clear D5_8
     clear hw9 hb9
     as_aux_lemma =>
     have P2c := hid (P2h.out w9 ⟨f1, f2, f3, f4, g1, g2, g3, g4⟩ HB9.out (HIv.out.below D8_9.out))
     dsimp only [slV] at P2c
     go_wp2_with (first | refine wpl_load 23 (.tmp 4) (w.heap.size) [.int .u8 c.tag, .int .i64 c.most, .int .i64 c.seg, .int .i64 c.least, .int .i64 c.den, .int .i64 c.ll, .int .i64 c.rl, .int .i64 c.rh, .int .i64 c.lh] rfl rfl rfl Tryd.underlying23 rfl xk P_m.out ?_ | refine wpl_load 29 (.tmp 24) (w8.heap.size) [.int .i64 bc.seg, .slice f1 bc.ws.length g1, .slice f2 bc.ks.length g2, .slice f3 bc.vs.length g3, .slice f4 bc.cs.length g4, .int .u64 bc.laid] rfl rfl rfl Tryd.underlying29 rfl xk P_v.out ?_)
     go_wp2_with fail
     refine (P2c.out).mono ?_
     rintro e w10 ⟨x, y, z, rfl, hco, hb10⟩
     replace P_m := hid (pb_below hb10 P_m.out Z_m)
     replace Z_m := Nat.lt_of_lt_of_le Z_m hb10.size
     replace P_s := hid (pb_below hb10 P_s.out Z_s)
     replace Z_s := Nat.lt_of_lt_of_le Z_s hb10.size
     replace P_y := hid (pb_below hb10 P_y.out Z_y)
     replace Z_y := Nat.lt_of_lt_of_le Z_y hb10.size
     replace P_v := hid (pb_below hb10 P_v.out Z_v)
     replace Z_v := Nat.lt_of_lt_of_le Z_v hb10.size
     have hz_w10 := hb10.size
     try simp only [World.size_alloc, World.size_setCell] at hz_w10
     have HB10 := xv hb10 HB9
     have D5_10 := xv hb10 D5_9
     have D8_10 := xv hb10 D8_9
     clear D5_9 D8_9
     have HCO := hid hco
     clear hb10 hco P2c
     cases z with
     | true =>
      obtain ⟨lo, hi, hz1, hz2, hle, hhi, hlaid, hlen⟩ := HCO.out
      obtain ⟨hx, hy⟩ := hz1 rfl
      subst hx hy
      have hl104 : ((tc.ks.length : Int) == (s.ks.length : Int)) = true := by
       simp only [beq_iff_eq, true_eq_decide_iff] at hlen
       rw [beq_iff_eq, hlen]
      have HLD := hid hlaid
      have HLE := hid (And.intro hle hhi)
      clear hz1 hz2 hlen hlaid hle hhi HCO
      as_aux_lemma =>
      have CNc := hid (C2h.out w10 ⟨b1, b2, b3, b4, j1, j2, j3, j4⟩ lo hi HLE.out.1 HLE.out.2 (HIy.out.below D5_10.out))
      dsimp only at CNc
      have c_y1 := P_y.out 1 _ rfl
      have c_y2 := P_y.out 2 _ rfl
      go_wp2_with fail
      refine (CNc.out).mono ?_
      rintro e w11 ⟨rfl, hb11⟩
      replace P_s := hid (pb_below hb11 P_s.out Z_s)
      replace Z_s := Nat.lt_of_lt_of_le Z_s hb11.size
      replace P_y := hid (pb_below hb11 P_y.out Z_y)
      replace Z_y := Nat.lt_of_lt_of_le Z_y hb11.size
      have hz_w11 := hb11.size
      try simp only [World.size_alloc, World.size_setCell] at hz_w11
      have HB11 := xv hb11 HB10
      have D5_11 := xv hb11 D5_10
      have D8_11 := xv hb11 D8_10
      clear D5_10 D8_10
      clear hb11 CNc c_y1 c_y2
      as_aux_lemma =>
      have hlw := HLD.out
      generalize ((cntW tc.ws lo hi : Nat) : Int) = cn at *
      have c_y2 := P_y.out 2 _ rfl
      have c_y5 := P_y.out 5 _ rfl
      have c_s5 := P_s.out 5 _ rfl
      go_wp2
      go_ret
      exact ⟨rfl, HB11.out⟩
     | false =>
      obtain ⟨lo, hi, hz1, hz2, hle, hhi, hlaid, hlen⟩ := HCO.out
      obtain ⟨hx, hy⟩ := hz2 rfl
      subst hx hy
      have hl104 : ((tc.ks.length : Int) == (s.ks.length : Int)) = false := by
       simp only [beq_iff_eq, false_eq_decide_iff] at hlen
       rw [beq_eq_false_iff_ne]; omega
      have HLD := hid hlaid
      have HLE := hid (And.intro hle hhi)
      clear hz1 hz2 hlen hlaid hle hhi HCO
      have c_y2 := P_y.out 2 _ rfl
      go_upto_region 23 with (fail)
      have q0 := cell_regrown c_y2
      refine wp_region_quiet_below xk xk ?_
      repeat (first | go_big_quiet_skip | (go_big_quiet_want; (first | fail); (conv => arg 1; simp only [Act.put, List.setIfInBounds_toArray, List.set_cons_succ, List.set_cons_zero]); go_big_quiet_on) | go_big_quiet_step (fail))
      refine wpQuiet_nil ?_
      intro _ hw'
      obtain ⟨⟨dq, osq⟩, hw''⟩ := hw'
      subst hw''
      have hbq := below_regrown w10 dq osq
      clear q0
      generalize Sort.grow (redrawn w10 dq) osq = w11 at *
      clear c_y2
      replace P_s := hid (pb_below hbq P_s.out Z_s)
      replace Z_s := Nat.lt_of_lt_of_le Z_s hbq.size
      replace P_y := hid (pb_below hbq P_y.out Z_y)
      replace Z_y := Nat.lt_of_lt_of_le Z_y hbq.size
      have hz_w11 := hbq.size
      try simp only [World.size_alloc, World.size_setCell] at hz_w11
      have HB11 := xv hbq HB10
      have D5_11 := xv hbq D5_10
      have D8_11 := xv hbq D8_10
      clear D5_10 D8_10
      clear hbq
      as_aux_lemma =>
      have CNc := hid (C2h.out w11 ⟨b1, b2, b3, b4, j1, j2, j3, j4⟩ 0 tc.ks.length HLE.out.1 HLE.out.2 (HIy.out.below D5_11.out))
      dsimp only at CNc
      have c_y1 := P_y.out 1 _ rfl
      have c_y2 := P_y.out 2 _ rfl
      rw [show ((0 : Nat) : Int) = 0 from rfl] at CNc
      go_wp2_with fail
      refine (CNc.out).mono ?_
      rintro e w12 ⟨rfl, hb12⟩
      replace P_s := hid (pb_below hb12 P_s.out Z_s)
      replace Z_s := Nat.lt_of_lt_of_le Z_s hb12.size
      replace P_y := hid (pb_below hb12 P_y.out Z_y)
      replace Z_y := Nat.lt_of_lt_of_le Z_y hb12.size
      have hz_w12 := hb12.size
      try simp only [World.size_alloc, World.size_setCell] at hz_w12
      have HB12 := xv hb12 HB11
      have D5_12 := xv hb12 D5_11
      have D8_12 := xv hb12 D8_11
      clear D5_11 D8_11
      clear hb12 CNc c_y1 c_y2
      as_aux_lemma =>
      have hlw := HLD.out
      generalize ((cntW tc.ws 0 tc.ks.length : Nat) : Int) = cn at *
      have c_y2 := P_y.out 2 _ rfl
      have c_y5 := P_y.out 5 _ rfl
      have c_s5 := P_s.out 5 _ rfl
      go_wp2
      go_ret
      exact ⟨rfl, HB12.out⟩
   · have g115 : (te != 0) = true := by simpa using he
     clear he
     go_wp2
     go_ret
     exact ⟨rfl, HB6.out⟩
end
end Go.Proofs.YtookgoidlnlckaaDoor

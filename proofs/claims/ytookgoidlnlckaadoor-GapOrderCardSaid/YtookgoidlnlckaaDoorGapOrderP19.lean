/- Merged: LayW, Put02, FilS, Filled, Empty04, Spr, LoadW, Ref05, Ref09. -/
import Derived.Test.YtookgoidlnlckaaDoorGapOrderP18
import Derived.Deep.CutRange
import Derived.Test.YtookgoidlnlckaaDoorGapOrderP11
import Derived.Test.YtookgoidlnlckaaDoorGapOrderP17
import Derived.Test.YtookgoidlnlckaaDoorGapOrderP13
import Derived.Test.YtookgoidlnlckaaDoorGapOrderP5
import Derived.Test.YtookgoidlnlckaaDoorGapOrderP12
import Derived.Test.YtookgoidlnlckaaDoorGapOrderP2
import Derived.Test.YtookgoidlnlckaaDoorGapOrderP8
import Derived.Test.YtookgoidlnlckaaDoorGapOrderP10
import Derived.Test.YtookgoidlnlckaaDoorGapOrderP14
import Derived.Test.YtookgoidlnlckaaDoorGapOrderP3
namespace Go.Proofs.YtookgoidlnlckaaDoor
set_option maxRecDepth 100000
set_option maxHeartbeats 40000000
set_option linter.unusedVariables false
set_option linter.unusedSimpArgs false
section
open Go.RowKit Go.Shelf
attribute [local go_sem] Oper.semAt_some
theorem over_core (w : World) (seg : Int) (wa ka va ca : Option Addr) (wc kc vc cc lw n lv lc : Nat) (laid : Int) (lo hi m : Nat) (ps : List Int) (la : Option Addr) (pl : Nat) (d : SlC) (hps : ps.length = m)
    (CK : Hid (∀ W, Below w.heap.size w W → Calls Tryd.prog 46 #[.agg #[.int .i64 seg, .slice wa lw wc, .slice ka n kc, .slice va lv vc, .slice ca lc cc, .int .u64 laid]] W (AnsB W (.int .i64 0))))
    (PL : Hid (∀ W, Below w.heap.size w W → Calls Tryd.prog 71 #[.int .i64 m, .int .i64 lo, .int .i64 hi] W (FreshI2 W ps (.int .i64 0))))
    (FI : Hid (∀ W pa pc, Below w.heap.size w W → IsRow .i64 W pa ps → Calls Tryd.prog 72 #[.agg #[.int .i64 seg, .slice wa lw wc, .slice ka n kc, .slice va lv vc, .slice ca lc cc, .int .u64 laid], .int .i64 lo, .int .i64 hi, .slice pa m pc, .slice la m pl] W (FreshSl2 W d (.int .i64 0)))) :
    Calls Tryd.prog 50 #[.agg #[.int .i64 seg, .slice wa lw wc, .slice ka n kc, .slice va lv vc, .slice ca lc cc, .int .u64 laid], .int .i64 lo, .int .i64 hi, .slice la m pl] w (FreshSl2 w d (.int .i64 0)) := by
 have HPL := hid hps
 clear hps
 go_enter Tryd.func50, Tryd.ntmps50
 go_wp2
 refine wp_scope_loop 0 (fun _ _ _ => False) rfl (fun _ _ _ h => h.elim) ?_
 intro H hH hpass
 go_wp2_with fail
 refine (CK.out _ xbel).mono ?_
 rintro e w1 ⟨rfl, hb1⟩
 have hz_w1 := hb1.size
 try simp only [World.size_alloc, World.size_setCell] at hz_w1
 have hh := bc6 hb1 (au6 (al6 (b := w.heap.size) (by simp)))
 obtain ⟨c_t0, c_t1, c_t2, c_t3, c_t4, c_t5⟩ := hh
 have z_t := blt hb1 (auz (alz (b := w.heap.size) (by simp)))
 have hh := bc6 hb1 (al6 (b := w.heap.size + 1) (by simp))
 obtain ⟨c_r0, c_r1, c_r2, c_r3, c_r4, c_r5⟩ := hh
 have hh := bf6 hb1 (alz (b := w.heap.size + 1) (by simp)) (alf6 (b := w.heap.size + 1) (by simp))
 obtain ⟨f_r0, f_r1, f_r2, f_r3, f_r4, f_r5⟩ := hh
 have z_r := blt hb1 (alz (b := w.heap.size + 1) (by simp))
 have hB1 : Below w.heap.size w w1 := xbel
 have HB1 := hid hB1
 clear hb1 hB1
 go_wp2_with fail
 refine (PL.out _ HB1.out).mono ?_
 rintro e w2 ⟨v, rfl, ho, hb2⟩
 have hz_w2 := hb2.size
 try simp only [World.size_alloc, World.size_setCell] at hz_w2
 have hh := bc6 hb2 ⟨c_t0, c_t1, c_t2, c_t3, c_t4, c_t5⟩
 clear c_t0 c_t1 c_t2 c_t3 c_t4 c_t5
 obtain ⟨c_t0, c_t1, c_t2, c_t3, c_t4, c_t5⟩ := hh
 replace z_t := blt hb2 z_t
 have hh := bc6 hb2 ⟨c_r0, c_r1, c_r2, c_r3, c_r4, c_r5⟩
 clear c_r0 c_r1 c_r2 c_r3 c_r4 c_r5
 obtain ⟨c_r0, c_r1, c_r2, c_r3, c_r4, c_r5⟩ := hh
 have hh := bf6 hb2 z_r ⟨f_r0, f_r1, f_r2, f_r3, f_r4, f_r5⟩
 clear f_r0 f_r1 f_r2 f_r3 f_r4 f_r5
 obtain ⟨f_r0, f_r1, f_r2, f_r3, f_r4, f_r5⟩ := hh
 replace z_r := blt hb2 z_r
 have HB2 := xv hb2 HB1
 rw [HPL.out] at ho
 obtain ⟨pa, pc, rfl, hi2, -⟩ := row_of_owns ho
 have FC := hid (FI.out w2 pa pc HB2.out hi2)
 have hz2 := z_r
 clear hb2 ho hi2
 go_wp2_with fail
 refine (FC.out).mono ?_
 rintro e w3 ⟨v1, v2, v3, v4, rfl, p1, p2, p3, p4, hb3⟩
 have hz_w3 := hb3.size
 try simp only [World.size_alloc, World.size_setCell] at hz_w3
 have hh := bc6 hb3 ⟨c_t0, c_t1, c_t2, c_t3, c_t4, c_t5⟩
 clear c_t0 c_t1 c_t2 c_t3 c_t4 c_t5
 obtain ⟨c_t0, c_t1, c_t2, c_t3, c_t4, c_t5⟩ := hh
 replace z_t := blt hb3 z_t
 have hh := bc6 hb3 ⟨c_r0, c_r1, c_r2, c_r3, c_r4, c_r5⟩
 clear c_r0 c_r1 c_r2 c_r3 c_r4 c_r5
 obtain ⟨c_r0, c_r1, c_r2, c_r3, c_r4, c_r5⟩ := hh
 have hh := bf6 hb3 z_r ⟨f_r0, f_r1, f_r2, f_r3, f_r4, f_r5⟩
 clear f_r0 f_r1 f_r2 f_r3 f_r4 f_r5
 obtain ⟨f_r0, f_r1, f_r2, f_r3, f_r4, f_r5⟩ := hh
 replace z_r := blt hb3 z_r
 have HB3 := xv hb3 HB2
 obtain ⟨a1, k1, rfl, -⟩ := owns_news p1
 obtain ⟨a2, k2, rfl, -⟩ := owns_news p2
 obtain ⟨a3, k3, rfl, -⟩ := owns_news p3
 obtain ⟨a4, k4, rfl, -⟩ := owns_news p4
 have HP1 := hid p1
 have HP2 := hid p2
 have HP3 := hid p3
 have HP4 := hid p4
 clear p1 p2 p3 p4
 clear hb3
 go_upto_region 7 with (fail)
 have hsx := six_set (x := .int .i64 d.seg) (y := .slice a1 d.ws.length k1) (z := .slice a2 d.ks.length k2) (p := .slice a3 d.vs.length k3) (q := .slice a4 d.cs.length k4) (r := .int .u64 d.laid) c_r0 c_r1 c_r2 c_r3 c_r4 c_r5
 have hfz : ∀ a : Addr, ((((((w3.setCell ⟨w.heap.size + 1, 0, none⟩ (.int .i64 d.seg)).setCell ⟨w.heap.size + 1, 1, none⟩ (.slice a1 d.ws.length k1)).setCell ⟨w.heap.size + 1, 2, none⟩ (.slice a2 d.ks.length k2)).setCell ⟨w.heap.size + 1, 3, none⟩ (.slice a3 d.vs.length k3)).setCell ⟨w.heap.size + 1, 4, none⟩ (.slice a4 d.cs.length k4)).setCell ⟨w.heap.size + 1, 5, none⟩ (.int .u64 d.laid)).frozen? a = w3.frozen? a := fun a => by
  rw [World.frozen?_setCell, World.frozen?_setCell, World.frozen?_setCell, World.frozen?_setCell, World.frozen?_setCell, World.frozen?_setCell]
 have HQw4 : Hid (∀ q, q ≠ w.heap.size + 1 → ((((((w3.setCell ⟨w.heap.size + 1, 0, none⟩ (.int .i64 d.seg)).setCell ⟨w.heap.size + 1, 1, none⟩ (.slice a1 d.ws.length k1)).setCell ⟨w.heap.size + 1, 2, none⟩ (.slice a2 d.ks.length k2)).setCell ⟨w.heap.size + 1, 3, none⟩ (.slice a3 d.vs.length k3)).setCell ⟨w.heap.size + 1, 4, none⟩ (.slice a4 d.cs.length k4)).setCell ⟨w.heap.size + 1, 5, none⟩ (.int .u64 d.laid)).heap[q]? = w3.heap[q]?) := hid fun q hq => by
  rw [heap_setCell_ne _ _ _ hq, heap_setCell_ne _ _ _ hq, heap_setCell_ne _ _ _ hq, heap_setCell_ne _ _ _ hq, heap_setCell_ne _ _ _ hq, heap_setCell_ne _ _ _ hq]
 have hzw4 : ((((((w3.setCell ⟨w.heap.size + 1, 0, none⟩ (.int .i64 d.seg)).setCell ⟨w.heap.size + 1, 1, none⟩ (.slice a1 d.ws.length k1)).setCell ⟨w.heap.size + 1, 2, none⟩ (.slice a2 d.ks.length k2)).setCell ⟨w.heap.size + 1, 3, none⟩ (.slice a3 d.vs.length k3)).setCell ⟨w.heap.size + 1, 4, none⟩ (.slice a4 d.cs.length k4)).setCell ⟨w.heap.size + 1, 5, none⟩ (.int .u64 d.laid)).heap.size = w3.heap.size := by simp
 have HSw4 : Hid (Below w.heap.size w ((((((w3.setCell ⟨w.heap.size + 1, 0, none⟩ (.int .i64 d.seg)).setCell ⟨w.heap.size + 1, 1, none⟩ (.slice a1 d.ws.length k1)).setCell ⟨w.heap.size + 1, 2, none⟩ (.slice a2 d.ks.length k2)).setCell ⟨w.heap.size + 1, 3, none⟩ (.slice a3 d.vs.length k3)).setCell ⟨w.heap.size + 1, 4, none⟩ (.slice a4 d.cs.length k4)).setCell ⟨w.heap.size + 1, 5, none⟩ (.int .u64 d.laid))) := hid ((((((HB3.out.setCell (by dsimp only; omega) _).setCell (by dsimp only; omega) _).setCell (by dsimp only; omega) _).setCell (by dsimp only; omega) _).setCell (by dsimp only; omega) _).setCell (by dsimp only; omega) _)
 generalize ((((((w3.setCell ⟨w.heap.size + 1, 0, none⟩ (.int .i64 d.seg)).setCell ⟨w.heap.size + 1, 1, none⟩ (.slice a1 d.ws.length k1)).setCell ⟨w.heap.size + 1, 2, none⟩ (.slice a2 d.ks.length k2)).setCell ⟨w.heap.size + 1, 3, none⟩ (.slice a3 d.vs.length k3)).setCell ⟨w.heap.size + 1, 4, none⟩ (.slice a4 d.cs.length k4)).setCell ⟨w.heap.size + 1, 5, none⟩ (.int .u64 d.laid)) = w4 at *
 have s0 := hsx 0 _ rfl
 have s1 := hsx 1 _ rfl
 have s2 := hsx 2 _ rfl
 have s3 := hsx 3 _ rfl
 have s4 := hsx 4 _ rfl
 have s5 := hsx 5 _ rfl
 replace f_r0 := (hfz _).trans f_r0
 replace f_r1 := (hfz _).trans f_r1
 replace f_r2 := (hfz _).trans f_r2
 replace f_r3 := (hfz _).trans f_r3
 replace f_r4 := (hfz _).trans f_r4
 replace f_r5 := (hfz _).trans f_r5
 clear hsx hfz c_r0 c_r1 c_r2 c_r3 c_r4 c_r5
 go_wp2
 simp only [Exit.jump]
 refine bodyPost_ret (results_ct rfl rfl (run_loadVar_many _ Tryd.underlying29 rfl xk (six_set s0 s1 s2 s3 s4 s5))) rfl ⟨_, _, _, _, rfl, ?_, ?_, ?_, ?_, ?_⟩
 · exact owns_base (owns_heap HP1.out fun j hj => (by
     have h9 := (HP1.out.lt j hj).1
     rw [heap_setCell_ne _ _ _ (by dsimp only; omega), heap_setCell_ne _ _ _ (by dsimp only; omega), heap_setCell_ne _ _ _ (by dsimp only; omega), heap_setCell_ne _ _ _ (by dsimp only; omega), heap_setCell_ne _ _ _ (by dsimp only; omega), heap_setCell_ne _ _ _ (by dsimp only; omega)]
     exact HQw4.out _ xo)) xo
 · exact owns_base (owns_heap HP2.out fun j hj => (by
     have h9 := (HP2.out.lt j hj).1
     rw [heap_setCell_ne _ _ _ (by dsimp only; omega), heap_setCell_ne _ _ _ (by dsimp only; omega), heap_setCell_ne _ _ _ (by dsimp only; omega), heap_setCell_ne _ _ _ (by dsimp only; omega), heap_setCell_ne _ _ _ (by dsimp only; omega), heap_setCell_ne _ _ _ (by dsimp only; omega)]
     exact HQw4.out _ xo)) xo
 · exact owns_base (owns_heap HP3.out fun j hj => (by
     have h9 := (HP3.out.lt j hj).1
     rw [heap_setCell_ne _ _ _ (by dsimp only; omega), heap_setCell_ne _ _ _ (by dsimp only; omega), heap_setCell_ne _ _ _ (by dsimp only; omega), heap_setCell_ne _ _ _ (by dsimp only; omega), heap_setCell_ne _ _ _ (by dsimp only; omega), heap_setCell_ne _ _ _ (by dsimp only; omega)]
     exact HQw4.out _ xo)) xo
 · exact owns_base (owns_heap HP4.out fun j hj => (by
     have h9 := (HP4.out.lt j hj).1
     rw [heap_setCell_ne _ _ _ (by dsimp only; omega), heap_setCell_ne _ _ _ (by dsimp only; omega), heap_setCell_ne _ _ _ (by dsimp only; omega), heap_setCell_ne _ _ _ (by dsimp only; omega), heap_setCell_ne _ _ _ (by dsimp only; omega), heap_setCell_ne _ _ _ (by dsimp only; omega)]
     exact HQw4.out _ xo)) xo
 · exact (((((HSw4.out.setCell (by dsimp only; omega) _).setCell (by dsimp only; omega) _).setCell (by dsimp only; omega) _).setCell (by dsimp only; omega) _).setCell (by dsimp only; omega) _).setCell (by dsimp only; omega) _
theorem Into_core (w : World) (seg : Int) (wa ka va ca : Option Addr) (wc kc vc cc lw n lv lc : Nat) (laid : Int) (size m : Nat) (la : Option Addr) (pl : Nat) (z d : SlC) (hzu : U64s z.ws)
    (CK : Hid (∀ W, Below w.heap.size w W → Calls Tryd.prog 46 #[.agg #[.int .i64 seg, .slice wa lw wc, .slice ka n kc, .slice va lv vc, .slice ca lc cc, .int .u64 laid]] W (AnsB W (.int .i64 0))))
    (NW : Hid (∀ W, Below w.heap.size w W → Calls Tryd.prog 44 #[.int .i64 seg, .int .i64 size] W (FreshSl2 W z (.int .i64 0))))
    (OV : Hid (∀ W sa, Below w.heap.size w W → SlIn W ⟨z.seg, z.ws, z.ks, z.vs, z.cs, laid⟩ sa → (sa.wa = none → sa.wc = 0) → (sa.ka = none → sa.kc = 0) → (sa.va = none → sa.vc = 0) → (sa.ca = none → sa.cc = 0) → Calls Tryd.prog 50 #[slV ⟨z.seg, z.ws, z.ks, z.vs, z.cs, laid⟩ sa, .int .i64 0, .int .i64 size, .slice la m pl] W (FreshSl2 W d (.int .i64 0)))) :
    Calls Tryd.prog 29 #[.agg #[.int .i64 seg, .slice wa lw wc, .slice ka n kc, .slice va lv vc, .slice ca lc cc, .int .u64 laid], .int .i64 size, .slice la m pl] w (FreshSl2 w d (.int .i64 0)) := by
 go_enter Tryd.func29, Tryd.ntmps29
 go_wp2_with fail
 refine (CK.out _ xbel).mono ?_
 rintro e w0 ⟨rfl, hb0⟩
 have hz_w0 := hb0.size
 try simp only [World.size_alloc, World.size_setCell] at hz_w0
 have hh := bc6 hb0 (au6 (al6 (b := w.heap.size) (by simp)))
 obtain ⟨c_t0, c_t1, c_t2, c_t3, c_t4, c_t5⟩ := hh
 have z_t := blt hb0 (auz (alz (b := w.heap.size) (by simp)))
 have hh := bc6 hb0 (al6 (b := w.heap.size + 1) (by simp))
 obtain ⟨c_r0, c_r1, c_r2, c_r3, c_r4, c_r5⟩ := hh
 have hh := bf6 hb0 (alz (b := w.heap.size + 1) (by simp)) (alf6 (b := w.heap.size + 1) (by simp))
 obtain ⟨f_r0, f_r1, f_r2, f_r3, f_r4, f_r5⟩ := hh
 have z_r := blt hb0 (alz (b := w.heap.size + 1) (by simp))
 have hB0 : Below w.heap.size w w0 := xbel
 have HB0 := hid hB0
 clear hb0 hB0
 go_wp2_with fail
 refine (NW.out _ HB0.out).mono ?_
 rintro e w1 ⟨v1, v2, v3, v4, rfl, p1, p2, p3, p4, hb1⟩
 have hz_w1 := hb1.size
 try simp only [World.size_alloc, World.size_setCell] at hz_w1
 have hh := bc6 hb1 ⟨c_t0, c_t1, c_t2, c_t3, c_t4, c_t5⟩
 clear c_t0 c_t1 c_t2 c_t3 c_t4 c_t5
 obtain ⟨c_t0, c_t1, c_t2, c_t3, c_t4, c_t5⟩ := hh
 replace z_t := blt hb1 z_t
 have hh := bc6 hb1 ⟨c_r0, c_r1, c_r2, c_r3, c_r4, c_r5⟩
 clear c_r0 c_r1 c_r2 c_r3 c_r4 c_r5
 obtain ⟨c_r0, c_r1, c_r2, c_r3, c_r4, c_r5⟩ := hh
 have hh := bf6 hb1 z_r ⟨f_r0, f_r1, f_r2, f_r3, f_r4, f_r5⟩
 clear f_r0 f_r1 f_r2 f_r3 f_r4 f_r5
 obtain ⟨f_r0, f_r1, f_r2, f_r3, f_r4, f_r5⟩ := hh
 replace z_r := blt hb1 z_r
 obtain ⟨a1, k1, rfl, i1, -, y1, -, -⟩ := row_of_owns p1
 obtain ⟨a2, k2, rfl, i2, -, y2, -, -⟩ := row_of_owns p2
 obtain ⟨a3, k3, rfl, i3, -, y3, -, -⟩ := row_of_owns p3
 obtain ⟨a4, k4, rfl, i4, -, y4, -, -⟩ := row_of_owns p4
 have HI := hid (show SlIn w1 ⟨z.seg, z.ws, z.ks, z.vs, z.cs, laid⟩ ⟨a1, a2, a3, a4, k1, k2, k3, k4⟩ from ⟨i1, i2, i3, i4, hzu⟩)
 have HY := hid (And.intro y1 (And.intro y2 (And.intro y3 y4)))
 have HB1 := xv hb1 HB0
 clear p1 p2 p3 p4 i1 i2 i3 i4 y1 y2 y3 y4 hb1 hzu
 go_upto_region 8 with (fail)
 generalize hw2 : w1.alloc (.cells #[.int .i64 z.seg, .slice a1 z.ws.length k1, .slice a2 z.ks.length k2, .slice a3 z.vs.length k3, .slice a4 z.cs.length k4, .int .u64 laid] 29) = w2
 have hh := ec6 hw2 (au6 (⟨c_t0, c_t1, c_t2, c_t3, c_t4, c_t5⟩))
 clear c_t0 c_t1 c_t2 c_t3 c_t4 c_t5
 obtain ⟨c_t0, c_t1, c_t2, c_t3, c_t4, c_t5⟩ := hh
 replace z_t := elt hw2 (auz (z_t))
 have hh := ec6 hw2 (au6 (⟨c_r0, c_r1, c_r2, c_r3, c_r4, c_r5⟩))
 clear c_r0 c_r1 c_r2 c_r3 c_r4 c_r5
 obtain ⟨c_r0, c_r1, c_r2, c_r3, c_r4, c_r5⟩ := hh
 have hh := ef6 hw2 (auf6 z_r ⟨f_r0, f_r1, f_r2, f_r3, f_r4, f_r5⟩)
 clear f_r0 f_r1 f_r2 f_r3 f_r4 f_r5
 obtain ⟨f_r0, f_r1, f_r2, f_r3, f_r4, f_r5⟩ := hh
 replace z_r := elt hw2 (auz (z_r))
 have hh := ec6 hw2 (al6 (b := w1.heap.size) (by simp))
 obtain ⟨c_o0, c_o1, c_o2, c_o3, c_o4, c_o5⟩ := hh
 have z_o := elt hw2 (alz (b := w1.heap.size) (by simp))
 have hb2 : Below w1.heap.size w1 w2 := by rw [← hw2]; exact (Below.refl _ _).alloc (Nat.le_refl _) _
 have HB2 := xv hb2 HB1
 have HC := hid (OV.out w2 ⟨a1, a2, a3, a4, k1, k2, k3, k4⟩ HB2.out (HI.out.below hb2) (fun e => (HY.out.1 e).2) (fun e => (HY.out.2.1 e).2) (fun e => (HY.out.2.2.1 e).2) (fun e => (HY.out.2.2.2 e).2))
 have hz2 := HB2.out.size
 have hz22 := z_r
 clear hw2 hb2
 dsimp only [slV] at HC
 go_wp2_with fail
 refine HC.out.mono ?_
 rintro e w3 ⟨v1, v2, v3, v4, rfl, p1, p2, p3, p4, hb3⟩
 have hz_w3 := hb3.size
 try simp only [World.size_alloc, World.size_setCell] at hz_w3
 have hh := bc6 hb3 ⟨c_t0, c_t1, c_t2, c_t3, c_t4, c_t5⟩
 clear c_t0 c_t1 c_t2 c_t3 c_t4 c_t5
 obtain ⟨c_t0, c_t1, c_t2, c_t3, c_t4, c_t5⟩ := hh
 replace z_t := blt hb3 z_t
 have hh := bc6 hb3 ⟨c_r0, c_r1, c_r2, c_r3, c_r4, c_r5⟩
 clear c_r0 c_r1 c_r2 c_r3 c_r4 c_r5
 obtain ⟨c_r0, c_r1, c_r2, c_r3, c_r4, c_r5⟩ := hh
 have hh := bf6 hb3 z_r ⟨f_r0, f_r1, f_r2, f_r3, f_r4, f_r5⟩
 clear f_r0 f_r1 f_r2 f_r3 f_r4 f_r5
 obtain ⟨f_r0, f_r1, f_r2, f_r3, f_r4, f_r5⟩ := hh
 replace z_r := blt hb3 z_r
 have hh := bc6 hb3 ⟨c_o0, c_o1, c_o2, c_o3, c_o4, c_o5⟩
 clear c_o0 c_o1 c_o2 c_o3 c_o4 c_o5
 obtain ⟨c_o0, c_o1, c_o2, c_o3, c_o4, c_o5⟩ := hh
 replace z_o := blt hb3 z_o
 have HB3 := hid (below_via hb3 HB2.out hz2)
 obtain ⟨x1, y1, rfl, -⟩ := owns_news p1
 obtain ⟨x2, y2, rfl, -⟩ := owns_news p2
 obtain ⟨x3, y3, rfl, -⟩ := owns_news p3
 obtain ⟨x4, y4, rfl, -⟩ := owns_news p4
 have HP1 := hid p1
 have HP2 := hid p2
 have HP3 := hid p3
 have HP4 := hid p4
 clear p1 p2 p3 p4
 clear hb3
 go_wp2
 have HQ : Hid (∀ q, q ≠ w.heap.size + 1 → ((((((w3.setCell ⟨w.heap.size + 1, 0, none⟩ (.int .i64 d.seg)).setCell ⟨w.heap.size + 1, 1, none⟩ (.slice x1 d.ws.length y1)).setCell ⟨w.heap.size + 1, 2, none⟩ (.slice x2 d.ks.length y2)).setCell ⟨w.heap.size + 1, 3, none⟩ (.slice x3 d.vs.length y3)).setCell ⟨w.heap.size + 1, 4, none⟩ (.slice x4 d.cs.length y4)).setCell ⟨w.heap.size + 1, 5, none⟩ (.int .u64 d.laid)).heap[q]? = w3.heap[q]?) := hid fun q hq => by
  rw [heap_setCell_ne _ _ _ hq, heap_setCell_ne _ _ _ hq, heap_setCell_ne _ _ _ hq, heap_setCell_ne _ _ _ hq, heap_setCell_ne _ _ _ hq, heap_setCell_ne _ _ _ hq]
 refine bodyPost_ret (results_ct rfl rfl (run_loadVar_many _ Tryd.underlying29 rfl xk (six_set c_r0 c_r1 c_r2 c_r3 c_r4 c_r5))) rfl ⟨_, _, _, _, rfl, ?_, ?_, ?_, ?_, ?_⟩
 · exact owns_base (owns_heap HP1.out fun j hj => HQ.out _ (by have := (HP1.out.lt j hj).1; omega)) xo
 · exact owns_base (owns_heap HP2.out fun j hj => HQ.out _ (by have := (HP2.out.lt j hj).1; omega)) xo
 · exact owns_base (owns_heap HP3.out fun j hj => HQ.out _ (by have := (HP3.out.lt j hj).1; omega)) xo
 · exact owns_base (owns_heap HP4.out fun j hj => HQ.out _ (by have := (HP4.out.lt j hj).1; omega)) xo
 · exact (((((HB3.out.setCell (by dsimp only; omega) _).setCell (by dsimp only; omega) _).setCell (by dsimp only; omega) _).setCell (by dsimp only; omega) _).setCell (by dsimp only; omega) _).setCell (by dsimp only; omega) _
end
section
open Go.RowKit
end
section
open Go.RowKit
structure FilS (B : Nat) (W : World) (b g1 g2 g3 g4 k1 k2 k3 k4 lw n lc : Nat) (c : SlC) : Prop where
 c0 : W.cell? ⟨b, 0, none⟩ = some (.int .i64 c.seg)
 c1 : W.cell? ⟨b, 1, none⟩ = some (.slice (some ⟨g1, 0, none⟩) lw k1)
 c2 : W.cell? ⟨b, 2, none⟩ = some (.slice (some ⟨g2, 0, none⟩) n k2)
 c3 : W.cell? ⟨b, 3, none⟩ = some (.slice (some ⟨g3, 0, none⟩) n k3)
 c4 : W.cell? ⟨b, 4, none⟩ = some (.slice (some ⟨g4, 0, none⟩) lc k4)
 c5 : W.cell? ⟨b, 5, none⟩ = some (.int .u64 c.laid)
 f1 : W.frozen? ⟨b, 1, none⟩ = false
 f5 : W.frozen? ⟨b, 5, none⟩ = false
 o1 : W.ownsRow B 27 1 (.slice (some ⟨g1, 0, none⟩) lw k1) lw (c.ws.map (Value.int .u64))
 o2 : W.ownsRow B 2 1 (.slice (some ⟨g2, 0, none⟩) n k2) n (c.ks.map (Value.int .i64))
 o3 : W.ownsRow B 2 1 (.slice (some ⟨g3, 0, none⟩) n k3) n (c.vs.map (Value.int .i64))
 o4 : W.ownsRow B 3 1 (.slice (some ⟨g4, 0, none⟩) lc k4) lc (c.cs.map (Value.int .i64))
 bB : b < B
 n23 : g2 ≠ g3
theorem owns_ne {w : World} {B g g' n n' k k' : Nat} {e e' : TypeId} {xs xs' : List Value} (ha : w.ownsRow B e 1 (.slice (some ⟨g, 0, none⟩) n k) n xs) (hb : w.ownsRow B e' 1 (.slice (some ⟨g', 0, none⟩) n' k') n' xs') (hc : e ≠ e') : g ≠ g' := by
 rcases owns_apart ha hb hc with h | h
 · cases h
 · intro hgg; exact h (by subst hgg; rfl)
theorem own_cells {k : IntKind} {w : World} {B g n cap : Nat} {e : TypeId} {xs : List Int} (h : w.ownsRow B e 1 (.slice (some ⟨g, 0, none⟩) n cap) n (xs.map (Value.int k))) {j : Nat} (hj : j < n) :
    w.cell? ⟨g, j, none⟩ = some (.int k (xs.getD j 0)) ∧ w.frozen? ⟨g, j, none⟩ = false := by
 have hl := own_len h
 subst hl
 obtain ⟨⟨x, hx, hc⟩, hf, -⟩ := row_cell h hj
 rw [hx.out]
 exact ⟨hc, hf⟩
section
variable {B b g1 g2 g3 g4 k1 k2 k3 k4 lw n lc : Nat} {W W' : World} {c : SlC}
theorem FilS.nums (h : FilS B W b g1 g2 g3 g4 k1 k2 k3 k4 lw n lc c) : B ≤ g1 ∧ B ≤ g2 ∧ B ≤ g3 ∧ B ≤ g4 ∧ g1 < W.heap.size ∧ g2 < W.heap.size ∧ g3 < W.heap.size ∧ g4 < W.heap.size ∧ g1 ≠ g2 ∧ g1 ≠ g3 ∧ g1 ≠ g4 ∧ g2 ≠ g4 ∧ g3 ≠ g4 ∧ b < W.heap.size :=
  ⟨(h.o1.lt g1 rfl).1, (h.o2.lt g2 rfl).1, (h.o3.lt g3 rfl).1, (h.o4.lt g4 rfl).1, (h.o1.lt g1 rfl).2, (h.o2.lt g2 rfl).2, (h.o3.lt g3 rfl).2, (h.o4.lt g4 rfl).2, owns_ne h.o1 h.o2 (by decide), owns_ne h.o1 h.o3 (by decide), owns_ne h.o1 h.o4 (by decide), owns_ne h.o2 h.o4 (by decide), owns_ne h.o3 h.o4 (by decide), World.block_lt_of_cell? _ _ h.c0⟩
theorem FilS.heap (h : FilS B W b g1 g2 g3 g4 k1 k2 k3 k4 lw n lc c) (hb : W'.heap[b]? = W.heap[b]?) (h1 : W'.heap[g1]? = W.heap[g1]?) (h2 : W'.heap[g2]? = W.heap[g2]?) (h3 : W'.heap[g3]? = W.heap[g3]?) (h4 : W'.heap[g4]? = W.heap[g4]?) : FilS B W' b g1 g2 g3 g4 k1 k2 k3 k4 lw n lc c :=
  ⟨(World.cell?_of_block (a := ⟨b, 0, none⟩) hb).trans h.c0, (World.cell?_of_block (a := ⟨b, 1, none⟩) hb).trans h.c1, (World.cell?_of_block (a := ⟨b, 2, none⟩) hb).trans h.c2, (World.cell?_of_block (a := ⟨b, 3, none⟩) hb).trans h.c3, (World.cell?_of_block (a := ⟨b, 4, none⟩) hb).trans h.c4, (World.cell?_of_block (a := ⟨b, 5, none⟩) hb).trans h.c5,
    (World.frozen?_of_block (a := ⟨b, 1, none⟩) hb).trans h.f1, (World.frozen?_of_block (a := ⟨b, 5, none⟩) hb).trans h.f5,
    owns_heap h.o1 fun j hj => by cases hj; exact h1, owns_heap h.o2 fun j hj => by cases hj; exact h2, owns_heap h.o3 fun j hj => by cases hj; exact h3, owns_heap h.o4 fun j hj => by cases hj; exact h4, h.bB, h.n23⟩
theorem FilS.below (h : FilS B W b g1 g2 g3 g4 k1 k2 k3 k4 lw n lc c) (hb : Below W.heap.size W W') : FilS B W' b g1 g2 g3 g4 k1 k2 k3 k4 lw n lc c := by
 have q := h.nums
 exact h.heap (hb.block _ xo) (hb.block _ xo) (hb.block _ xo) (hb.block _ xo) (hb.block _ xo)
theorem FilS.drew (h : FilS B W b g1 g2 g3 g4 k1 k2 k3 k4 lw n lc c) : FilS B W.drew b g1 g2 g3 g4 k1 k2 k3 k4 lw n lc c := h.heap rfl rfl rfl rfl rfl
theorem FilS.setL (h : FilS B W b g1 g2 g3 g4 k1 k2 k3 k4 lw n lc c) (y : Int) : FilS B (W.setCell ⟨b, 5, none⟩ (.int .u64 y)) b g1 g2 g3 g4 k1 k2 k3 k4 lw n lc ⟨c.seg, c.ws, c.ks, c.vs, c.cs, y⟩ := by
 have q := h.nums
 have hbB := h.bB
 have hk : ∀ z, z ≠ b → (W.setCell ⟨b, 5, none⟩ (.int .u64 y)).heap[z]? = W.heap[z]? := fun z hz => heap_setCell_ne _ _ _ hz
 exact ⟨set_keep (by simp) h.c0, set_keep (by simp) h.c1, set_keep (by simp) h.c2, set_keep (by simp) h.c3, set_keep (by simp) h.c4, World.cell?_setCell_same _ _ _ h.c5,
   by rw [World.frozen?_setCell]; exact h.f1, by rw [World.frozen?_setCell]; exact h.f5,
   owns_heap h.o1 fun j hj => by cases hj; exact hk _ (by dsimp only; omega), owns_heap h.o2 fun j hj => by cases hj; exact hk _ (by dsimp only; omega), owns_heap h.o3 fun j hj => by cases hj; exact hk _ (by dsimp only; omega), owns_heap h.o4 fun j hj => by cases hj; exact hk _ (by dsimp only; omega), h.bB, h.n23⟩
end
end
section
open Go.RowKit Go.Shelf
attribute [local go_sem] Oper.semAt_some
structure FilK (w w2 W : World) : Prop where
 bel : Below w.heap.size w W
 keep : ∀ q, q < w.heap.size + 2 → q ≠ w.heap.size → W.heap[q]? = w2.heap[q]?
 size : w.heap.size + 2 ≤ W.heap.size
theorem FilK.below {w w2 W W' : World} (h : FilK w w2 W) (hb : Below W.heap.size W W') : FilK w w2 W' :=
  ⟨below_via hb h.bel (by have := h.size; omega), fun q hq hne => (hb.block q (by have := h.size; omega)).trans (h.keep q hq hne), Nat.le_trans h.size hb.size⟩
theorem FilK.drew {w w2 W : World} (h : FilK w w2 W) : FilK w w2 W.drew := ⟨h.bel.drew, h.keep, h.size⟩
theorem FilK.setCell {w w2 W : World} (h : FilK w w2 W) {a : Addr} (ha : a.block = w.heap.size ∨ w.heap.size + 2 ≤ a.block) (v : Value) : FilK w w2 (W.setCell a v) :=
  ⟨h.bel.setCell xo v, fun q hq hne => (heap_setCell_ne _ _ _ xo).trans (h.keep q hq hne), by rw [World.size_setCell]; exact h.size⟩
end
section
open Go.RowKit Go.Shelf
attribute [local go_sem] Oper.semAt_some
end
section
open Go.RowKit
theorem gd_may {c : SlC} {S lw n lc : Nat} (h : SlGd c S lw n lc) (hS : pwB (S : Int) = true) (hM : pwB (lc : Int) = true) (hlw : lw = (n + 63) / 64) : slMay c = true := by
 have hlc1 : 1 ≤ lc := by
  rcases Nat.eq_zero_or_pos lc with e | e
  · rw [e] at hM; cases hM
  · exact e
 have h4 := h.s4
 have hn : (n : Int) / (S : Int) = lc := by
  rw [h.cn, Int.natCast_mul, Int.mul_ediv_cancel_left _ xo]
 have hn2 : (n : Int) % (S : Int) = 0 := by
  rw [h.cn, Int.natCast_mul, Int.mul_emod_right]
 have hle : S * 1 ≤ S * lc := Nat.mul_le_mul_left _ hlc1
 simp only [slMay, slHead, fitB, wMayB, clrB, cntB, Bool.and_eq_true, decide_eq_true_eq, List.all_eq_true]
 rw [h.elk, h.elv, h.elw, h.elc, h.seg, hn, hn2]
 refine ⟨⟨⟨⟨⟨⟨⟨⟨⟨⟨⟨by have := h.s4; omega, by have := h.s64; omega⟩, hS⟩, by have := h.cn; omega⟩, by have := h.nm; omega⟩, rfl⟩, hM⟩, rfl⟩, hlw, ?_⟩, rfl⟩, ?_⟩, ?_⟩
 · intro i hi
   have := (List.mem_range'_1.1 hi).1
   rw [h.hi i this]
   rfl
 · intro i hi
   cases hb : bitW c.ws i with
   | true => rfl
   | false =>
    have := h.clr i hb
    simp only [Bool.false_or, Bool.and_eq_true, beq_iff_eq]
    exact this
 · intro k hk
   have := h.cnt k (List.mem_range.1 hk)
   rw [Int.toNat_natCast, this, beq_self_eq_true]
theorem gd_fit {c : SlC} {S lw n lc : Nat} (h : SlGd c S lw n lc) (hm : slMay c = true) : fitB (S : Int) n = true := by
 simp only [slMay, slHead, Bool.and_eq_true] at hm
 have := hm.1.1.1.1.1
 rwa [h.elk, h.seg] at this
theorem over_ok {c : SlC} {S lw n lc : Nat} (h : SlGd c S lw n lc) (hm : slMay c = true) (sa : SlA) (lo hi : Nat) (hlo : lo ≤ hi) (hhi : hi ≤ n) (L : List (Int × Int)) (hL : L.length ≤ hi - lo) (la : Option Addr) (pl : Nat) (w : World) (hin : SlIn w c sa) (hla : IsRow .i64 w la (prI L)) :
    Calls Tryd.prog 50 #[slV c sa, .int .i64 lo, .int .i64 hi, .slice la L.length pl] w (FreshSl2 w (spC c lo hi L) (.int .i64 0)) := by
 have n1 := h.n1
 have nm := h.nm
 have s4 := h.s4
 have wn := h.wn
 have hlc : 0 < lc := by
  rcases Nat.eq_zero_or_pos lc with e | e
  · have := h.cn; rw [e] at this; omega
  · exact e
 have hlc2 : lc ≤ 65536 := by
  have h9 : 1 * lc ≤ S * lc := Nat.mul_le_mul_right _ xo
  have := h.cn
  omega
 have hlw2 : lw ≤ 65536 := by
  have := slHead_facts (slMay_head hm)
  obtain ⟨S', M, -, -, -, b3, -, -, -, b7, -, b9, -⟩ := this
  rw [h.elw] at b9
  omega
 refine over_core w c.seg sa.wa sa.ka sa.va sa.ca sa.wc sa.kc sa.vc sa.cc c.ws.length c.ks.length c.vs.length c.cs.length c.laid lo hi L.length (ints (plR L.length lo hi)) la pl (spC c lo hi L) (by rw [ints_length, plR_length]) (hid fun W hb => ?_) (hid fun W hb => Places_ok L.length lo hi hlo xo hL W) (hid fun W pa pc hb hp => ?_)
 · have := slCheck_ok c sa (by rw [h.elw]; omega) (by rw [h.elk]; omega) W (hin.below hb)
   rwa [show slE c = 0 by simp [slE, hm]] at this
 · have hin2 := hin.below hb
   have e1 := h.elw
   have e2 := h.elk
   have e3 := h.elv
   have e4 := h.elc
   rw [e1, e2, e3, e4]
   refine slFill_core W c.seg sa.wa sa.ka sa.va sa.ca sa.wc sa.kc sa.vc sa.cc lw n lc c.laid c lo hi L.length S (plR L.length lo hi) L pa la pc pl rfl rfl e1 e2 e3 e4 xo xo hlc nm hlw2 hlc2 h.seg s4 hlo hhi wn h.cn (plR_length _ _ _) rfl xo (fun k hk => plR_pv hk hL) (fun j hj => (h.tks j xo).ok) (fun k hk => (SlGd.lys (h.tks (hi - lo) xo) (fun k => plR_ltn hL hhi xo k) L k).ok) (hid hp) (hid (hla.below hb)) (hid fun W' hb' => ?_) (hid fun W' hb' => ?_)
   · have := part_ok c sa (by rw [e1]; omega) (by rw [e2]; omega) lo hi W' (hin2.below hb')
     rw [show partE c lo hi = 0 by unfold partE; rw [if_pos hm, if_pos (by rw [e2]; omega)]] at this
     simpa only [slV, e1, e2, e3, e4] using this
   · have := slTwin_ok c sa W' (hin2.below hb') (by rw [e1]; omega) (by rw [e2]; omega) (by rw [e3]; omega) (by rw [e4]; omega)
     simpa only [slV, e1, e2, e3, e4] using this
def emptyL (S M : Nat) (laid : Int) : SlC := ⟨S, List.replicate ((S * M + 63) / 64) 0, List.replicate (S * M) 0, List.replicate (S * M) 0, List.replicate M 0, laid⟩
theorem emptyL_gd {S M : Nat} (h4 : 4 ≤ S) (h6 : S ≤ 64) (hM : 1 ≤ M) (hm : S * M ≤ 65536) (laid : Int) : SlGd (emptyL S M laid) S ((S * M + 63) / 64) (S * M) M := by
 have z := zero_gd h4 h6 hM hm (lw := (S * M + 63) / 64) rfl
 exact ⟨z.seg, z.elw, z.elk, z.elv, z.elc, z.s4, z.s64, z.cn, z.wn, z.n1, z.nm, z.u, z.cnt, z.hi, z.clr⟩
def wideC (S M : Nat) (laid : Int) (L : List (Int × Int)) : SlC := spC (emptyL S M laid) 0 (S * M) L
theorem new_nums {S M : Nat} (h4 : 4 ≤ S) (hm : S * M ≤ 65536) : (((S * M : Nat) : Int) + 63).tdiv 64 = ((S * M + 63) / 64 : Nat) ∧ ((S * M : Nat) : Int).tdiv S = M ∧ (S * M + 63) / 64 ≤ 2000 ∧ M ≤ 65536 := by
 have h9 : 1 * M ≤ S * M := Nat.mul_le_mul_right _ xo
 refine ⟨?_, ?_, by omega, by omega⟩
 · rw [Int.tdiv_eq_ediv_of_nonneg xo]; omega
 · rw [Int.tdiv_eq_ediv_of_nonneg xo, Int.natCast_mul, Int.mul_ediv_cancel_left _ xo]
theorem Into_ok {c : SlC} {S lw n lc : Nat} (h : SlGd c S lw n lc) (hm : slMay c = true) (sa : SlA) (M : Nat) (hM : 1 ≤ M) (hS : pwB (S : Int) = true) (hMp : pwB (M : Int) = true) (hsm : S * M ≤ 65536) (L : List (Int × Int)) (hL : L.length ≤ S * M) (la : Option Addr) (pl : Nat) (w : World) (hin : SlIn w c sa) (hla : IsRow .i64 w la (prI L)) :
    Calls Tryd.prog 29 #[slV c sa, .int .i64 ((S * M : Nat) : Int), .slice la L.length pl] w (FreshSl2 w (wideC S M c.laid L) (.int .i64 0)) := by
 obtain ⟨q1, q2, q3, q4⟩ := new_nums (M := M) h.s4 hsm
 have ge := emptyL_gd h.s4 h.s64 hM hsm c.laid
 have gm := gd_may ge hS hMp rfl
 refine Into_core w c.seg sa.wa sa.ka sa.va sa.ca sa.wc sa.kc sa.vc sa.cc c.ws.length c.ks.length c.vs.length c.cs.length c.laid (S * M) L.length la pl (zeroSl S (S * M) ((S * M + 63) / 64) M) (wideC S M c.laid L) ge.u (hid fun W hb => ?_) (hid fun W hb => ?_) (hid fun W sa' hb hi z1 z2 z3 z4 => ?_)
 · have := slCheck_ok c sa (by rw [h.elw]; have := slHead_facts (slMay_head hm); obtain ⟨S', M', -, -, -, b3, -, -, -, b7, -, b9, -⟩ := this; rw [h.elw] at b9; omega) (by rw [h.elk]; have := h.nm; omega) W (hin.below hb)
   rwa [show slE c = 0 by simp [slE, hm]] at this
 · rw [h.seg]
   refine slNew_core W S (S * M) ((S * M + 63) / 64) M h.s4 hsm h.s64 q1 q2 xo q4 (hid fun W' => ?_)
   have := fits_ok (S : Int) ((S * M : Nat) : Int) W'
   rwa [gd_fit ge gm] at this
 · exact over_ok ge gm sa' 0 (S * M) (Nat.zero_le _) (Nat.le_refl _) L xo la pl W hi (hla.below hb)
end
section
open Go.RowKit Go.Shelf
attribute [local go_sem] Oper.semAt_some
theorem gapLoad_err (w : World) (c : Cfg) (seg : Int) (wa ka va ca : Option Addr) (wc kc vc cc lw n lv lc : Nat) (laid : Int) (m : Nat) (la : Option Addr) (pl : Nat) (e : Int) (he : e ≠ 0)
    (CK : Hid (∀ W, Below w.heap.size w W → Calls Tryd.prog 18 #[.agg #[.int .u8 c.tag, .int .i64 c.most, .int .i64 c.seg, .int .i64 c.least, .int .i64 c.den, .int .i64 c.ll, .int .i64 c.rl, .int .i64 c.rh, .int .i64 c.lh], .agg #[.int .i64 seg, .slice wa lw wc, .slice ka n kc, .slice va lv vc, .slice ca lc cc, .int .u64 laid]] W (AnsB W (.int .i64 e)))) :
    Calls Tryd.prog 17 #[.agg #[.int .u8 c.tag, .int .i64 c.most, .int .i64 c.seg, .int .i64 c.least, .int .i64 c.den, .int .i64 c.ll, .int .i64 c.rl, .int .i64 c.rh, .int .i64 c.lh], .agg #[.int .i64 seg, .slice wa lw wc, .slice ka n kc, .slice va lv vc, .slice ca lc cc, .int .u64 laid], .slice la m pl] w (FreshSl2 w ⟨0, [], [], [], [], 0⟩ (.int .i64 e)) := by
 have ge : (e != 0) = true := by simpa using he
 clear he
 go_enter Tryd.func17, Tryd.ntmps17
 go_wp2_with fail
 refine (CK.out _ xbel).mono ?_
 rintro e w1 ⟨rfl, hb1⟩
 have hz_w1 := hb1.size
 try simp only [World.size_alloc, World.size_setCell] at hz_w1
 have hh := bc9 hb1 (au9 (au9 (al9 (b := w.heap.size) (by simp))))
 obtain ⟨c_t0, c_t1, c_t2, c_t3, c_t4, c_t5, c_t6, c_t7, c_t8⟩ := hh
 have z_t := blt hb1 (auz (auz (alz (b := w.heap.size) (by simp))))
 have hh := bc6 hb1 (au6 (al6 (b := w.heap.size + 1) (by simp)))
 obtain ⟨c_s0, c_s1, c_s2, c_s3, c_s4, c_s5⟩ := hh
 have z_s := blt hb1 (auz (alz (b := w.heap.size + 1) (by simp)))
 have hh := bc6 hb1 (al6 (b := w.heap.size + 1 + 1) (by simp))
 obtain ⟨c_r0, c_r1, c_r2, c_r3, c_r4, c_r5⟩ := hh
 have hh := bf6 hb1 (alz (b := w.heap.size + 1 + 1) (by simp)) (alf6 (b := w.heap.size + 1 + 1) (by simp))
 obtain ⟨f_r0, f_r1, f_r2, f_r3, f_r4, f_r5⟩ := hh
 have z_r := blt hb1 (alz (b := w.heap.size + 1 + 1) (by simp))
 have hB1 : Below w.heap.size w w1 := xbel
 have HB1 := hid hB1
 clear hb1 hB1
 go_wp2
 refine bodyPost_ret (results_ct rfl rfl (run_loadVar_many _ Tryd.underlying29 rfl xk (six_set c_r0 c_r1 c_r2 c_r3 c_r4 c_r5))) rfl ⟨_, _, _, _, rfl, World.ownsRow_nil _ _ _ _, World.ownsRow_nil _ _ _ _, World.ownsRow_nil _ _ _ _, World.ownsRow_nil _ _ _ _, ?_⟩
 exact (((((HB1.out.setCell (by dsimp only; omega) _).setCell (by dsimp only; omega) _).setCell (by dsimp only; omega) _).setCell (by dsimp only; omega) _).setCell (by dsimp only; omega) _).setCell (by dsimp only; omega) _
theorem gapLoad_many (w : World) (c : Cfg) (seg : Int) (wa ka va ca : Option Addr) (wc kc vc cc lw n lv lc : Nat) (laid : Int) (m : Nat) (la : Option Addr) (pl : Nat) (hm : c.most < m)
    (CK : Hid (∀ W, Below w.heap.size w W → Calls Tryd.prog 18 #[.agg #[.int .u8 c.tag, .int .i64 c.most, .int .i64 c.seg, .int .i64 c.least, .int .i64 c.den, .int .i64 c.ll, .int .i64 c.rl, .int .i64 c.rh, .int .i64 c.lh], .agg #[.int .i64 seg, .slice wa lw wc, .slice ka n kc, .slice va lv vc, .slice ca lc cc, .int .u64 laid]] W (AnsB W (.int .i64 0)))) :
    Calls Tryd.prog 17 #[.agg #[.int .u8 c.tag, .int .i64 c.most, .int .i64 c.seg, .int .i64 c.least, .int .i64 c.den, .int .i64 c.ll, .int .i64 c.rl, .int .i64 c.rh, .int .i64 c.lh], .agg #[.int .i64 seg, .slice wa lw wc, .slice ka n kc, .slice va lv vc, .slice ca lc cc, .int .u64 laid], .slice la m pl] w (FreshSl2 w ⟨0, [], [], [], [], 0⟩ (.int .i64 9)) := by
 have ge : decide (c.most < (m : Int)) = true := by simpa using hm
 clear hm
 go_enter Tryd.func17, Tryd.ntmps17
 go_wp2_with fail
 refine (CK.out _ xbel).mono ?_
 rintro e w1 ⟨rfl, hb1⟩
 have hz_w1 := hb1.size
 try simp only [World.size_alloc, World.size_setCell] at hz_w1
 have hh := bc9 hb1 (au9 (au9 (al9 (b := w.heap.size) (by simp))))
 obtain ⟨c_t0, c_t1, c_t2, c_t3, c_t4, c_t5, c_t6, c_t7, c_t8⟩ := hh
 have z_t := blt hb1 (auz (auz (alz (b := w.heap.size) (by simp))))
 have hh := bc6 hb1 (au6 (al6 (b := w.heap.size + 1) (by simp)))
 obtain ⟨c_s0, c_s1, c_s2, c_s3, c_s4, c_s5⟩ := hh
 have z_s := blt hb1 (auz (alz (b := w.heap.size + 1) (by simp)))
 have hh := bc6 hb1 (al6 (b := w.heap.size + 1 + 1) (by simp))
 obtain ⟨c_r0, c_r1, c_r2, c_r3, c_r4, c_r5⟩ := hh
 have hh := bf6 hb1 (alz (b := w.heap.size + 1 + 1) (by simp)) (alf6 (b := w.heap.size + 1 + 1) (by simp))
 obtain ⟨f_r0, f_r1, f_r2, f_r3, f_r4, f_r5⟩ := hh
 have z_r := blt hb1 (alz (b := w.heap.size + 1 + 1) (by simp))
 have hB1 : Below w.heap.size w w1 := xbel
 have HB1 := hid hB1
 clear hb1 hB1
 go_wp2
 refine bodyPost_ret (results_ct rfl rfl (run_loadVar_many _ Tryd.underlying29 rfl xk (six_set c_r0 c_r1 c_r2 c_r3 c_r4 c_r5))) rfl ⟨_, _, _, _, rfl, World.ownsRow_nil _ _ _ _, World.ownsRow_nil _ _ _ _, World.ownsRow_nil _ _ _ _, World.ownsRow_nil _ _ _ _, ?_⟩
 exact (((((HB1.out.setCell (by dsimp only; omega) _).setCell (by dsimp only; omega) _).setCell (by dsimp only; omega) _).setCell (by dsimp only; omega) _).setCell (by dsimp only; omega) _).setCell (by dsimp only; omega) _
theorem gapLoad_in (w : World) (c : Cfg) (seg : Int) (wa ka va ca : Option Addr) (wc kc vc cc lw n lv lc : Nat) (laid : Int) (size m : Nat) (la : Option Addr) (pl : Nat) (d : SlC) (hm : (m : Int) ≤ c.most)
    (CK : Hid (∀ W, Below w.heap.size w W → Calls Tryd.prog 18 #[.agg #[.int .u8 c.tag, .int .i64 c.most, .int .i64 c.seg, .int .i64 c.least, .int .i64 c.den, .int .i64 c.ll, .int .i64 c.rl, .int .i64 c.rh, .int .i64 c.lh], .agg #[.int .i64 seg, .slice wa lw wc, .slice ka n kc, .slice va lv vc, .slice ca lc cc, .int .u64 laid]] W (AnsB W (.int .i64 0))))
    (CP : Hid (∀ W, Below w.heap.size w W → Calls Tryd.prog 28 #[.agg #[.int .u8 c.tag, .int .i64 c.most, .int .i64 c.seg, .int .i64 c.least, .int .i64 c.den, .int .i64 c.ll, .int .i64 c.rl, .int .i64 c.rh, .int .i64 c.lh], .int .i64 m] W (AnsB W (.tuple #[.int .i64 size, .int .i64 0]))))
    (IN : Hid (∀ W, Below w.heap.size w W → Calls Tryd.prog 29 #[.agg #[.int .i64 seg, .slice wa lw wc, .slice ka n kc, .slice va lv vc, .slice ca lc cc, .int .u64 laid], .int .i64 size, .slice la m pl] W (FreshSl2 W d (.int .i64 0)))) :
    Calls Tryd.prog 17 #[.agg #[.int .u8 c.tag, .int .i64 c.most, .int .i64 c.seg, .int .i64 c.least, .int .i64 c.den, .int .i64 c.ll, .int .i64 c.rl, .int .i64 c.rh, .int .i64 c.lh], .agg #[.int .i64 seg, .slice wa lw wc, .slice ka n kc, .slice va lv vc, .slice ca lc cc, .int .u64 laid], .slice la m pl] w (FreshSl2 w d (.int .i64 0)) := by
 have ge : decide (c.most < (m : Int)) = false := by simp; omega
 clear hm
 go_enter Tryd.func17, Tryd.ntmps17
 go_wp2_with fail
 refine (CK.out _ xbel).mono ?_
 rintro e w1 ⟨rfl, hb1⟩
 have hz_w1 := hb1.size
 try simp only [World.size_alloc, World.size_setCell] at hz_w1
 have hh := bc9 hb1 (au9 (au9 (al9 (b := w.heap.size) (by simp))))
 obtain ⟨c_t0, c_t1, c_t2, c_t3, c_t4, c_t5, c_t6, c_t7, c_t8⟩ := hh
 have z_t := blt hb1 (auz (auz (alz (b := w.heap.size) (by simp))))
 have hh := bc6 hb1 (au6 (al6 (b := w.heap.size + 1) (by simp)))
 obtain ⟨c_s0, c_s1, c_s2, c_s3, c_s4, c_s5⟩ := hh
 have z_s := blt hb1 (auz (alz (b := w.heap.size + 1) (by simp)))
 have hh := bc6 hb1 (al6 (b := w.heap.size + 1 + 1) (by simp))
 obtain ⟨c_r0, c_r1, c_r2, c_r3, c_r4, c_r5⟩ := hh
 have hh := bf6 hb1 (alz (b := w.heap.size + 1 + 1) (by simp)) (alf6 (b := w.heap.size + 1 + 1) (by simp))
 obtain ⟨f_r0, f_r1, f_r2, f_r3, f_r4, f_r5⟩ := hh
 have z_r := blt hb1 (alz (b := w.heap.size + 1 + 1) (by simp))
 have hB1 : Below w.heap.size w w1 := xbel
 have HB1 := hid hB1
 clear hb1 hB1
 go_wp2_with fail
 refine (CP.out _ HB1.out).mono ?_
 rintro e w2 ⟨rfl, hb2⟩
 have hz_w2 := hb2.size
 try simp only [World.size_alloc, World.size_setCell] at hz_w2
 have hh := bc9 hb2 ⟨c_t0, c_t1, c_t2, c_t3, c_t4, c_t5, c_t6, c_t7, c_t8⟩
 clear c_t0 c_t1 c_t2 c_t3 c_t4 c_t5 c_t6 c_t7 c_t8
 obtain ⟨c_t0, c_t1, c_t2, c_t3, c_t4, c_t5, c_t6, c_t7, c_t8⟩ := hh
 replace z_t := blt hb2 z_t
 have hh := bc6 hb2 ⟨c_s0, c_s1, c_s2, c_s3, c_s4, c_s5⟩
 clear c_s0 c_s1 c_s2 c_s3 c_s4 c_s5
 obtain ⟨c_s0, c_s1, c_s2, c_s3, c_s4, c_s5⟩ := hh
 replace z_s := blt hb2 z_s
 have hh := bc6 hb2 ⟨c_r0, c_r1, c_r2, c_r3, c_r4, c_r5⟩
 clear c_r0 c_r1 c_r2 c_r3 c_r4 c_r5
 obtain ⟨c_r0, c_r1, c_r2, c_r3, c_r4, c_r5⟩ := hh
 have hh := bf6 hb2 z_r ⟨f_r0, f_r1, f_r2, f_r3, f_r4, f_r5⟩
 clear f_r0 f_r1 f_r2 f_r3 f_r4 f_r5
 obtain ⟨f_r0, f_r1, f_r2, f_r3, f_r4, f_r5⟩ := hh
 replace z_r := blt hb2 z_r
 have HB2 := xv hb2 HB1
 have hz22 := z_r
 clear hb2
 go_wp2_with fail
 refine (IN.out _ HB2.out).mono ?_
 rintro e w3 ⟨v1, v2, v3, v4, rfl, p1, p2, p3, p4, hb3⟩
 have hz_w3 := hb3.size
 try simp only [World.size_alloc, World.size_setCell] at hz_w3
 have hh := bc9 hb3 ⟨c_t0, c_t1, c_t2, c_t3, c_t4, c_t5, c_t6, c_t7, c_t8⟩
 clear c_t0 c_t1 c_t2 c_t3 c_t4 c_t5 c_t6 c_t7 c_t8
 obtain ⟨c_t0, c_t1, c_t2, c_t3, c_t4, c_t5, c_t6, c_t7, c_t8⟩ := hh
 replace z_t := blt hb3 z_t
 have hh := bc6 hb3 ⟨c_s0, c_s1, c_s2, c_s3, c_s4, c_s5⟩
 clear c_s0 c_s1 c_s2 c_s3 c_s4 c_s5
 obtain ⟨c_s0, c_s1, c_s2, c_s3, c_s4, c_s5⟩ := hh
 replace z_s := blt hb3 z_s
 have hh := bc6 hb3 ⟨c_r0, c_r1, c_r2, c_r3, c_r4, c_r5⟩
 clear c_r0 c_r1 c_r2 c_r3 c_r4 c_r5
 obtain ⟨c_r0, c_r1, c_r2, c_r3, c_r4, c_r5⟩ := hh
 have hh := bf6 hb3 z_r ⟨f_r0, f_r1, f_r2, f_r3, f_r4, f_r5⟩
 clear f_r0 f_r1 f_r2 f_r3 f_r4 f_r5
 obtain ⟨f_r0, f_r1, f_r2, f_r3, f_r4, f_r5⟩ := hh
 replace z_r := blt hb3 z_r
 have HB3 := xv hb3 HB2
 obtain ⟨a1, k1, rfl, -⟩ := owns_news p1
 obtain ⟨a2, k2, rfl, -⟩ := owns_news p2
 obtain ⟨a3, k3, rfl, -⟩ := owns_news p3
 obtain ⟨a4, k4, rfl, -⟩ := owns_news p4
 have HP1 := hid p1
 have HP2 := hid p2
 have HP3 := hid p3
 have HP4 := hid p4
 clear p1 p2 p3 p4
 clear hb3
 go_wp2
 have HQ : Hid (∀ q, q ≠ w.heap.size + 1 + 1 → ((((((w3.setCell ⟨w.heap.size + 1 + 1, 0, none⟩ (.int .i64 d.seg)).setCell ⟨w.heap.size + 1 + 1, 1, none⟩ (.slice a1 d.ws.length k1)).setCell ⟨w.heap.size + 1 + 1, 2, none⟩ (.slice a2 d.ks.length k2)).setCell ⟨w.heap.size + 1 + 1, 3, none⟩ (.slice a3 d.vs.length k3)).setCell ⟨w.heap.size + 1 + 1, 4, none⟩ (.slice a4 d.cs.length k4)).setCell ⟨w.heap.size + 1 + 1, 5, none⟩ (.int .u64 d.laid)).heap[q]? = w3.heap[q]?) := hid fun q hq => by
  rw [heap_setCell_ne _ _ _ hq, heap_setCell_ne _ _ _ hq, heap_setCell_ne _ _ _ hq, heap_setCell_ne _ _ _ hq, heap_setCell_ne _ _ _ hq, heap_setCell_ne _ _ _ hq]
 refine bodyPost_ret (results_ct rfl rfl (run_loadVar_many _ Tryd.underlying29 rfl xk (six_set c_r0 c_r1 c_r2 c_r3 c_r4 c_r5))) rfl ⟨_, _, _, _, rfl, ?_, ?_, ?_, ?_, ?_⟩
 · exact owns_base (owns_heap HP1.out fun j hj => HQ.out _ (by have := (HP1.out.lt j hj).1; omega)) xo
 · exact owns_base (owns_heap HP2.out fun j hj => HQ.out _ (by have := (HP2.out.lt j hj).1; omega)) xo
 · exact owns_base (owns_heap HP3.out fun j hj => HQ.out _ (by have := (HP3.out.lt j hj).1; omega)) xo
 · exact owns_base (owns_heap HP4.out fun j hj => HQ.out _ (by have := (HP4.out.lt j hj).1; omega)) xo
 · exact (((((HB3.out.setCell (by dsimp only; omega) _).setCell (by dsimp only; omega) _).setCell (by dsimp only; omega) _).setCell (by dsimp only; omega) _).setCell (by dsimp only; omega) _).setCell (by dsimp only; omega) _
end
section
open Go.RowKit Go.Shelf Go.Sort
end
section
open Go.RowKit Go.Shelf Go.Sort
end
end Go.Proofs.YtookgoidlnlckaaDoor

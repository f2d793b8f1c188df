/- Merged: LayW, Put02, FilS, F64. -/
import Derived.Test.YtookgoidlnlckaaDoorGapCostP13
import Derived.Deep.CutRange
import Derived.Test.YtookgoidlnlckaaDoorGapCostP7
import Derived.Test.YtookgoidlnlckaaDoorGapCostP12
import Derived.Test.YtookgoidlnlckaaDoorGapCostP8
import Derived.Laws.ComplexArith
namespace Go.Proofs.YtookgoidlnlckaaDoor
set_option maxRecDepth 100000
set_option maxHeartbeats 40000000
set_option linter.unusedVariables false
set_option linter.unusedSimpArgs false
section
open Go.RowKit Go.Shelf
attribute [local go_sem] Oper.semAt_some
theorem over_core (w : World) (seg : Int) (wa ka va ca : Option Addr) (wc kc vc cc lw n lv lc : Nat) (laid : Int) (lo hi m : Nat) (ps : List Int) (la : Option Addr) (pl : Nat) (d : SlC) (hps : ps.length = m)
    (CK : Hid (∀ W, Below w.heap.size w W → Calls Tryd.prog 46 #[.agg #[.int .i64 seg, .slice wa lw wc, .slice ka n kc, .slice va lv vc, .slice ca lc cc, .int .u64 laid]] W (AnsB W (.int .i64 0))))
    (PL : Hid (∀ W, Below w.heap.size w W → Calls Tryd.prog 71 #[.int .i64 m, .int .i64 lo, .int .i64 hi] W (FreshI2 W ps (.int .i64 0))))
    (FI : Hid (∀ W pa pc, Below w.heap.size w W → IsRow .i64 W pa ps → Calls Tryd.prog 72 #[.agg #[.int .i64 seg, .slice wa lw wc, .slice ka n kc, .slice va lv vc, .slice ca lc cc, .int .u64 laid], .int .i64 lo, .int .i64 hi, .slice pa m pc, .slice la m pl] W (FreshSl2 W d (.int .i64 0)))) :
    Calls Tryd.prog 50 #[.agg #[.int .i64 seg, .slice wa lw wc, .slice ka n kc, .slice va lv vc, .slice ca lc cc, .int .u64 laid], .int .i64 lo, .int .i64 hi, .slice la m pl] w (FreshSl2 w d (.int .i64 0)) := by
 have HPL := hid hps
 clear hps
 go_enter Tryd.func50, Tryd.ntmps50
 go_wp2
 refine wp_scope_loop 0 (fun _ _ _ => False) rfl (fun _ _ _ h => h.elim) ?_
 intro H hH hpass
 go_wp2_with fail
 refine (CK.out _ xbel).mono ?_
 rintro e w1 ⟨rfl, hb1⟩
 have hz_w1 := hb1.size
 try simp only [World.size_alloc, World.size_setCell] at hz_w1
 have hh := bc6 hb1 (au6 (al6 (b := w.heap.size) (by simp)))
 obtain ⟨c_t0, c_t1, c_t2, c_t3, c_t4, c_t5⟩ := hh
 have z_t := blt hb1 (auz (alz (b := w.heap.size) (by simp)))
 have hh := bc6 hb1 (al6 (b := w.heap.size + 1) (by simp))
 obtain ⟨c_r0, c_r1, c_r2, c_r3, c_r4, c_r5⟩ := hh
 have hh := bf6 hb1 (alz (b := w.heap.size + 1) (by simp)) (alf6 (b := w.heap.size + 1) (by simp))
 obtain ⟨f_r0, f_r1, f_r2, f_r3, f_r4, f_r5⟩ := hh
 have z_r := blt hb1 (alz (b := w.heap.size + 1) (by simp))
 have hB1 : Below w.heap.size w w1 := xbel
 have HB1 := hid hB1
 clear hb1 hB1
 go_wp2_with fail
 refine (PL.out _ HB1.out).mono ?_
 rintro e w2 ⟨v, rfl, ho, hb2⟩
 have hz_w2 := hb2.size
 try simp only [World.size_alloc, World.size_setCell] at hz_w2
 have hh := bc6 hb2 ⟨c_t0, c_t1, c_t2, c_t3, c_t4, c_t5⟩
 clear c_t0 c_t1 c_t2 c_t3 c_t4 c_t5
 obtain ⟨c_t0, c_t1, c_t2, c_t3, c_t4, c_t5⟩ := hh
 replace z_t := blt hb2 z_t
 have hh := bc6 hb2 ⟨c_r0, c_r1, c_r2, c_r3, c_r4, c_r5⟩
 clear c_r0 c_r1 c_r2 c_r3 c_r4 c_r5
 obtain ⟨c_r0, c_r1, c_r2, c_r3, c_r4, c_r5⟩ := hh
 have hh := bf6 hb2 z_r ⟨f_r0, f_r1, f_r2, f_r3, f_r4, f_r5⟩
 clear f_r0 f_r1 f_r2 f_r3 f_r4 f_r5
 obtain ⟨f_r0, f_r1, f_r2, f_r3, f_r4, f_r5⟩ := hh
 replace z_r := blt hb2 z_r
 have HB2 := xv hb2 HB1
 rw [HPL.out] at ho
 obtain ⟨pa, pc, rfl, hi2, -⟩ := row_of_owns ho
 have FC := hid (FI.out w2 pa pc HB2.out hi2)
 have hz2 := z_r
 clear hb2 ho hi2
 go_wp2_with fail
 refine (FC.out).mono ?_
 rintro e w3 ⟨v1, v2, v3, v4, rfl, p1, p2, p3, p4, hb3⟩
 have hz_w3 := hb3.size
 try simp only [World.size_alloc, World.size_setCell] at hz_w3
 have hh := bc6 hb3 ⟨c_t0, c_t1, c_t2, c_t3, c_t4, c_t5⟩
 clear c_t0 c_t1 c_t2 c_t3 c_t4 c_t5
 obtain ⟨c_t0, c_t1, c_t2, c_t3, c_t4, c_t5⟩ := hh
 replace z_t := blt hb3 z_t
 have hh := bc6 hb3 ⟨c_r0, c_r1, c_r2, c_r3, c_r4, c_r5⟩
 clear c_r0 c_r1 c_r2 c_r3 c_r4 c_r5
 obtain ⟨c_r0, c_r1, c_r2, c_r3, c_r4, c_r5⟩ := hh
 have hh := bf6 hb3 z_r ⟨f_r0, f_r1, f_r2, f_r3, f_r4, f_r5⟩
 clear f_r0 f_r1 f_r2 f_r3 f_r4 f_r5
 obtain ⟨f_r0, f_r1, f_r2, f_r3, f_r4, f_r5⟩ := hh
 replace z_r := blt hb3 z_r
 have HB3 := xv hb3 HB2
 obtain ⟨a1, k1, rfl, -⟩ := owns_news p1
 obtain ⟨a2, k2, rfl, -⟩ := owns_news p2
 obtain ⟨a3, k3, rfl, -⟩ := owns_news p3
 obtain ⟨a4, k4, rfl, -⟩ := owns_news p4
 have HP1 := hid p1
 have HP2 := hid p2
 have HP3 := hid p3
 have HP4 := hid p4
 clear p1 p2 p3 p4
 clear hb3
 go_upto_region 7 with (fail)
 have hsx := six_set (x := .int .i64 d.seg) (y := .slice a1 d.ws.length k1) (z := .slice a2 d.ks.length k2) (p := .slice a3 d.vs.length k3) (q := .slice a4 d.cs.length k4) (r := .int .u64 d.laid) c_r0 c_r1 c_r2 c_r3 c_r4 c_r5
 have hfz : ∀ a : Addr, ((((((w3.setCell ⟨w.heap.size + 1, 0, none⟩ (.int .i64 d.seg)).setCell ⟨w.heap.size + 1, 1, none⟩ (.slice a1 d.ws.length k1)).setCell ⟨w.heap.size + 1, 2, none⟩ (.slice a2 d.ks.length k2)).setCell ⟨w.heap.size + 1, 3, none⟩ (.slice a3 d.vs.length k3)).setCell ⟨w.heap.size + 1, 4, none⟩ (.slice a4 d.cs.length k4)).setCell ⟨w.heap.size + 1, 5, none⟩ (.int .u64 d.laid)).frozen? a = w3.frozen? a := fun a => by
  rw [World.frozen?_setCell, World.frozen?_setCell, World.frozen?_setCell, World.frozen?_setCell, World.frozen?_setCell, World.frozen?_setCell]
 have HQw4 : Hid (∀ q, q ≠ w.heap.size + 1 → ((((((w3.setCell ⟨w.heap.size + 1, 0, none⟩ (.int .i64 d.seg)).setCell ⟨w.heap.size + 1, 1, none⟩ (.slice a1 d.ws.length k1)).setCell ⟨w.heap.size + 1, 2, none⟩ (.slice a2 d.ks.length k2)).setCell ⟨w.heap.size + 1, 3, none⟩ (.slice a3 d.vs.length k3)).setCell ⟨w.heap.size + 1, 4, none⟩ (.slice a4 d.cs.length k4)).setCell ⟨w.heap.size + 1, 5, none⟩ (.int .u64 d.laid)).heap[q]? = w3.heap[q]?) := hid fun q hq => by
  rw [heap_setCell_ne _ _ _ hq, heap_setCell_ne _ _ _ hq, heap_setCell_ne _ _ _ hq, heap_setCell_ne _ _ _ hq, heap_setCell_ne _ _ _ hq, heap_setCell_ne _ _ _ hq]
 have hzw4 : ((((((w3.setCell ⟨w.heap.size + 1, 0, none⟩ (.int .i64 d.seg)).setCell ⟨w.heap.size + 1, 1, none⟩ (.slice a1 d.ws.length k1)).setCell ⟨w.heap.size + 1, 2, none⟩ (.slice a2 d.ks.length k2)).setCell ⟨w.heap.size + 1, 3, none⟩ (.slice a3 d.vs.length k3)).setCell ⟨w.heap.size + 1, 4, none⟩ (.slice a4 d.cs.length k4)).setCell ⟨w.heap.size + 1, 5, none⟩ (.int .u64 d.laid)).heap.size = w3.heap.size := by simp
 have HSw4 : Hid (Below w.heap.size w ((((((w3.setCell ⟨w.heap.size + 1, 0, none⟩ (.int .i64 d.seg)).setCell ⟨w.heap.size + 1, 1, none⟩ (.slice a1 d.ws.length k1)).setCell ⟨w.heap.size + 1, 2, none⟩ (.slice a2 d.ks.length k2)).setCell ⟨w.heap.size + 1, 3, none⟩ (.slice a3 d.vs.length k3)).setCell ⟨w.heap.size + 1, 4, none⟩ (.slice a4 d.cs.length k4)).setCell ⟨w.heap.size + 1, 5, none⟩ (.int .u64 d.laid))) := hid ((((((HB3.out.setCell (by dsimp only; omega) _).setCell (by dsimp only; omega) _).setCell (by dsimp only; omega) _).setCell (by dsimp only; omega) _).setCell (by dsimp only; omega) _).setCell (by dsimp only; omega) _)
 generalize ((((((w3.setCell ⟨w.heap.size + 1, 0, none⟩ (.int .i64 d.seg)).setCell ⟨w.heap.size + 1, 1, none⟩ (.slice a1 d.ws.length k1)).setCell ⟨w.heap.size + 1, 2, none⟩ (.slice a2 d.ks.length k2)).setCell ⟨w.heap.size + 1, 3, none⟩ (.slice a3 d.vs.length k3)).setCell ⟨w.heap.size + 1, 4, none⟩ (.slice a4 d.cs.length k4)).setCell ⟨w.heap.size + 1, 5, none⟩ (.int .u64 d.laid)) = w4 at *
 have s0 := hsx 0 _ rfl
 have s1 := hsx 1 _ rfl
 have s2 := hsx 2 _ rfl
 have s3 := hsx 3 _ rfl
 have s4 := hsx 4 _ rfl
 have s5 := hsx 5 _ rfl
 replace f_r0 := (hfz _).trans f_r0
 replace f_r1 := (hfz _).trans f_r1
 replace f_r2 := (hfz _).trans f_r2
 replace f_r3 := (hfz _).trans f_r3
 replace f_r4 := (hfz _).trans f_r4
 replace f_r5 := (hfz _).trans f_r5
 clear hsx hfz c_r0 c_r1 c_r2 c_r3 c_r4 c_r5
 go_wp2
 simp only [Exit.jump]
 refine bodyPost_ret (results_ct rfl rfl (run_loadVar_many _ Tryd.underlying29 rfl xk (six_set s0 s1 s2 s3 s4 s5))) rfl ⟨_, _, _, _, rfl, ?_, ?_, ?_, ?_, ?_⟩
 · exact owns_base (owns_heap HP1.out fun j hj => (by
     have h9 := (HP1.out.lt j hj).1
     rw [heap_setCell_ne _ _ _ (by dsimp only; omega), heap_setCell_ne _ _ _ (by dsimp only; omega), heap_setCell_ne _ _ _ (by dsimp only; omega), heap_setCell_ne _ _ _ (by dsimp only; omega), heap_setCell_ne _ _ _ (by dsimp only; omega), heap_setCell_ne _ _ _ (by dsimp only; omega)]
     exact HQw4.out _ xo)) xo
 · exact owns_base (owns_heap HP2.out fun j hj => (by
     have h9 := (HP2.out.lt j hj).1
     rw [heap_setCell_ne _ _ _ (by dsimp only; omega), heap_setCell_ne _ _ _ (by dsimp only; omega), heap_setCell_ne _ _ _ (by dsimp only; omega), heap_setCell_ne _ _ _ (by dsimp only; omega), heap_setCell_ne _ _ _ (by dsimp only; omega), heap_setCell_ne _ _ _ (by dsimp only; omega)]
     exact HQw4.out _ xo)) xo
 · exact owns_base (owns_heap HP3.out fun j hj => (by
     have h9 := (HP3.out.lt j hj).1
     rw [heap_setCell_ne _ _ _ (by dsimp only; omega), heap_setCell_ne _ _ _ (by dsimp only; omega), heap_setCell_ne _ _ _ (by dsimp only; omega), heap_setCell_ne _ _ _ (by dsimp only; omega), heap_setCell_ne _ _ _ (by dsimp only; omega), heap_setCell_ne _ _ _ (by dsimp only; omega)]
     exact HQw4.out _ xo)) xo
 · exact owns_base (owns_heap HP4.out fun j hj => (by
     have h9 := (HP4.out.lt j hj).1
     rw [heap_setCell_ne _ _ _ (by dsimp only; omega), heap_setCell_ne _ _ _ (by dsimp only; omega), heap_setCell_ne _ _ _ (by dsimp only; omega), heap_setCell_ne _ _ _ (by dsimp only; omega), heap_setCell_ne _ _ _ (by dsimp only; omega), heap_setCell_ne _ _ _ (by dsimp only; omega)]
     exact HQw4.out _ xo)) xo
 · exact (((((HSw4.out.setCell (by dsimp only; omega) _).setCell (by dsimp only; omega) _).setCell (by dsimp only; omega) _).setCell (by dsimp only; omega) _).setCell (by dsimp only; omega) _).setCell (by dsimp only; omega) _
theorem Into_core (w : World) (seg : Int) (wa ka va ca : Option Addr) (wc kc vc cc lw n lv lc : Nat) (laid : Int) (size m : Nat) (la : Option Addr) (pl : Nat) (z d : SlC) (hzu : U64s z.ws)
    (CK : Hid (∀ W, Below w.heap.size w W → Calls Tryd.prog 46 #[.agg #[.int .i64 seg, .slice wa lw wc, .slice ka n kc, .slice va lv vc, .slice ca lc cc, .int .u64 laid]] W (AnsB W (.int .i64 0))))
    (NW : Hid (∀ W, Below w.heap.size w W → Calls Tryd.prog 44 #[.int .i64 seg, .int .i64 size] W (FreshSl2 W z (.int .i64 0))))
    (OV : Hid (∀ W sa, Below w.heap.size w W → SlIn W ⟨z.seg, z.ws, z.ks, z.vs, z.cs, laid⟩ sa → (sa.wa = none → sa.wc = 0) → (sa.ka = none → sa.kc = 0) → (sa.va = none → sa.vc = 0) → (sa.ca = none → sa.cc = 0) → Calls Tryd.prog 50 #[slV ⟨z.seg, z.ws, z.ks, z.vs, z.cs, laid⟩ sa, .int .i64 0, .int .i64 size, .slice la m pl] W (FreshSl2 W d (.int .i64 0)))) :
    Calls Tryd.prog 29 #[.agg #[.int .i64 seg, .slice wa lw wc, .slice ka n kc, .slice va lv vc, .slice ca lc cc, .int .u64 laid], .int .i64 size, .slice la m pl] w (FreshSl2 w d (.int .i64 0)) := by
 go_enter Tryd.func29, Tryd.ntmps29
 go_wp2_with fail
 refine (CK.out _ xbel).mono ?_
 rintro e w0 ⟨rfl, hb0⟩
 have hz_w0 := hb0.size
 try simp only [World.size_alloc, World.size_setCell] at hz_w0
 have hh := bc6 hb0 (au6 (al6 (b := w.heap.size) (by simp)))
 obtain ⟨c_t0, c_t1, c_t2, c_t3, c_t4, c_t5⟩ := hh
 have z_t := blt hb0 (auz (alz (b := w.heap.size) (by simp)))
 have hh := bc6 hb0 (al6 (b := w.heap.size + 1) (by simp))
 obtain ⟨c_r0, c_r1, c_r2, c_r3, c_r4, c_r5⟩ := hh
 have hh := bf6 hb0 (alz (b := w.heap.size + 1) (by simp)) (alf6 (b := w.heap.size + 1) (by simp))
 obtain ⟨f_r0, f_r1, f_r2, f_r3, f_r4, f_r5⟩ := hh
 have z_r := blt hb0 (alz (b := w.heap.size + 1) (by simp))
 have hB0 : Below w.heap.size w w0 := xbel
 have HB0 := hid hB0
 clear hb0 hB0
 go_wp2_with fail
 refine (NW.out _ HB0.out).mono ?_
 rintro e w1 ⟨v1, v2, v3, v4, rfl, p1, p2, p3, p4, hb1⟩
 have hz_w1 := hb1.size
 try simp only [World.size_alloc, World.size_setCell] at hz_w1
 have hh := bc6 hb1 ⟨c_t0, c_t1, c_t2, c_t3, c_t4, c_t5⟩
 clear c_t0 c_t1 c_t2 c_t3 c_t4 c_t5
 obtain ⟨c_t0, c_t1, c_t2, c_t3, c_t4, c_t5⟩ := hh
 replace z_t := blt hb1 z_t
 have hh := bc6 hb1 ⟨c_r0, c_r1, c_r2, c_r3, c_r4, c_r5⟩
 clear c_r0 c_r1 c_r2 c_r3 c_r4 c_r5
 obtain ⟨c_r0, c_r1, c_r2, c_r3, c_r4, c_r5⟩ := hh
 have hh := bf6 hb1 z_r ⟨f_r0, f_r1, f_r2, f_r3, f_r4, f_r5⟩
 clear f_r0 f_r1 f_r2 f_r3 f_r4 f_r5
 obtain ⟨f_r0, f_r1, f_r2, f_r3, f_r4, f_r5⟩ := hh
 replace z_r := blt hb1 z_r
 obtain ⟨a1, k1, rfl, i1, -, y1, -, -⟩ := row_of_owns p1
 obtain ⟨a2, k2, rfl, i2, -, y2, -, -⟩ := row_of_owns p2
 obtain ⟨a3, k3, rfl, i3, -, y3, -, -⟩ := row_of_owns p3
 obtain ⟨a4, k4, rfl, i4, -, y4, -, -⟩ := row_of_owns p4
 have HI := hid (show SlIn w1 ⟨z.seg, z.ws, z.ks, z.vs, z.cs, laid⟩ ⟨a1, a2, a3, a4, k1, k2, k3, k4⟩ from ⟨i1, i2, i3, i4, hzu⟩)
 have HY := hid (And.intro y1 (And.intro y2 (And.intro y3 y4)))
 have HB1 := xv hb1 HB0
 clear p1 p2 p3 p4 i1 i2 i3 i4 y1 y2 y3 y4 hb1 hzu
 go_upto_region 8 with (fail)
 generalize hw2 : w1.alloc (.cells #[.int .i64 z.seg, .slice a1 z.ws.length k1, .slice a2 z.ks.length k2, .slice a3 z.vs.length k3, .slice a4 z.cs.length k4, .int .u64 laid] 29) = w2
 have hh := ec6 hw2 (au6 (⟨c_t0, c_t1, c_t2, c_t3, c_t4, c_t5⟩))
 clear c_t0 c_t1 c_t2 c_t3 c_t4 c_t5
 obtain ⟨c_t0, c_t1, c_t2, c_t3, c_t4, c_t5⟩ := hh
 replace z_t := elt hw2 (auz (z_t))
 have hh := ec6 hw2 (au6 (⟨c_r0, c_r1, c_r2, c_r3, c_r4, c_r5⟩))
 clear c_r0 c_r1 c_r2 c_r3 c_r4 c_r5
 obtain ⟨c_r0, c_r1, c_r2, c_r3, c_r4, c_r5⟩ := hh
 have hh := ef6 hw2 (auf6 z_r ⟨f_r0, f_r1, f_r2, f_r3, f_r4, f_r5⟩)
 clear f_r0 f_r1 f_r2 f_r3 f_r4 f_r5
 obtain ⟨f_r0, f_r1, f_r2, f_r3, f_r4, f_r5⟩ := hh
 replace z_r := elt hw2 (auz (z_r))
 have hh := ec6 hw2 (al6 (b := w1.heap.size) (by simp))
 obtain ⟨c_o0, c_o1, c_o2, c_o3, c_o4, c_o5⟩ := hh
 have z_o := elt hw2 (alz (b := w1.heap.size) (by simp))
 have hb2 : Below w1.heap.size w1 w2 := by rw [← hw2]; exact (Below.refl _ _).alloc (Nat.le_refl _) _
 have HB2 := xv hb2 HB1
 have HC := hid (OV.out w2 ⟨a1, a2, a3, a4, k1, k2, k3, k4⟩ HB2.out (HI.out.below hb2) (fun e => (HY.out.1 e).2) (fun e => (HY.out.2.1 e).2) (fun e => (HY.out.2.2.1 e).2) (fun e => (HY.out.2.2.2 e).2))
 have hz2 := HB2.out.size
 have hz22 := z_r
 clear hw2 hb2
 dsimp only [slV] at HC
 go_wp2_with fail
 refine HC.out.mono ?_
 rintro e w3 ⟨v1, v2, v3, v4, rfl, p1, p2, p3, p4, hb3⟩
 have hz_w3 := hb3.size
 try simp only [World.size_alloc, World.size_setCell] at hz_w3
 have hh := bc6 hb3 ⟨c_t0, c_t1, c_t2, c_t3, c_t4, c_t5⟩
 clear c_t0 c_t1 c_t2 c_t3 c_t4 c_t5
 obtain ⟨c_t0, c_t1, c_t2, c_t3, c_t4, c_t5⟩ := hh
 replace z_t := blt hb3 z_t
 have hh := bc6 hb3 ⟨c_r0, c_r1, c_r2, c_r3, c_r4, c_r5⟩
 clear c_r0 c_r1 c_r2 c_r3 c_r4 c_r5
 obtain ⟨c_r0, c_r1, c_r2, c_r3, c_r4, c_r5⟩ := hh
 have hh := bf6 hb3 z_r ⟨f_r0, f_r1, f_r2, f_r3, f_r4, f_r5⟩
 clear f_r0 f_r1 f_r2 f_r3 f_r4 f_r5
 obtain ⟨f_r0, f_r1, f_r2, f_r3, f_r4, f_r5⟩ := hh
 replace z_r := blt hb3 z_r
 have hh := bc6 hb3 ⟨c_o0, c_o1, c_o2, c_o3, c_o4, c_o5⟩
 clear c_o0 c_o1 c_o2 c_o3 c_o4 c_o5
 obtain ⟨c_o0, c_o1, c_o2, c_o3, c_o4, c_o5⟩ := hh
 replace z_o := blt hb3 z_o
 have HB3 := hid (below_via hb3 HB2.out hz2)
 obtain ⟨x1, y1, rfl, -⟩ := owns_news p1
 obtain ⟨x2, y2, rfl, -⟩ := owns_news p2
 obtain ⟨x3, y3, rfl, -⟩ := owns_news p3
 obtain ⟨x4, y4, rfl, -⟩ := owns_news p4
 have HP1 := hid p1
 have HP2 := hid p2
 have HP3 := hid p3
 have HP4 := hid p4
 clear p1 p2 p3 p4
 clear hb3
 go_wp2
 have HQ : Hid (∀ q, q ≠ w.heap.size + 1 → ((((((w3.setCell ⟨w.heap.size + 1, 0, none⟩ (.int .i64 d.seg)).setCell ⟨w.heap.size + 1, 1, none⟩ (.slice x1 d.ws.length y1)).setCell ⟨w.heap.size + 1, 2, none⟩ (.slice x2 d.ks.length y2)).setCell ⟨w.heap.size + 1, 3, none⟩ (.slice x3 d.vs.length y3)).setCell ⟨w.heap.size + 1, 4, none⟩ (.slice x4 d.cs.length y4)).setCell ⟨w.heap.size + 1, 5, none⟩ (.int .u64 d.laid)).heap[q]? = w3.heap[q]?) := hid fun q hq => by
  rw [heap_setCell_ne _ _ _ hq, heap_setCell_ne _ _ _ hq, heap_setCell_ne _ _ _ hq, heap_setCell_ne _ _ _ hq, heap_setCell_ne _ _ _ hq, heap_setCell_ne _ _ _ hq]
 refine bodyPost_ret (results_ct rfl rfl (run_loadVar_many _ Tryd.underlying29 rfl xk (six_set c_r0 c_r1 c_r2 c_r3 c_r4 c_r5))) rfl ⟨_, _, _, _, rfl, ?_, ?_, ?_, ?_, ?_⟩
 · exact owns_base (owns_heap HP1.out fun j hj => HQ.out _ (by have := (HP1.out.lt j hj).1; omega)) xo
 · exact owns_base (owns_heap HP2.out fun j hj => HQ.out _ (by have := (HP2.out.lt j hj).1; omega)) xo
 · exact owns_base (owns_heap HP3.out fun j hj => HQ.out _ (by have := (HP3.out.lt j hj).1; omega)) xo
 · exact owns_base (owns_heap HP4.out fun j hj => HQ.out _ (by have := (HP4.out.lt j hj).1; omega)) xo
 · exact (((((HB3.out.setCell (by dsimp only; omega) _).setCell (by dsimp only; omega) _).setCell (by dsimp only; omega) _).setCell (by dsimp only; omega) _).setCell (by dsimp only; omega) _).setCell (by dsimp only; omega) _
end
section
open Go.RowKit
end
section
open Go.RowKit
structure FilS (B : Nat) (W : World) (b g1 g2 g3 g4 k1 k2 k3 k4 lw n lc : Nat) (c : SlC) : Prop where
 c0 : W.cell? ⟨b, 0, none⟩ = some (.int .i64 c.seg)
 c1 : W.cell? ⟨b, 1, none⟩ = some (.slice (some ⟨g1, 0, none⟩) lw k1)
 c2 : W.cell? ⟨b, 2, none⟩ = some (.slice (some ⟨g2, 0, none⟩) n k2)
 c3 : W.cell? ⟨b, 3, none⟩ = some (.slice (some ⟨g3, 0, none⟩) n k3)
 c4 : W.cell? ⟨b, 4, none⟩ = some (.slice (some ⟨g4, 0, none⟩) lc k4)
 c5 : W.cell? ⟨b, 5, none⟩ = some (.int .u64 c.laid)
 f1 : W.frozen? ⟨b, 1, none⟩ = false
 f5 : W.frozen? ⟨b, 5, none⟩ = false
 o1 : W.ownsRow B 27 1 (.slice (some ⟨g1, 0, none⟩) lw k1) lw (c.ws.map (Value.int .u64))
 o2 : W.ownsRow B 2 1 (.slice (some ⟨g2, 0, none⟩) n k2) n (c.ks.map (Value.int .i64))
 o3 : W.ownsRow B 2 1 (.slice (some ⟨g3, 0, none⟩) n k3) n (c.vs.map (Value.int .i64))
 o4 : W.ownsRow B 3 1 (.slice (some ⟨g4, 0, none⟩) lc k4) lc (c.cs.map (Value.int .i64))
 bB : b < B
 n23 : g2 ≠ g3
theorem owns_ne {w : World} {B g g' n n' k k' : Nat} {e e' : TypeId} {xs xs' : List Value} (ha : w.ownsRow B e 1 (.slice (some ⟨g, 0, none⟩) n k) n xs) (hb : w.ownsRow B e' 1 (.slice (some ⟨g', 0, none⟩) n' k') n' xs') (hc : e ≠ e') : g ≠ g' := by
 rcases owns_apart ha hb hc with h | h
 · cases h
 · intro hgg; exact h (by subst hgg; rfl)
theorem own_cells {k : IntKind} {w : World} {B g n cap : Nat} {e : TypeId} {xs : List Int} (h : w.ownsRow B e 1 (.slice (some ⟨g, 0, none⟩) n cap) n (xs.map (Value.int k))) {j : Nat} (hj : j < n) :
    w.cell? ⟨g, j, none⟩ = some (.int k (xs.getD j 0)) ∧ w.frozen? ⟨g, j, none⟩ = false := by
 have hl := own_len h
 subst hl
 obtain ⟨⟨x, hx, hc⟩, hf, -⟩ := row_cell h hj
 rw [hx.out]
 exact ⟨hc, hf⟩
section
variable {B b g1 g2 g3 g4 k1 k2 k3 k4 lw n lc : Nat} {W W' : World} {c : SlC}
theorem FilS.nums (h : FilS B W b g1 g2 g3 g4 k1 k2 k3 k4 lw n lc c) : B ≤ g1 ∧ B ≤ g2 ∧ B ≤ g3 ∧ B ≤ g4 ∧ g1 < W.heap.size ∧ g2 < W.heap.size ∧ g3 < W.heap.size ∧ g4 < W.heap.size ∧ g1 ≠ g2 ∧ g1 ≠ g3 ∧ g1 ≠ g4 ∧ g2 ≠ g4 ∧ g3 ≠ g4 ∧ b < W.heap.size :=
  ⟨(h.o1.lt g1 rfl).1, (h.o2.lt g2 rfl).1, (h.o3.lt g3 rfl).1, (h.o4.lt g4 rfl).1, (h.o1.lt g1 rfl).2, (h.o2.lt g2 rfl).2, (h.o3.lt g3 rfl).2, (h.o4.lt g4 rfl).2, owns_ne h.o1 h.o2 (by decide), owns_ne h.o1 h.o3 (by decide), owns_ne h.o1 h.o4 (by decide), owns_ne h.o2 h.o4 (by decide), owns_ne h.o3 h.o4 (by decide), World.block_lt_of_cell? _ _ h.c0⟩
theorem FilS.heap (h : FilS B W b g1 g2 g3 g4 k1 k2 k3 k4 lw n lc c) (hb : W'.heap[b]? = W.heap[b]?) (h1 : W'.heap[g1]? = W.heap[g1]?) (h2 : W'.heap[g2]? = W.heap[g2]?) (h3 : W'.heap[g3]? = W.heap[g3]?) (h4 : W'.heap[g4]? = W.heap[g4]?) : FilS B W' b g1 g2 g3 g4 k1 k2 k3 k4 lw n lc c :=
  ⟨(World.cell?_of_block (a := ⟨b, 0, none⟩) hb).trans h.c0, (World.cell?_of_block (a := ⟨b, 1, none⟩) hb).trans h.c1, (World.cell?_of_block (a := ⟨b, 2, none⟩) hb).trans h.c2, (World.cell?_of_block (a := ⟨b, 3, none⟩) hb).trans h.c3, (World.cell?_of_block (a := ⟨b, 4, none⟩) hb).trans h.c4, (World.cell?_of_block (a := ⟨b, 5, none⟩) hb).trans h.c5,
    (World.frozen?_of_block (a := ⟨b, 1, none⟩) hb).trans h.f1, (World.frozen?_of_block (a := ⟨b, 5, none⟩) hb).trans h.f5,
    owns_heap h.o1 fun j hj => by cases hj; exact h1, owns_heap h.o2 fun j hj => by cases hj; exact h2, owns_heap h.o3 fun j hj => by cases hj; exact h3, owns_heap h.o4 fun j hj => by cases hj; exact h4, h.bB, h.n23⟩
theorem FilS.below (h : FilS B W b g1 g2 g3 g4 k1 k2 k3 k4 lw n lc c) (hb : Below W.heap.size W W') : FilS B W' b g1 g2 g3 g4 k1 k2 k3 k4 lw n lc c := by
 have q := h.nums
 exact h.heap (hb.block _ xo) (hb.block _ xo) (hb.block _ xo) (hb.block _ xo) (hb.block _ xo)
theorem FilS.drew (h : FilS B W b g1 g2 g3 g4 k1 k2 k3 k4 lw n lc c) : FilS B W.drew b g1 g2 g3 g4 k1 k2 k3 k4 lw n lc c := h.heap rfl rfl rfl rfl rfl
theorem FilS.setL (h : FilS B W b g1 g2 g3 g4 k1 k2 k3 k4 lw n lc c) (y : Int) : FilS B (W.setCell ⟨b, 5, none⟩ (.int .u64 y)) b g1 g2 g3 g4 k1 k2 k3 k4 lw n lc ⟨c.seg, c.ws, c.ks, c.vs, c.cs, y⟩ := by
 have q := h.nums
 have hbB := h.bB
 have hk : ∀ z, z ≠ b → (W.setCell ⟨b, 5, none⟩ (.int .u64 y)).heap[z]? = W.heap[z]? := fun z hz => heap_setCell_ne _ _ _ hz
 exact ⟨set_keep (by simp) h.c0, set_keep (by simp) h.c1, set_keep (by simp) h.c2, set_keep (by simp) h.c3, set_keep (by simp) h.c4, World.cell?_setCell_same _ _ _ h.c5,
   by rw [World.frozen?_setCell]; exact h.f1, by rw [World.frozen?_setCell]; exact h.f5,
   owns_heap h.o1 fun j hj => by cases hj; exact hk _ (by dsimp only; omega), owns_heap h.o2 fun j hj => by cases hj; exact hk _ (by dsimp only; omega), owns_heap h.o3 fun j hj => by cases hj; exact hk _ (by dsimp only; omega), owns_heap h.o4 fun j hj => by cases hj; exact hk _ (by dsimp only; omega), h.bB, h.n23⟩
end
end
section
open Go
def Rep (d : Ieee.Datum) (n : Int) : Prop := ∃ s m i b, d = .number s m i ∧ b ≤ i ∧ b ≤ 0 ∧ Ieee.signed s m (i - b).toNat = n * 2 ^ (-b).toNat
theorem sg_mul (s : Bool) (m u v : Nat) : Ieee.signed s m (u + v) = Ieee.signed s m u * 2 ^ v := by
 unfold Ieee.signed
 rw [Nat.shiftLeft_eq, Nat.shiftLeft_eq, Nat.pow_add, ← Nat.mul_assoc]
 cases s <;> simp [Int.neg_mul]
theorem sg_xor (s t : Bool) (m n u v : Nat) : Ieee.signed (s ^^ t) (m * n) (u + v) = Ieee.signed s m u * Ieee.signed t n v := by
 unfold Ieee.signed
 rw [Nat.shiftLeft_eq, Nat.shiftLeft_eq, Nat.shiftLeft_eq, Nat.pow_add]
 have e : m * n * (2 ^ u * 2 ^ v) = (m * 2 ^ u) * (n * 2 ^ v) := by
  rw [Nat.mul_assoc, Nat.mul_assoc, ← Nat.mul_assoc n, Nat.mul_comm n (2 ^ u), Nat.mul_assoc]
 rw [e]
 cases s <;> cases t <;> simp [Int.neg_mul, Int.mul_neg]
theorem two_ne (k : Nat) : (2 : Int) ^ k ≠ 0 := by
 have : (2 : Int) ^ k = ((2 ^ k : Nat) : Int) := by push_cast; rfl
 rw [this]
 have := Nat.two_pow_pos k
 omega
theorem rep_at {s : Bool} {m : Nat} {i : Int} {n : Int} (h : Rep (.number s m i) n) {b : Int} (h1 : b ≤ i) (h2 : b ≤ 0) : Ieee.signed s m (i - b).toNat = n * 2 ^ (-b).toNat := by
 obtain ⟨s', m', i', b', e, h3, h4, h5⟩ := h
 cases e
 rcases Int.le_total b b' with hb | hb
 · obtain ⟨k, hk⟩ : ∃ k : Nat, b' - b = k := ⟨(b' - b).toNat, by omega⟩
   rw [show (i - b).toNat = (i - b').toNat + k by omega, sg_mul, h5, show (-b).toNat = (-b').toNat + k by omega, Int.pow_add, Int.mul_assoc]
 · obtain ⟨k, hk⟩ : ∃ k : Nat, b - b' = k := ⟨(b - b').toNat, by omega⟩
   rw [show (i - b').toNat = (i - b).toNat + k by omega, sg_mul, show (-b').toNat = (-b).toNat + k by omega, Int.pow_add, ← Int.mul_assoc] at h5
   exact Int.eq_of_mul_eq_mul_right (two_ne k) h5
theorem rep_num {d : Ieee.Datum} {n : Int} (h : Rep d n) : ∃ s m i, d = .number s m i := by
 obtain ⟨s, m, i, b, e, -⟩ := h
 exact ⟨s, m, i, e⟩
theorem rep_product {d d' : Ieee.Datum} {n n' : Int} (h : Rep d n) (h' : Rep d' n') : ∃ r, d.product d' = some r ∧ Rep r (n * n') := by
 obtain ⟨s, m, i, b, rfl, h1, h2, h3⟩ := h
 obtain ⟨t, k, j, c, rfl, g1, g2, g3⟩ := h'
 refine ⟨_, rfl, s ^^ t, m * k, i + j, b + c, rfl, by omega, by omega, ?_⟩
 rw [show (i + j - (b + c)).toNat = (i - b).toNat + (j - c).toNat by omega, sg_xor, h3, g3, show (-(b + c)).toNat = (-b).toNat + (-c).toNat by omega, Int.pow_add]
 rw [Int.mul_assoc, Int.mul_assoc, ← Int.mul_assoc _ n', Int.mul_comm (2 ^ (-b).toNat) n', Int.mul_assoc]
theorem sg_abs (x : Int) (z : Bool) (u : Nat) : Ieee.signed (if x = 0 then z else x < 0) x.natAbs u = x * 2 ^ u := by
 unfold Ieee.signed
 rw [Nat.shiftLeft_eq]
 have e : ((x.natAbs * 2 ^ u : Nat) : Int) = (x.natAbs : Int) * 2 ^ u := by push_cast; rfl
 rw [e]
 by_cases h0 : x = 0
 · subst h0; cases z <;> simp
 · rw [if_neg h0]
   by_cases h : x < 0
   · simp only [h, decide_true, if_true]
     rw [← Int.neg_mul]
     congr 1
     omega
   · simp only [h, decide_false, Bool.false_eq_true, if_false]
     congr 1
     omega
theorem rep_sum {d d' : Ieee.Datum} {n n' : Int} (h : Rep d n) (h' : Rep d' n') : ∃ r, d.sum d' = some r ∧ Rep r (n + n') := by
 obtain ⟨s, m, i, rfl⟩ := rep_num h
 obtain ⟨t, k, j, rfl⟩ := rep_num h'
 refine ⟨_, rfl, ?_⟩
 obtain ⟨b, hb⟩ : ∃ b, min (min i j) 0 = b := ⟨_, rfl⟩
 have r1 := rep_at h (b := b) xo xo
 have r2 := rep_at h' (b := b) xo xo
 refine ⟨_, _, _, b, rfl, by omega, by omega, ?_⟩
 rw [sg_abs]
 obtain ⟨c, hc⟩ : ∃ c : Nat, min i j - b = c := ⟨(min i j - b).toNat, by omega⟩
 rw [Int.add_mul, show (min i j - b).toNat = c by omega, ← sg_mul, ← sg_mul, show (i - min i j).toNat + c = (i - b).toNat by omega, show (j - min i j).toNat + c = (j - b).toNat by omega, r1, r2, Int.add_mul]
theorem rep_opposite {d : Ieee.Datum} {n : Int} (h : Rep d n) : Rep d.opposite (-n) := by
 obtain ⟨s, m, i, b, rfl, h1, h2, h3⟩ := h
 refine ⟨!s, m, i, b, rfl, h1, h2, ?_⟩
 rw [Int.neg_mul, ← h3]
 unfold Ieee.signed
 cases s <;> simp
theorem rep_order {d d' : Ieee.Datum} {n n' : Int} (h : Rep d n) (h' : Rep d' n') : d.order d' = some (compare n n') := by
 obtain ⟨s, m, i, rfl⟩ := rep_num h
 obtain ⟨t, k, j, rfl⟩ := rep_num h'
 obtain ⟨b, hb⟩ : ∃ b, min (min i j) 0 = b := ⟨_, rfl⟩
 have r1 := rep_at h (b := b) xo xo
 have r2 := rep_at h' (b := b) xo xo
 obtain ⟨c, hc⟩ : ∃ c : Nat, min i j - b = c := ⟨(min i j - b).toNat, by omega⟩
 rw [show (i - b).toNat = (i - min i j).toNat + c by omega, sg_mul] at r1
 rw [show (j - b).toNat = (j - min i j).toNat + c by omega, sg_mul] at r2
 unfold Ieee.Datum.order
 simp only [Option.some.injEq]
 generalize Ieee.signed s m (i - min i j).toNat = x at *
 generalize Ieee.signed t k (j - min i j).toNat = y at *
 have p1 : (0 : Int) < 2 ^ c := by
  have : (2 : Int) ^ c = ((2 ^ c : Nat) : Int) := by push_cast; rfl
  rw [this]
  have := Nat.two_pow_pos c
  omega
 have p2 : (0 : Int) < 2 ^ (-b).toNat := by
  have : (2 : Int) ^ (-b).toNat = ((2 ^ (-b).toNat : Nat) : Int) := by push_cast; rfl
  rw [this]
  have := Nat.two_pow_pos (-b).toNat
  omega
 have key : x < y ↔ n < n' := by
  constructor
  · intro hlt
    have := Int.mul_lt_mul_of_pos_right hlt p1
    rw [r1, r2] at this
    exact Int.lt_of_mul_lt_mul_right this (Int.le_of_lt p2)
  · intro hlt
    have := Int.mul_lt_mul_of_pos_right hlt p2
    rw [← r1, ← r2] at this
    exact Int.lt_of_mul_lt_mul_right this (Int.le_of_lt p1)
 have key2 : x = y ↔ n = n' := by
  constructor
  · rintro rfl
    rw [r1] at r2
    exact Int.eq_of_mul_eq_mul_right (Int.ne_of_gt p2) r2
  · rintro rfl
    rw [← r2] at r1
    exact Int.eq_of_mul_eq_mul_right (Int.ne_of_gt p1) r1
 simp only [compare, compareOfLessAndEq, key, key2]
theorem log2_mul_two (m : Nat) (hm : 0 < m) (u : Nat) : (m * 2 ^ u).log2 = m.log2 + u := by
 have hp := Nat.two_pow_pos u
 have h1 : 2 ^ m.log2 ≤ m := (Nat.le_log2 xo).1 (Nat.le_refl _)
 have h2 : m < 2 ^ (m.log2 + 1) := (Nat.log2_lt xo).1 (Nat.lt_succ_self _)
 have hne : m * 2 ^ u ≠ 0 := Nat.mul_ne_zero xo xo
 refine (Nat.log2_eq_iff hne).2 ⟨?_, ?_⟩
 · rw [Nat.pow_add]; exact Nat.mul_le_mul_right _ h1
 · rw [show m.log2 + u + 1 = (m.log2 + 1) + u by omega, Nat.pow_add]
   exact (Nat.mul_lt_mul_right hp).2 h2
theorem read_at (w r : Nat) (neg : Bool) (h1 : (w / Ieee.double.signWeight % 2 == 1) = neg) (h2 : w % Ieee.double.signWeight = r) (h3 : ¬ r < Ieee.double.binade) (h4 : r < Ieee.double.infRung) :
    Ieee.double.read w = .number neg (Ieee.double.binade + r % Ieee.double.binade) (Ieee.double.leastPlace + (r / Ieee.double.binade - 1 : Nat)) := by
 unfold Ieee.Format.read
 simp only [h1, h2, if_neg h3, if_pos h4]
theorem read_rung {s : Bool} {t K : Nat} (ht : t ≤ 52) (h1 : 4503599627370496 ≤ K) (h2 : K < 9007199254740992) :
    Ieee.double.read (Ieee.double.word s (min ((1074 - t) * 4503599627370496 + K) Ieee.double.infRung)) = .number s K (-(t : Int)) := by
 have e1 : Ieee.double.infRung = 9218868437227405312 := by decide
 have e2 : Ieee.double.signWeight = 9223372036854775808 := by decide
 have e3 : Ieee.double.binade = 4503599627370496 := by decide
 have e4 : Ieee.double.leastPlace = -1074 := by decide
 obtain ⟨r, hr⟩ : ∃ r, (1074 - t) * 4503599627370496 + K = r := ⟨_, rfl⟩
 have hm : min r Ieee.double.infRung = r := Nat.min_eq_left (by rw [e1]; omega)
 rw [hr, hm]
 have a1 : Ieee.double.binade + r % Ieee.double.binade = K := by rw [e3]; omega
 have a2 : Ieee.double.leastPlace + ((r / Ieee.double.binade - 1 : Nat) : Int) = -(t : Int) := by rw [e3, e4]; omega
 have h3 : ¬ r < Ieee.double.binade := by rw [e3]; omega
 have h4 : r < Ieee.double.infRung := by rw [e1]; omega
 have hw : Ieee.double.word s r = if s then 9223372036854775808 + r else r := by unfold Ieee.Format.word; rw [e2]
 rw [hw]
 cases s with
 | true =>
  rw [if_pos rfl, read_at _ r true (by rw [e2, beq_iff_eq]; omega) (by rw [e2]; omega) h3 h4, a1, a2]
 | false =>
  rw [if_neg (by decide), read_at _ r false (by rw [e2, beq_eq_false_iff_ne]; omega) (by rw [e2]; omega) h3 h4, a1, a2]
theorem cut_none (s : Bool) (n : Nat) : Ieee.Toward.cut .even s n 0 = n := by
 simp [Ieee.Toward.cut, Nat.mod_one]
theorem cut_exact (s : Bool) (n d : Nat) : Ieee.Toward.cut .even s (n * 2 ^ d) d = n := by
 have hp := Nat.two_pow_pos d
 by_cases h0 : n = 0
 · subst h0
   simp [Ieee.Toward.cut]
 · have hg : (1 <<< min d ((n * 2 ^ d).log2 + 2)) = 2 ^ d := by
     rw [log2_mul_two n xo, Nat.shiftLeft_eq, Nat.one_mul, Nat.min_eq_left xo]
   unfold Ieee.Toward.cut
   simp only [hg, Nat.mul_div_cancel _ hp, Nat.mul_mod_left]
   simp
theorem rep_write {d : Ieee.Datum} {n : Int} (h : Rep d n) (hn : n.natAbs < 9007199254740992) : Rep (Ieee.double.read (Ieee.double.write d)) n := by
 obtain ⟨s, m, e, rfl⟩ := rep_num h
 obtain ⟨b, hb⟩ : ∃ b, min e 0 = b := ⟨_, rfl⟩
 have r := rep_at h (b := b) xo xo
 obtain ⟨u, hu⟩ : ∃ u, (e - b).toNat = u := ⟨_, rfl⟩
 obtain ⟨v, hv⟩ : ∃ v, (-b).toNat = v := ⟨_, rfl⟩
 rw [hu, hv] at r
 have huv : u = 0 ∨ v = 0 := xo
 have hev : e = (u : Int) - v := xo
 -- the sizes alone
 have ra : m * 2 ^ u = n.natAbs * 2 ^ v := by
  have := congrArg Int.natAbs r
  rw [Int.natAbs_mul] at this
  have e2 : ((2 : Int) ^ v).natAbs = 2 ^ v := by
   have : (2 : Int) ^ v = ((2 ^ v : Nat) : Int) := by push_cast; rfl
   rw [this]; rfl
  rw [e2] at this
  rw [← this]
  unfold Ieee.signed
  rw [Nat.shiftLeft_eq]
  cases s
  · rfl
  · simp only [if_true]
    omega
 have rs : s = true → n ≤ 0 := fun hs => by
  subst hs
  apply Int.not_lt.1
  intro hpos
  unfold Ieee.signed at r
  simp only [if_true] at r
  have : (0 : Int) < n * 2 ^ v := Int.mul_pos hpos (by
   have : (2 : Int) ^ v = ((2 ^ v : Nat) : Int) := by push_cast; rfl
   rw [this]; have := Nat.two_pow_pos v; omega)
  omega
 have rs2 : s = false → 0 ≤ n := fun hs => by
  subst hs
  apply Int.not_lt.1
  intro hneg
  unfold Ieee.signed at r
  simp only [Bool.false_eq_true, if_false] at r
  have : n * 2 ^ v < 0 := Int.mul_neg_of_neg_of_pos hneg (by
   have : (2 : Int) ^ v = ((2 ^ v : Nat) : Int) := by push_cast; rfl
   rw [this]; have := Nat.two_pow_pos v; omega)
  omega
 have hsn : ∀ K : Nat, ∀ t : Nat, K = n.natAbs * 2 ^ t → Rep (.number s K (-(t : Int))) n := fun K t hK => by
  refine ⟨s, K, _, -(t : Int), rfl, Int.le_refl _, by omega, ?_⟩
  rw [Int.sub_self, Int.neg_neg]
  unfold Ieee.signed
  simp only [Int.toNat_zero, Nat.shiftLeft_zero, Int.toNat_natCast]
  have e2 : ((n.natAbs * 2 ^ t : Nat) : Int) = (n.natAbs : Int) * 2 ^ t := by push_cast; rfl
  rw [hK, e2]
  cases s with
  | true =>
   have := rs rfl
   simp only [if_true]
   rw [← Int.neg_mul]
   congr 1
   omega
  | false =>
   have := rs2 rfl
   simp only [Bool.false_eq_true, if_false]
   congr 1
   omega
 unfold Ieee.Format.write Ieee.Format.nearest
 simp only
 by_cases hm : m = 0
 · rw [if_pos hm]
   have hn0 : n = 0 := by
    rw [hm, Nat.zero_mul] at ra
    have := Nat.two_pow_pos v
    have : n.natAbs = 0 := by
     rcases Nat.mul_eq_zero.1 ra.symm with h | h <;> omega
    omega
   subst hn0
   refine ⟨s, 0, -1074, -1074, ?_, Int.le_refl _, by decide, ?_⟩
   · cases s <;> decide
   · rw [Int.zero_mul]; unfold Ieee.signed; rw [Nat.zero_shiftLeft]; cases s <;> rfl
 · rw [if_neg hm]
   have hN : 0 < n.natAbs := by
    apply Nat.pos_of_ne_zero
    intro h0
    rw [h0, Nat.zero_mul] at ra
    have := Nat.two_pow_pos u
    rcases Nat.mul_eq_zero.1 ra with h | h <;> omega
   have hl := congrArg Nat.log2 ra
   rw [log2_mul_two m xo, log2_mul_two n.natAbs hN] at hl
   have hN52 : n.natAbs.log2 ≤ 52 := by
    have : n.natAbs.log2 < 53 := (Nat.log2_lt xo).2 (by simpa using hn)
    omega
   obtain ⟨t, ht⟩ : ∃ t : Nat, 52 - n.natAbs.log2 = t := ⟨_, rfl⟩
   have hlast : max (e + (m.log2 : Int) - (Ieee.double.fractionBits : Nat)) Ieee.double.leastPlace = -(t : Int) := by
    have e4 : Ieee.double.leastPlace = -1074 := by decide
    have e5 : ((Ieee.double.fractionBits : Nat) : Int) = 52 := by decide
    rw [e4, e5]
    omega
   rw [hlast]
   have hkept : Ieee.Toward.cut .even s (m <<< (e - -(t : Int)).toNat) (-(t : Int) - e).toNat = n.natAbs * 2 ^ t := by
    rw [Nat.shiftLeft_eq]
    by_cases hc : -(t : Int) ≤ e
    · rw [show (-(t : Int) - e).toNat = 0 by omega, cut_none]
      rcases huv with h | h
      · subst h
        rw [Nat.pow_zero, Nat.mul_one] at ra
        rw [ra, Nat.mul_assoc, ← Nat.pow_add]
        congr 2
        omega
      · subst h
        rw [Nat.pow_zero, Nat.mul_one] at ra
        rw [← ra, Nat.mul_assoc, ← Nat.pow_add]
        congr 2
        omega
    · rw [show (e - -(t : Int)).toNat = 0 by omega, Nat.pow_zero, Nat.mul_one]
      obtain ⟨dp, hdp⟩ : ∃ dp, (-(t : Int) - e).toNat = dp := ⟨_, rfl⟩
      rw [hdp]
      have hu0 : u = 0 := xo
      subst hu0
      rw [Nat.pow_zero, Nat.mul_one] at ra
      have em : m = (n.natAbs * 2 ^ t) * 2 ^ dp := by
       rw [ra, Nat.mul_assoc, ← Nat.pow_add]
       congr 2
       omega
      rw [em]
      exact cut_exact s _ dp
   rw [hkept]
   have hK1 : 4503599627370496 ≤ n.natAbs * 2 ^ t ∧ n.natAbs * 2 ^ t < 9007199254740992 := by
    have h1 : 2 ^ n.natAbs.log2 ≤ n.natAbs := (Nat.le_log2 xo).1 (Nat.le_refl _)
    have h2 : n.natAbs < 2 ^ (n.natAbs.log2 + 1) := (Nat.log2_lt xo).1 (Nat.lt_succ_self _)
    have hp := Nat.two_pow_pos t
    constructor
    · have := Nat.mul_le_mul_right (2 ^ t) h1
      rw [← Nat.pow_add, show n.natAbs.log2 + t = 52 by omega] at this
      exact this
    · have := (Nat.mul_lt_mul_right hp).2 h2
      rw [← Nat.pow_add, show n.natAbs.log2 + 1 + t = 53 by omega] at this
      exact this
   have e3 : Ieee.double.binade = 4503599627370496 := by decide
   have e4 : (-(t : Int) - Ieee.double.leastPlace).toNat = 1074 - t := by
    have e4 : Ieee.double.leastPlace = -1074 := by decide
    rw [e4]; omega
   rw [e3, e4, read_rung xo hK1.1 hK1.2]
   exact hsn _ t rfl
theorem read_neg (x : Nat) : Ieee.double.read (x ^^^ 2 ^ 63) = (Ieee.double.read x).opposite := by
 have e2 : Ieee.double.signWeight = 2 ^ 63 := by decide
 have h1 : ((x ^^^ 2 ^ 63) / Ieee.double.signWeight % 2 == 1) = !(x / Ieee.double.signWeight % 2 == 1) := by
  rw [e2]
  have t : ∀ y : Nat, (y / 2 ^ 63 % 2 == 1) = y.testBit 63 := fun y => by
   rw [Nat.testBit_eq_decide_div_mod_eq]
   rfl
  rw [t, t, Nat.testBit_xor, Nat.testBit_two_pow_self]
  simp
 have h2 : (x ^^^ 2 ^ 63) % Ieee.double.signWeight = x % Ieee.double.signWeight := by
  rw [e2]
  apply Nat.eq_of_testBit_eq
  intro i
  rw [Nat.testBit_mod_two_pow, Nat.testBit_mod_two_pow, Nat.testBit_xor, Nat.testBit_two_pow]
  by_cases h : i < 63
  · have : ¬ 63 = i := xo
    simp [this]
  · simp [h]
 unfold Ieee.Format.read
 simp only [h1, h2]
 split
 · rfl
 · split
   · rfl
   · split <;> rfl
theorem rep_neg {x : Nat} {n : Int} (h : Rep (Ieee.double.read x) n) : Rep (Ieee.double.read (x ^^^ 2 ^ 63)) (-n) := by
 rw [read_neg]
 exact rep_opposite h
theorem rep_of (n : Int) (hn : n.natAbs < 9007199254740992) : Rep (Ieee.double.read (floatOfInt .f64 n)) n := by
 refine rep_write (d := .number (n < 0) n.natAbs 0) ⟨_, _, 0, 0, rfl, Int.le_refl _, Int.le_refl _, ?_⟩ hn
 unfold Ieee.signed
 by_cases h : n < 0
 · simp [h]; omega
 · simp [h]; omega
theorem f64_mul {x y : Nat} {n m : Int} (hx : Rep (Ieee.double.read x) n) (hy : Rep (Ieee.double.read y) m) (h : (n * m).natAbs < 9007199254740992) : ∃ r, floatBits .mul .f64 x y = some r ∧ Rep (Ieee.double.read r) (n * m) := by
 obtain ⟨d, h1, h2⟩ := rep_product hx hy
 exact ⟨_, by show ((Ieee.double.read x).product (Ieee.double.read y)).map _ = _; rw [h1]; rfl, rep_write h2 h⟩
theorem f64_add {x y : Nat} {n m : Int} (hx : Rep (Ieee.double.read x) n) (hy : Rep (Ieee.double.read y) m) (h : (n + m).natAbs < 9007199254740992) : ∃ r, floatBits .add .f64 x y = some r ∧ Rep (Ieee.double.read r) (n + m) := by
 obtain ⟨d, h1, h2⟩ := rep_sum hx hy
 exact ⟨_, by show ((Ieee.double.read x).sum (Ieee.double.read y)).map _ = _; rw [h1]; rfl, rep_write h2 h⟩
theorem f64_sub {x y : Nat} {n m : Int} (hx : Rep (Ieee.double.read x) n) (hy : Rep (Ieee.double.read y) m) (h : (n - m).natAbs < 9007199254740992) : ∃ r, floatBits .sub .f64 x y = some r ∧ Rep (Ieee.double.read r) (n - m) := by
 obtain ⟨d, h1, h2⟩ := rep_sum hx (rep_opposite hy)
 rw [← Int.sub_eq_add_neg] at h2
 exact ⟨_, by show ((Ieee.double.read x).sum (Ieee.double.read y).opposite).map _ = _; rw [h1]; rfl, rep_write h2 h⟩
theorem abs_mul_lt {a b : Int} (ha : a.natAbs < 67108864) (hb : b.natAbs < 67108864) : (a * b).natAbs < 4503599627370496 := by
 rw [Int.natAbs_mul]
 have h1 : a.natAbs * b.natAbs ≤ 67108863 * 67108863 := Nat.mul_le_mul xo xo
 omega
theorem cross_bits {a b c d : Nat} {A B C D : Int} (ha : Rep (Ieee.double.read a) A) (hb : Rep (Ieee.double.read b) B) (hc : Rep (Ieee.double.read c) C) (hd : Rep (Ieee.double.read d) D)
    (bA : A.natAbs < 67108864) (bB : B.natAbs < 67108864) (bC : C.natAbs < 67108864) (bD : D.natAbs < 67108864) :
    ∃ re im, cMulBits a b c (d ^^^ 2 ^ 63) = some (re, im) ∧ Rep (Ieee.double.read im) (B * C - A * D) := by
 have hd' := rep_neg hd
 have bD' : (-D).natAbs < 67108864 := xo
 have p1 := abs_mul_lt bA bC
 have p2 := abs_mul_lt bB bD'
 have p3 := abs_mul_lt bA bD'
 have p4 := abs_mul_lt bB bC
 obtain ⟨ac, e1, r1⟩ := f64_mul ha hc xo
 obtain ⟨bd, e2, r2⟩ := f64_mul hb hd' xo
 obtain ⟨re, e3, r3⟩ := f64_sub r1 r2 xo
 obtain ⟨ad, e4, r4⟩ := f64_mul ha hd' xo
 obtain ⟨bc, e5, r5⟩ := f64_mul hb hc xo
 obtain ⟨im, e6, r6⟩ := f64_add r4 r5 xo
 refine ⟨re, im, ?_, ?_⟩
 · unfold cMulBits
   simp only [e1, e2, e3, e4, e5, e6, Option.bind_some]
 · rw [show B * C - A * D = A * -D + B * C by rw [Int.mul_neg]; omega]
   exact r6
theorem order_zero {x : Nat} {n : Int} (h : Rep (Ieee.double.read x) n) : Ieee.double.order x 0 = some (compare n 0) := by
 have h0 : Rep (Ieee.double.read 0) 0 := by
  refine ⟨false, 0, -1074, -1074, by decide, Int.le_refl _, by decide, ?_⟩
  rw [Int.zero_mul]; unfold Ieee.signed; rw [Nat.zero_shiftLeft]; rfl
 exact rep_order h h0
end
end Go.Proofs.YtookgoidlnlckaaDoor

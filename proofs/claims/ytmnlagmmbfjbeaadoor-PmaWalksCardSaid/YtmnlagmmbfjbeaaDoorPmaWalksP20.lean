/- Merged: LayW, Put02, FilS, Filled, Empty04, Spr, LoadW, GapLd, PmSz, PmGet. -/
import Derived.Test.YtmnlagmmbfjbeaaDoorPmaWalksP19
import Derived.Deep.CutRange
import Derived.Test.YtmnlagmmbfjbeaaDoorPmaWalksP11
import Derived.Test.YtmnlagmmbfjbeaaDoorPmaWalksP18
import Derived.Test.YtmnlagmmbfjbeaaDoorPmaWalksP14
import Derived.Test.YtmnlagmmbfjbeaaDoorPmaWalksP5
import Derived.Test.YtmnlagmmbfjbeaaDoorPmaWalksP12
import Derived.Test.YtmnlagmmbfjbeaaDoorPmaWalksP2
import Derived.Test.YtmnlagmmbfjbeaaDoorPmaWalksP8
import Derived.Test.YtmnlagmmbfjbeaaDoorPmaWalksP10
import Derived.Test.YtmnlagmmbfjbeaaDoorPmaWalksP15
import Derived.Test.YtmnlagmmbfjbeaaDoorPmaWalksP3
import Derived.Test.YtmnlagmmbfjbeaaDoorPmaWalksP13
namespace Go.Proofs.YtmnlagmmbfjbeaaDoor
set_option maxRecDepth 100000
set_option maxHeartbeats 40000000
set_option linter.unusedVariables false
set_option linter.unusedSimpArgs false
section
open Go.RowKit Go.Shelf
attribute [local go_sem] Oper.semAt_some
theorem over_core (w:World) (seg:Int) (wa ka va ca:Option Addr) (wc kc vc cc lw n lv lc:Nat) (laid:Int) (lo hi m:Nat) (ps:List Int) (la:Option Addr) (pl:Nat) (d:SlC) (hps:ps.length=m)
    (CK:Hid (∀W,Below w.heap.size w W→Calls Tryd.prog 52 #[.agg #[.int .i64 seg,.slice wa lw wc,.slice ka n kc,.slice va lv vc,.slice ca lc cc,.int .u64 laid]] W (AnsB W (.int .i64 0))))
    (PL:Hid (∀W,Below w.heap.size w W→Calls Tryd.prog 88 #[.int .i64 m,.int .i64 lo,.int .i64 hi] W (FreshI2 W ps (.int .i64 0))))
    (FI:Hid (∀W pa pc,Below w.heap.size w W→IsRow .i64 W pa ps→Calls Tryd.prog 89 #[.agg #[.int .i64 seg,.slice wa lw wc,.slice ka n kc,.slice va lv vc,.slice ca lc cc,.int .u64 laid],.int .i64 lo,.int .i64 hi,.slice pa m pc,.slice la m pl] W (FreshSl2 W d (.int .i64 0)))):
    Calls Tryd.prog 67 #[.agg #[.int .i64 seg,.slice wa lw wc,.slice ka n kc,.slice va lv vc,.slice ca lc cc,.int .u64 laid],.int .i64 lo,.int .i64 hi,.slice la m pl] w (FreshSl2 w d (.int .i64 0)):=by
 have HPL:=hid hps;clear hps;go_enter Tryd.func67,Tryd.ntmps67
 go_wp2
 refine wp_scope_loop 0 (fun _ _ _=>False) rfl (fun _ _ _ h=>h.elim) ?_;intro H hH hpass;go_wp2_with fail
 refine (CK.out _ xbel).mono ?_;rintro e w1 ⟨rfl,hb1⟩;have hz_w1:=hb1.size;try simp only [World.size_alloc,World.size_setCell] at hz_w1
 have hh:=bc6 hb1 (au6 (al6 (b:=w.heap.size) xsi));obtain ⟨c_t0,c_t1,c_t2,c_t3,c_t4,c_t5⟩:=hh;have z_t:=blt hb1 (auz (alz (b:=w.heap.size) xsi));have hh:=bc6 hb1 (al6 (b:=w.heap.size+1) xsi);obtain ⟨c_r0,c_r1,c_r2,c_r3,c_r4,c_r5⟩:=hh;have hh:=bf6 hb1 (alz (b:=w.heap.size+1) xsi) (alf6 (b:=w.heap.size+1) xsi);obtain ⟨f_r0,f_r1,f_r2,f_r3,f_r4,f_r5⟩:=hh;have z_r:=blt hb1 (alz (b:=w.heap.size+1) xsi);have hB1:Below w.heap.size w w1:=xbel;have HB1:=hid hB1;clear hb1 hB1;go_wp2_with fail
 refine (PL.out _ HB1.out).mono ?_;rintro e w2 ⟨v,rfl,ho,hb2⟩;have hz_w2:=hb2.size;simp (disch:=omega) only [xcl hb2,xfr hb2] at c_t0 c_t1 c_t2 c_t3 c_t4 c_t5 c_r0 c_r1 c_r2 c_r3 c_r4 c_r5 f_r0 f_r1 f_r2 f_r3 f_r4 f_r5;replace z_t:=blt hb2 z_t;replace z_r:=blt hb2 z_r;have HB2:=xv hb2 HB1;rw [HPL.out] at ho;obtain ⟨pa,pc,rfl,hi2,-⟩:=row_of_owns ho;have FC:=hid (FI.out w2 pa pc HB2.out hi2);have hz2:=z_r;clear hb2 ho hi2;go_wp2_with fail
 refine (FC.out).mono ?_;rintro e w3 ⟨v1,v2,v3,v4,rfl,p1,p2,p3,p4,hb3⟩;have hz_w3:=hb3.size;simp (disch:=omega) only [xcl hb3,xfr hb3] at c_t0 c_t1 c_t2 c_t3 c_t4 c_t5 c_r0 c_r1 c_r2 c_r3 c_r4 c_r5 f_r0 f_r1 f_r2 f_r3 f_r4 f_r5;replace z_t:=blt hb3 z_t;replace z_r:=blt hb3 z_r;have HB3:=xv hb3 HB2;obtain ⟨a1,k1,rfl,-⟩:=owns_news p1;obtain ⟨a2,k2,rfl,-⟩:=owns_news p2;obtain ⟨a3,k3,rfl,-⟩:=owns_news p3;obtain ⟨a4,k4,rfl,-⟩:=owns_news p4;have HP1:=hid p1;have HP2:=hid p2;have HP3:=hid p3;have HP4:=hid p4;clear p1 p2 p3 p4;clear hb3;go_upto_region 7 with (fail)
 have hsx:=six_set (x:= .int .i64 d.seg) (y:= .slice a1 d.ws.length k1) (z:= .slice a2 d.ks.length k2) (p:= .slice a3 d.vs.length k3) (q:= .slice a4 d.cs.length k4) (r:= .int .u64 d.laid) c_r0 c_r1 c_r2 c_r3 c_r4 c_r5;have hfz:∀a:Addr,((((((w3.setCell ⟨w.heap.size+1,0,none⟩ (.int .i64 d.seg)).setCell ⟨w.heap.size+1,1,none⟩ (.slice a1 d.ws.length k1)).setCell ⟨w.heap.size+1,2,none⟩ (.slice a2 d.ks.length k2)).setCell ⟨w.heap.size+1,3,none⟩ (.slice a3 d.vs.length k3)).setCell ⟨w.heap.size+1,4,none⟩ (.slice a4 d.cs.length k4)).setCell ⟨w.heap.size+1,5,none⟩ (.int .u64 d.laid)).frozen? a=w3.frozen? a:=fun a=>by
  rw [World.frozen?_setCell,World.frozen?_setCell,World.frozen?_setCell,World.frozen?_setCell,World.frozen?_setCell,World.frozen?_setCell]
 have HQw4:Hid (∀q,q≠w.heap.size+1→((((((w3.setCell ⟨w.heap.size+1,0,none⟩ (.int .i64 d.seg)).setCell ⟨w.heap.size+1,1,none⟩ (.slice a1 d.ws.length k1)).setCell ⟨w.heap.size+1,2,none⟩ (.slice a2 d.ks.length k2)).setCell ⟨w.heap.size+1,3,none⟩ (.slice a3 d.vs.length k3)).setCell ⟨w.heap.size+1,4,none⟩ (.slice a4 d.cs.length k4)).setCell ⟨w.heap.size+1,5,none⟩ (.int .u64 d.laid)).heap[q]? =w3.heap[q]?):=hid fun q hq=>by
  rw [heap_setCell_ne _ _ _ hq,heap_setCell_ne _ _ _ hq,heap_setCell_ne _ _ _ hq,heap_setCell_ne _ _ _ hq,heap_setCell_ne _ _ _ hq,heap_setCell_ne _ _ _ hq]
 have hzw4:((((((w3.setCell ⟨w.heap.size+1,0,none⟩ (.int .i64 d.seg)).setCell ⟨w.heap.size+1,1,none⟩ (.slice a1 d.ws.length k1)).setCell ⟨w.heap.size+1,2,none⟩ (.slice a2 d.ks.length k2)).setCell ⟨w.heap.size+1,3,none⟩ (.slice a3 d.vs.length k3)).setCell ⟨w.heap.size+1,4,none⟩ (.slice a4 d.cs.length k4)).setCell ⟨w.heap.size+1,5,none⟩ (.int .u64 d.laid)).heap.size=w3.heap.size:=by simp
 have HSw4:Hid (Below w.heap.size w ((((((w3.setCell ⟨w.heap.size+1,0,none⟩ (.int .i64 d.seg)).setCell ⟨w.heap.size+1,1,none⟩ (.slice a1 d.ws.length k1)).setCell ⟨w.heap.size+1,2,none⟩ (.slice a2 d.ks.length k2)).setCell ⟨w.heap.size+1,3,none⟩ (.slice a3 d.vs.length k3)).setCell ⟨w.heap.size+1,4,none⟩ (.slice a4 d.cs.length k4)).setCell ⟨w.heap.size+1,5,none⟩ (.int .u64 d.laid))):=hid ((((((HB3.out.setCell xdo _).setCell xdo _).setCell xdo _).setCell xdo _).setCell xdo _).setCell xdo _);generalize ((((((w3.setCell ⟨w.heap.size+1,0,none⟩ (.int .i64 d.seg)).setCell ⟨w.heap.size+1,1,none⟩ (.slice a1 d.ws.length k1)).setCell ⟨w.heap.size+1,2,none⟩ (.slice a2 d.ks.length k2)).setCell ⟨w.heap.size+1,3,none⟩ (.slice a3 d.vs.length k3)).setCell ⟨w.heap.size+1,4,none⟩ (.slice a4 d.cs.length k4)).setCell ⟨w.heap.size+1,5,none⟩ (.int .u64 d.laid))=w4 at *;have s0:=hsx 0 _ rfl;have s1:=hsx 1 _ rfl;have s2:=hsx 2 _ rfl;have s3:=hsx 3 _ rfl;have s4:=hsx 4 _ rfl;have s5:=hsx 5 _ rfl;replace f_r0:=(hfz _).trans f_r0;replace f_r1:=(hfz _).trans f_r1;replace f_r2:=(hfz _).trans f_r2;replace f_r3:=(hfz _).trans f_r3;replace f_r4:=(hfz _).trans f_r4;replace f_r5:=(hfz _).trans f_r5;clear hsx hfz c_r0 c_r1 c_r2 c_r3 c_r4 c_r5;go_wp2
 simp only [Exit.jump];refine bodyPost_ret (results_ct rfl rfl (run_loadVar_many _ Tryd.underlying29 rfl xk (six_set s0 s1 s2 s3 s4 s5))) rfl ⟨_,_,_,_,rfl,?_,?_,?_,?_,?_⟩
 · exact owns_base (owns_heap HP1.out fun j hj=>(by
     have h9:=(HP1.out.lt j hj).1;rw [heap_setCell_ne _ _ _ xdo,heap_setCell_ne _ _ _ xdo,heap_setCell_ne _ _ _ xdo,heap_setCell_ne _ _ _ xdo,heap_setCell_ne _ _ _ xdo,heap_setCell_ne _ _ _ xdo];exact HQw4.out _ xo)) xo
 · exact owns_base (owns_heap HP2.out fun j hj=>(by
     have h9:=(HP2.out.lt j hj).1;rw [heap_setCell_ne _ _ _ xdo,heap_setCell_ne _ _ _ xdo,heap_setCell_ne _ _ _ xdo,heap_setCell_ne _ _ _ xdo,heap_setCell_ne _ _ _ xdo,heap_setCell_ne _ _ _ xdo];exact HQw4.out _ xo)) xo
 · exact owns_base (owns_heap HP3.out fun j hj=>(by
     have h9:=(HP3.out.lt j hj).1;rw [heap_setCell_ne _ _ _ xdo,heap_setCell_ne _ _ _ xdo,heap_setCell_ne _ _ _ xdo,heap_setCell_ne _ _ _ xdo,heap_setCell_ne _ _ _ xdo,heap_setCell_ne _ _ _ xdo];exact HQw4.out _ xo)) xo
 · exact owns_base (owns_heap HP4.out fun j hj=>(by
     have h9:=(HP4.out.lt j hj).1;rw [heap_setCell_ne _ _ _ xdo,heap_setCell_ne _ _ _ xdo,heap_setCell_ne _ _ _ xdo,heap_setCell_ne _ _ _ xdo,heap_setCell_ne _ _ _ xdo,heap_setCell_ne _ _ _ xdo];exact HQw4.out _ xo)) xo
 · exact (((((HSw4.out.setCell xdo _).setCell xdo _).setCell xdo _).setCell xdo _).setCell xdo _).setCell xdo _
theorem Into_core (w:World) (seg:Int) (wa ka va ca:Option Addr) (wc kc vc cc lw n lv lc:Nat) (laid:Int) (size m:Nat) (la:Option Addr) (pl:Nat) (z d:SlC) (hzu:U64s z.ws)
    (CK:Hid (∀W,Below w.heap.size w W→Calls Tryd.prog 52 #[.agg #[.int .i64 seg,.slice wa lw wc,.slice ka n kc,.slice va lv vc,.slice ca lc cc,.int .u64 laid]] W (AnsB W (.int .i64 0))))
    (NW:Hid (∀W,Below w.heap.size w W→Calls Tryd.prog 54 #[.int .i64 seg,.int .i64 size] W (FreshSl2 W z (.int .i64 0))))
    (OV:Hid (∀W sa,Below w.heap.size w W→SlIn W ⟨z.seg,z.ws,z.ks,z.vs,z.cs,laid⟩ sa→(sa.wa=none→sa.wc=0)→(sa.ka=none→sa.kc=0)→(sa.va=none→sa.vc=0)→(sa.ca=none→sa.cc=0)→Calls Tryd.prog 67 #[slV ⟨z.seg,z.ws,z.ks,z.vs,z.cs,laid⟩ sa,.int .i64 0,.int .i64 size,.slice la m pl] W (FreshSl2 W d (.int .i64 0)))):
    Calls Tryd.prog 43 #[.agg #[.int .i64 seg,.slice wa lw wc,.slice ka n kc,.slice va lv vc,.slice ca lc cc,.int .u64 laid],.int .i64 size,.slice la m pl] w (FreshSl2 w d (.int .i64 0)):=by
 go_enter Tryd.func43,Tryd.ntmps43
 go_wp2_with fail
 refine (CK.out _ xbel).mono ?_;rintro e w0 ⟨rfl,hb0⟩;have hz_w0:=hb0.size;try simp only [World.size_alloc,World.size_setCell] at hz_w0
 have hh:=bc6 hb0 (au6 (al6 (b:=w.heap.size) xsi));obtain ⟨c_t0,c_t1,c_t2,c_t3,c_t4,c_t5⟩:=hh;have z_t:=blt hb0 (auz (alz (b:=w.heap.size) xsi));have hh:=bc6 hb0 (al6 (b:=w.heap.size+1) xsi);obtain ⟨c_r0,c_r1,c_r2,c_r3,c_r4,c_r5⟩:=hh;have hh:=bf6 hb0 (alz (b:=w.heap.size+1) xsi) (alf6 (b:=w.heap.size+1) xsi);obtain ⟨f_r0,f_r1,f_r2,f_r3,f_r4,f_r5⟩:=hh;have z_r:=blt hb0 (alz (b:=w.heap.size+1) xsi);have hB0:Below w.heap.size w w0:=xbel;have HB0:=hid hB0;clear hb0 hB0;go_wp2_with fail
 refine (NW.out _ HB0.out).mono ?_;rintro e w1 ⟨v1,v2,v3,v4,rfl,p1,p2,p3,p4,hb1⟩;have hz_w1:=hb1.size;simp (disch:=omega) only [xcl hb1,xfr hb1] at *;replace z_t:=blt hb1 z_t;replace z_r:=blt hb1 z_r;obtain ⟨a1,k1,rfl,i1,-,y1,-,-⟩:=row_of_owns p1;obtain ⟨a2,k2,rfl,i2,-,y2,-,-⟩:=row_of_owns p2;obtain ⟨a3,k3,rfl,i3,-,y3,-,-⟩:=row_of_owns p3;obtain ⟨a4,k4,rfl,i4,-,y4,-,-⟩:=row_of_owns p4;have HI:=hid (show SlIn w1 ⟨z.seg,z.ws,z.ks,z.vs,z.cs,laid⟩ ⟨a1,a2,a3,a4,k1,k2,k3,k4⟩ from ⟨i1,i2,i3,i4,hzu⟩);have HY:=hid (And.intro y1 (And.intro y2 (And.intro y3 y4)));have HB1:=xv hb1 HB0;clear p1 p2 p3 p4 i1 i2 i3 i4 y1 y2 y3 y4 hb1 hzu;go_upto_region 8 with (fail)
 generalize hw2:w1.alloc _=w2;have hh:=ec6 hw2 (au6 (⟨c_t0,c_t1,c_t2,c_t3,c_t4,c_t5⟩));clear c_t0 c_t1 c_t2 c_t3 c_t4 c_t5;obtain ⟨c_t0,c_t1,c_t2,c_t3,c_t4,c_t5⟩:=hh;replace z_t:=elt hw2 (auz (z_t));have hh:=ec6 hw2 (au6 (⟨c_r0,c_r1,c_r2,c_r3,c_r4,c_r5⟩));clear c_r0 c_r1 c_r2 c_r3 c_r4 c_r5;obtain ⟨c_r0,c_r1,c_r2,c_r3,c_r4,c_r5⟩:=hh;have hh:=ef6 hw2 (auf6 z_r ⟨f_r0,f_r1,f_r2,f_r3,f_r4,f_r5⟩);clear f_r0 f_r1 f_r2 f_r3 f_r4 f_r5;obtain ⟨f_r0,f_r1,f_r2,f_r3,f_r4,f_r5⟩:=hh;replace z_r:=elt hw2 (auz (z_r));have hh:=ec6 hw2 (al6 (b:=w1.heap.size) xsi);obtain ⟨c_o0,c_o1,c_o2,c_o3,c_o4,c_o5⟩:=hh;have z_o:=elt hw2 (alz (b:=w1.heap.size) xsi);have hb2:Below w1.heap.size w1 w2:=by rw [←hw2];exact br.alloc (Nat.le_refl _) _
 have HB2:=xv hb2 HB1;have HC:=hid (OV.out w2 ⟨a1,a2,a3,a4,k1,k2,k3,k4⟩ HB2.out (HI.out.below hb2) (fun e=>(HY.out.1 e).2) (fun e=>(HY.out.2.1 e).2) (fun e=>(HY.out.2.2.1 e).2) (fun e=>(HY.out.2.2.2 e).2));have hz2:=HB2.out.size;have hz22:=z_r;clear hw2 hb2;dsimp only [slV] at HC;go_wp2_with fail
 refine HC.out.mono ?_;rintro e w3 ⟨v1,v2,v3,v4,rfl,p1,p2,p3,p4,hb3⟩;have hz_w3:=hb3.size;simp (disch:=omega) only [xcl hb3,xfr hb3] at *;replace z_t:=blt hb3 z_t;replace z_r:=blt hb3 z_r;replace z_o:=blt hb3 z_o;have HB3:=hid (below_via hb3 HB2.out hz2);obtain ⟨x1,y1,rfl,-⟩:=owns_news p1;obtain ⟨x2,y2,rfl,-⟩:=owns_news p2;obtain ⟨x3,y3,rfl,-⟩:=owns_news p3;obtain ⟨x4,y4,rfl,-⟩:=owns_news p4;have HP1:=hid p1;have HP2:=hid p2;have HP3:=hid p3;have HP4:=hid p4;clear p1 p2 p3 p4;clear hb3;go_wp2
 have HQ:Hid (∀q,q≠w.heap.size+1→((((((w3.setCell ⟨w.heap.size+1,0,none⟩ (.int .i64 d.seg)).setCell ⟨w.heap.size+1,1,none⟩ (.slice x1 d.ws.length y1)).setCell ⟨w.heap.size+1,2,none⟩ (.slice x2 d.ks.length y2)).setCell ⟨w.heap.size+1,3,none⟩ (.slice x3 d.vs.length y3)).setCell ⟨w.heap.size+1,4,none⟩ (.slice x4 d.cs.length y4)).setCell ⟨w.heap.size+1,5,none⟩ (.int .u64 d.laid)).heap[q]? =w3.heap[q]?):=hid fun q hq=>by
  rw [heap_setCell_ne _ _ _ hq,heap_setCell_ne _ _ _ hq,heap_setCell_ne _ _ _ hq,heap_setCell_ne _ _ _ hq,heap_setCell_ne _ _ _ hq,heap_setCell_ne _ _ _ hq]
 refine bodyPost_ret (results_ct rfl rfl (run_loadVar_many _ Tryd.underlying29 rfl xk (six_set c_r0 c_r1 c_r2 c_r3 c_r4 c_r5))) rfl ⟨_,_,_,_,rfl,?_,?_,?_,?_,?_⟩
 · exact owns_base (owns_heap HP1.out fun j hj=>HQ.out _ (by have:=(HP1.out.lt j hj).1;omega)) xo
 · exact owns_base (owns_heap HP2.out fun j hj=>HQ.out _ (by have:=(HP2.out.lt j hj).1;omega)) xo
 · exact owns_base (owns_heap HP3.out fun j hj=>HQ.out _ (by have:=(HP3.out.lt j hj).1;omega)) xo
 · exact owns_base (owns_heap HP4.out fun j hj=>HQ.out _ (by have:=(HP4.out.lt j hj).1;omega)) xo
 · exact (((((HB3.out.setCell xdo _).setCell xdo _).setCell xdo _).setCell xdo _).setCell xdo _).setCell xdo _
end
section
open Go.RowKit
end
section
open Go.RowKit
structure FilS (B:Nat) (W:World) (b g1 g2 g3 g4 k1 k2 k3 k4 lw n lc:Nat) (c:SlC):Prop where
 c0:W.cell? ⟨b,0,none⟩=some (.int .i64 c.seg)
 c1:W.cell? ⟨b,1,none⟩=some (.slice (some ⟨g1,0,none⟩) lw k1)
 c2:W.cell? ⟨b,2,none⟩=some (.slice (some ⟨g2,0,none⟩) n k2)
 c3:W.cell? ⟨b,3,none⟩=some (.slice (some ⟨g3,0,none⟩) n k3)
 c4:W.cell? ⟨b,4,none⟩=some (.slice (some ⟨g4,0,none⟩) lc k4)
 c5:W.cell? ⟨b,5,none⟩=some (.int .u64 c.laid)
 f1:W.frozen? ⟨b,1,none⟩=false
 f5:W.frozen? ⟨b,5,none⟩=false
 o1:W.ownsRow B 27 1 (.slice (some ⟨g1,0,none⟩) lw k1) lw (c.ws.map (Value.int .u64))
 o2:W.ownsRow B 2 1 (.slice (some ⟨g2,0,none⟩) n k2) n (c.ks.map (Value.int .i64))
 o3:W.ownsRow B 2 1 (.slice (some ⟨g3,0,none⟩) n k3) n (c.vs.map (Value.int .i64))
 o4:W.ownsRow B 3 1 (.slice (some ⟨g4,0,none⟩) lc k4) lc (c.cs.map (Value.int .i64))
 bB:b<B
 n23:g2≠g3
theorem owns_ne {w:World} {B g g' n n' k k':Nat} {e e':TypeId} {xs xs':List Value} (ha:w.ownsRow B e 1 (.slice (some ⟨g,0,none⟩) n k) n xs) (hb:w.ownsRow B e' 1 (.slice (some ⟨g',0,none⟩) n' k') n' xs') (hc:e≠e'):g≠g':=by
 rcases owns_apart ha hb hc with h|h
 · cases h
 · intro hgg;exact h (by subst hgg;rfl)
section
variable {B b g1 g2 g3 g4 k1 k2 k3 k4 lw n lc:Nat} {W W':World} {c:SlC}
theorem FilS.nums (h:FilS B W b g1 g2 g3 g4 k1 k2 k3 k4 lw n lc c):B≤g1∧B≤g2∧B≤g3∧B≤g4∧g1<W.heap.size∧g2<W.heap.size∧g3<W.heap.size∧g4<W.heap.size∧g1≠g2∧g1≠g3∧g1≠g4∧g2≠g4∧g3≠g4∧b<W.heap.size:=
  ⟨(h.o1.lt g1 rfl).1,(h.o2.lt g2 rfl).1,(h.o3.lt g3 rfl).1,(h.o4.lt g4 rfl).1,(h.o1.lt g1 rfl).2,(h.o2.lt g2 rfl).2,(h.o3.lt g3 rfl).2,(h.o4.lt g4 rfl).2,owns_ne h.o1 h.o2 xdd,owns_ne h.o1 h.o3 xdd,owns_ne h.o1 h.o4 xdd,owns_ne h.o2 h.o4 xdd,owns_ne h.o3 h.o4 xdd,World.block_lt_of_cell? _ _ h.c0⟩
theorem FilS.heap (h:FilS B W b g1 g2 g3 g4 k1 k2 k3 k4 lw n lc c) (hb:W'.heap[b]? =W.heap[b]?) (h1:W'.heap[g1]? =W.heap[g1]?) (h2:W'.heap[g2]? =W.heap[g2]?) (h3:W'.heap[g3]? =W.heap[g3]?) (h4:W'.heap[g4]? =W.heap[g4]?):FilS B W' b g1 g2 g3 g4 k1 k2 k3 k4 lw n lc c:=
  ⟨(World.cell?_of_block (a:=⟨b,0,none⟩) hb).trans h.c0,(World.cell?_of_block (a:=⟨b,1,none⟩) hb).trans h.c1,(World.cell?_of_block (a:=⟨b,2,none⟩) hb).trans h.c2,(World.cell?_of_block (a:=⟨b,3,none⟩) hb).trans h.c3,(World.cell?_of_block (a:=⟨b,4,none⟩) hb).trans h.c4,(World.cell?_of_block (a:=⟨b,5,none⟩) hb).trans h.c5,
    (World.frozen?_of_block (a:=⟨b,1,none⟩) hb).trans h.f1,(World.frozen?_of_block (a:=⟨b,5,none⟩) hb).trans h.f5,
    owns_heap h.o1 fun j hj=>by cases hj;exact h1,owns_heap h.o2 fun j hj=>by cases hj;exact h2,owns_heap h.o3 fun j hj=>by cases hj;exact h3,owns_heap h.o4 fun j hj=>by cases hj;exact h4,h.bB,h.n23⟩
theorem FilS.below (h:FilS B W b g1 g2 g3 g4 k1 k2 k3 k4 lw n lc c) (hb:Below W.heap.size W W'):FilS B W' b g1 g2 g3 g4 k1 k2 k3 k4 lw n lc c:=by
 have q:=h.nums;exact h.heap (hb.block _ xo) (hb.block _ xo) (hb.block _ xo) (hb.block _ xo) (hb.block _ xo)
theorem FilS.drew (h:FilS B W b g1 g2 g3 g4 k1 k2 k3 k4 lw n lc c):FilS B W.drew b g1 g2 g3 g4 k1 k2 k3 k4 lw n lc c:=h.heap rfl rfl rfl rfl rfl
theorem FilS.setL (h:FilS B W b g1 g2 g3 g4 k1 k2 k3 k4 lw n lc c) (y:Int):FilS B (W.setCell ⟨b,5,none⟩ (.int .u64 y)) b g1 g2 g3 g4 k1 k2 k3 k4 lw n lc ⟨c.seg,c.ws,c.ks,c.vs,c.cs,y⟩:=by
 have q:=h.nums;have hbB:=h.bB;have hk:∀z,z≠b→(W.setCell ⟨b,5,none⟩ (.int .u64 y)).heap[z]? =W.heap[z]? :=fun z hz=>heap_setCell_ne _ _ _ hz
 exact ⟨set_keep xsi h.c0,set_keep xsi h.c1,set_keep xsi h.c2,set_keep xsi h.c3,set_keep xsi h.c4,World.cell?_setCell_same _ _ _ h.c5,
   by rw [World.frozen?_setCell];exact h.f1,by rw [World.frozen?_setCell];exact h.f5,
   owns_heap h.o1 fun j hj=>by cases hj;exact hk _ xdo,owns_heap h.o2 fun j hj=>by cases hj;exact hk _ xdo,owns_heap h.o3 fun j hj=>by cases hj;exact hk _ xdo,owns_heap h.o4 fun j hj=>by cases hj;exact hk _ xdo,h.bB,h.n23⟩
end
end
section
open Go.RowKit Go.Shelf
attribute [local go_sem] Oper.semAt_some
structure FilK (w w2 W:World):Prop where
 bel:Below w.heap.size w W
 keep:∀q,q<w.heap.size+2→q≠w.heap.size→W.heap[q]? =w2.heap[q]?
 size:w.heap.size+2≤W.heap.size
theorem FilK.below {w w2 W W':World} (h:FilK w w2 W) (hb:Below W.heap.size W W'):FilK w w2 W':=
  ⟨below_via hb h.bel (by have:=h.size;omega),fun q hq hne=>(hb.block q (by have:=h.size;omega)).trans (h.keep q hq hne),Nat.le_trans h.size hb.size⟩
theorem FilK.drew {w w2 W:World} (h:FilK w w2 W):FilK w w2 W.drew:=⟨h.bel.drew,h.keep,h.size⟩
theorem FilK.setCell {w w2 W:World} (h:FilK w w2 W) {a:Addr} (ha:a.block=w.heap.size∨w.heap.size+2≤a.block) (v:Value):FilK w w2 (W.setCell a v):=
  ⟨h.bel.setCell xo v,fun q hq hne=>(heap_setCell_ne _ _ _ xo).trans (h.keep q hq hne),by rw [World.size_setCell];exact h.size⟩
end
section
open Go.RowKit Go.Shelf
attribute [local go_sem] Oper.semAt_some
end
section
open Go.RowKit
theorem gd_may {c:SlC} {S lw n lc:Nat} (h:SlGd c S lw n lc) (hS:pwB (S:Int)=true) (hM:pwB (lc:Int)=true) (hlw:lw=(n+63)/64):slMay c=true:=by
 have hlc1:1≤lc:=by
  rcases Nat.eq_zero_or_pos lc with e|e
  · rw [e] at hM;cases hM
  · exact e
 have h4:=h.s4;have hn:(n:Int)/(S:Int)=lc:=by
  rw [h.cn,Int.natCast_mul,Int.mul_ediv_cancel_left _ xo]
 have hn2:(n:Int)%(S:Int)=0:=by
  rw [h.cn,Int.natCast_mul,Int.mul_emod_right]
 have hle:S*1≤S*lc:=Nat.mul_le_mul_left _ hlc1;simp only [slMay,slHead,fitB,wMayB,clrB,cntB,Bool.and_eq_true,decide_eq_true_eq,List.all_eq_true];rw [h.elk,h.elv,h.elw,h.elc,h.seg,hn,hn2];refine ⟨⟨⟨⟨⟨⟨⟨⟨⟨⟨⟨by have:=h.s4;omega,by have:=h.s64;omega⟩,hS⟩,by have:=h.cn;omega⟩,by have:=h.nm;omega⟩,rfl⟩,hM⟩,rfl⟩,hlw,?_⟩,rfl⟩,?_⟩,?_⟩
 · intro i hi;have:=(List.mem_range'_1.1 hi).1;rw [h.hi i this];rfl
 · intro i hi;cases hb:bitW c.ws i with
   | true=>rfl
   | false=>
    have:=h.clr i hb;simp only [Bool.false_or,Bool.and_eq_true,beq_iff_eq];exact this
 · intro k hk;have:=h.cnt k (List.mem_range.1 hk);rw [Int.toNat_natCast,this,beq_self_eq_true]
theorem gd_fit {c:SlC} {S lw n lc:Nat} (h:SlGd c S lw n lc) (hm:slMay c=true):fitB (S:Int) n=true:=by
 simp only [slMay,slHead,Bool.and_eq_true] at hm;have:=hm.1.1.1.1.1;rwa [h.elk,h.seg] at this
theorem over_ok {c:SlC} {S lw n lc:Nat} (h:SlGd c S lw n lc) (hm:slMay c=true) (sa:SlA) (lo hi:Nat) (hlo:lo≤hi) (hhi:hi≤n) (L:List (Int×Int)) (hL:L.length≤hi-lo) (la:Option Addr) (pl:Nat) (w:World) (hin:SlIn w c sa) (hla:IsRow .i64 w la (prI L)):
    Calls Tryd.prog 67 #[slV c sa,.int .i64 lo,.int .i64 hi,.slice la L.length pl] w (FreshSl2 w (spC c lo hi L) (.int .i64 0)):=by
 have n1:=h.n1;have nm:=h.nm;have s4:=h.s4;have wn:=h.wn;have hlc:0<lc:=by
  rcases Nat.eq_zero_or_pos lc with e|e
  · have:=h.cn;rw [e] at this;omega
  · exact e
 have hlc2:lc≤65536:=by
  have h9:1*lc≤S*lc:=Nat.mul_le_mul_right _ xo;have:=h.cn;omega
 have hlw2:lw≤65536:=by
  have:=slHead_facts (slMay_head hm);obtain ⟨S',M,-,-,-,b3,-,-,-,b7,-,b9,-⟩:=this;rw [h.elw] at b9;omega
 refine over_core w c.seg sa.wa sa.ka sa.va sa.ca sa.wc sa.kc sa.vc sa.cc c.ws.length c.ks.length c.vs.length c.cs.length c.laid lo hi L.length (ints (plR L.length lo hi)) la pl (spC c lo hi L) (by rw [ints_length,plR_length]) (hid fun W hb=> ?_) (hid fun W hb=>Places_ok L.length lo hi hlo xo hL W) (hid fun W pa pc hb hp=> ?_)
 · have:=slCheck_ok c sa (by rw [h.elw];omega) (by rw [h.elk];omega) W (hin.below hb);rwa [show slE c=0 by simp [slE,hm]] at this
 · have hin2:=hin.below hb;have e1:=h.elw;have e2:=h.elk;have e3:=h.elv;have e4:=h.elc;rw [e1,e2,e3,e4];refine slFill_core W c.seg sa.wa sa.ka sa.va sa.ca sa.wc sa.kc sa.vc sa.cc lw n lc c.laid c lo hi L.length S (plR L.length lo hi) L pa la pc pl rfl rfl e1 e2 e3 e4 xo xo hlc nm hlw2 hlc2 h.seg s4 hlo hhi wn h.cn (plR_length _ _ _) rfl xo (fun k hk=>plR_pv hk hL) (fun j hj=>(h.tks j xo).ok) (fun k hk=>(SlGd.lys (h.tks (hi-lo) xo) (fun k=>plR_ltn hL hhi xo k) L k).ok) (hid hp) (hid (hla.below hb)) (hid fun W' hb'=> ?_) (hid fun W' hb'=> ?_)
   · have:=part_ok c sa (by rw [e1];omega) (by rw [e2];omega) lo hi W' (hin2.below hb');rw [show partE c lo hi=0 by unfold partE;rw [if_pos hm,if_pos (by rw [e2];omega)]] at this;simpa only [slV,e1,e2,e3,e4] using this
   · have:=slTwin_ok c sa W' (hin2.below hb') (by rw [e1];omega) (by rw [e2];omega) (by rw [e3];omega) (by rw [e4];omega);simpa only [slV,e1,e2,e3,e4] using this
def emptyL (S M:Nat) (laid:Int):SlC:=⟨S,List.replicate ((S*M+63)/64) 0,List.replicate (S*M) 0,List.replicate (S*M) 0,List.replicate M 0,laid⟩
theorem emptyL_gd {S M:Nat} (h4:4≤S) (h6:S≤64) (hM:1≤M) (hm:S*M≤65536) (laid:Int):SlGd (emptyL S M laid) S ((S*M+63)/64) (S*M) M:=by
 have z:=zero_gd h4 h6 hM hm (lw:=(S*M+63)/64) rfl;exact ⟨z.seg,z.elw,z.elk,z.elv,z.elc,z.s4,z.s64,z.cn,z.wn,z.n1,z.nm,z.u,z.cnt,z.hi,z.clr⟩
def wideC (S M:Nat) (laid:Int) (L:List (Int×Int)):SlC:=spC (emptyL S M laid) 0 (S*M) L
theorem new_nums {S M:Nat} (h4:4≤S) (hm:S*M≤65536):(((S*M:Nat):Int)+63).tdiv 64=((S*M+63)/64:Nat)∧((S*M:Nat):Int).tdiv S=M∧(S*M+63)/64≤2000∧M≤65536:=by
 have h9:1*M≤S*M:=Nat.mul_le_mul_right _ xo;refine ⟨?_,?_,by omega,by omega⟩
 · rw [Int.tdiv_eq_ediv_of_nonneg xo];omega
 · rw [Int.tdiv_eq_ediv_of_nonneg xo,Int.natCast_mul,Int.mul_ediv_cancel_left _ xo]
theorem Into_ok {c:SlC} {S lw n lc:Nat} (h:SlGd c S lw n lc) (hm:slMay c=true) (sa:SlA) (M:Nat) (hM:1≤M) (hS:pwB (S:Int)=true) (hMp:pwB (M:Int)=true) (hsm:S*M≤65536) (L:List (Int×Int)) (hL:L.length≤S*M) (la:Option Addr) (pl:Nat) (w:World) (hin:SlIn w c sa) (hla:IsRow .i64 w la (prI L)):
    Calls Tryd.prog 43 #[slV c sa,.int .i64 ((S*M:Nat):Int),.slice la L.length pl] w (FreshSl2 w (wideC S M c.laid L) (.int .i64 0)):=by
 obtain ⟨q1,q2,q3,q4⟩:=new_nums (M:=M) h.s4 hsm;have ge:=emptyL_gd h.s4 h.s64 hM hsm c.laid;have gm:=gd_may ge hS hMp rfl;refine Into_core w c.seg sa.wa sa.ka sa.va sa.ca sa.wc sa.kc sa.vc sa.cc c.ws.length c.ks.length c.vs.length c.cs.length c.laid (S*M) L.length la pl (zeroSl S (S*M) ((S*M+63)/64) M) (wideC S M c.laid L) ge.u (hid fun W hb=> ?_) (hid fun W hb=> ?_) (hid fun W sa' hb hi z1 z2 z3 z4=> ?_)
 · have:=slCheck_ok c sa (by rw [h.elw];have:=slHead_facts (slMay_head hm);obtain ⟨S',M',-,-,-,b3,-,-,-,b7,-,b9,-⟩:=this;rw [h.elw] at b9;omega) (by rw [h.elk];have:=h.nm;omega) W (hin.below hb);rwa [show slE c=0 by simp [slE,hm]] at this
 · rw [h.seg];refine slNew_core W S (S*M) ((S*M+63)/64) M h.s4 hsm h.s64 q1 q2 xo q4 (hid fun W'=> ?_);have:=fits_ok (S:Int) ((S*M:Nat):Int) W';rwa [gd_fit ge gm] at this
 · exact over_ok ge gm sa' 0 (S*M) (Nat.zero_le _) (Nat.le_refl _) L xo la pl W hi (hla.below hb)
end
section
open Go.RowKit Go.Shelf
attribute [local go_sem] Oper.semAt_some
end
section
open Go.RowKit
theorem cap_nat {c:Cfg} (hd:cfHead c=true) {a:Nat} (hs:c.seg=((2^a:Nat):Int)) {n:Int} (h0:0≤n) (h1:n≤16384):∃H:Nat,taks c n=((2^a*2^H:Nat):Int)∧2^a*2^H≤65536∧n≤taks c n:=by
 have f:=cfHead_facts hd;obtain ⟨d0,d1,d2,d3,d4,d5,d6,d7,d8,d9,d10,d11,d12,d13,d14,d15,d16,d17⟩:=cfHead_num hd;have tb:=taks_bd hd h0 h1;obtain ⟨l1,l2,b,eb⟩:=powB_nat f.2.2.2.2.2.1;have hab:a≤b:=(Nat.pow_le_pow_iff_right (a:=2) xo).1 xo;obtain ⟨j,-,ej⟩:=takF_pow c n 20 c.least;have e:taks c n=((2^a*2^(b-a+j):Nat):Int):=by
  rw [taks,ej,eb,←Nat.pow_add,show a+(b-a+j)=b+j by omega,Nat.pow_add];push_cast
  rfl
 refine ⟨b-a+j,e,by omega,?_⟩;have ht:=takF_takes (c:=c) (n:=n) xo 20 c.least xo (tak_start h0 h1 xo d8 d9).1;have m1:c.rh*taks c n≤c.den*taks c n:=Int.mul_le_mul_of_nonneg_right xo xo;have m2:c.den*n≤c.den*taks c n:=by
  rw [Int.mul_comm c.den n];exact Int.le_trans ht m1
 exact Int.le_of_mul_le_mul_left m2 xo
theorem gap_zero {c:Cfg} {s:SlC} (h:gapE c s=0):cfMay c=true∧∃a H,GapN c s a H∧s.seg=c.seg∧sumC s.cs 0 s.cs.length≤c.most∧denB c s H=true:=by
 unfold gapE at h;split at h
 · rename_i hc
   split at h
   · rename_i hg
     have hg':=hg;simp only [gapMay,gapHead,Bool.and_eq_true,decide_eq_true_eq] at hg;obtain ⟨⟨⟨⟨h1,h2⟩,h3⟩,h4⟩,h5⟩:=hg;obtain ⟨a,H,k⟩:=gapN_of hc h3 h1 h2;exact ⟨hc,a,H,k,h2,h4,by rw [←k.cap.hgt];exact h5⟩
   · cases h
 · cases h
def nilC:SlC:=⟨0,[],[],[],[],0⟩
def capM (c:Cfg) (n:Nat):Nat:=(taks c n).toNat/c.seg.toNat
theorem cap_facts {c:Cfg} {s:SlC} {a H:Nat} (k:GapN c s a H) {n:Nat} (hn:(n:Int)≤c.most):c.seg.toNat=2^a∧taks c n=((2^a*capM c n:Nat):Int)∧1≤capM c n∧2^a*capM c n≤65536∧n≤2^a*capM c n∧pwB (capM c n:Int)=true:=by
 have hd:=cfMay_head k.cap.may;have d:=cfHead_num hd;obtain ⟨H',e,hb,hle⟩:=cap_nat hd k.cap.seg (n:=(n:Int)) xo xo;have hs:c.seg.toNat=2^a:=by rw [k.cap.seg];rfl
 have hm:capM c n=2^H':=by
  rw [capM,e,hs,Int.toNat_natCast,Nat.mul_div_cancel_left _ (Nat.two_pow_pos a)]
 rw [hm];exact ⟨hs,e,Nat.two_pow_pos H',hb,by omega,pwB_two H'⟩
theorem gapN_gd {c:Cfg} {s:SlC} {a H:Nat} (k:GapN c s a H) (hu:U64s s.ws):SlGd s (2^a) ((s.ks.length+63)/64) s.ks.length (2^H)∧(s.ks.length+63)/64≤2000:=by
 obtain ⟨S,M,g,-,-,-⟩:=slMay_gd hu k.may;have e1:S=2^a:=by have:=g.seg;have:=k.seg;omega
 have e2:M=2^H:=by have:=g.elc;have:=k.nc;omega
 have e3:=g.elk;subst e1 e2;have hb:=k.cap.big;rw [←e3] at g;have:=k.nk;exact ⟨g,by omega⟩
end
section
open Go.RowKit
def szV (c:Cfg) (s:SlC):Int×Int:=if pmE c s=0 then (((prs s 0 s.ks.length).length:Int),0) else (0,pmE c s)
theorem pmaSize_err (c:Cfg) (s:SlC) (wa ka va ca:Option Addr) (wc kc vc cc:Nat) (e:Int) (he:e≠0) (w:World) (CK:Hid (∀W,Below w.heap.size w W→Calls Tryd.prog 13 #[.agg #[.int .u8 c.tag,.int .i64 c.most,.int .i64 c.seg,.int .i64 c.least,.int .i64 c.den,.int .i64 c.ll,.int .i64 c.rl,.int .i64 c.rh,.int .i64 c.lh,.int .i64 s.seg,.slice wa s.ws.length wc,.slice ka s.ks.length kc,.slice va s.vs.length vc,.slice ca s.cs.length cc,.int .u64 s.laid]] W (AnsB W (.int .i64 e)))):
    Calls Tryd.prog 8 #[.agg #[.int .u8 c.tag,.int .i64 c.most,.int .i64 c.seg,.int .i64 c.least,.int .i64 c.den,.int .i64 c.ll,.int .i64 c.rl,.int .i64 c.rh,.int .i64 c.lh,.int .i64 s.seg,.slice wa s.ws.length wc,.slice ka s.ks.length kc,.slice va s.vs.length vc,.slice ca s.cs.length cc,.int .u64 s.laid]] w (AnsB w (.tuple #[.int .i64 0,.int .i64 e])):=by
 have ge:(e != 0)=true:=by simpa using he
 clear he;go_enter Tryd.func8,Tryd.ntmps8
 go_wp2_with fail
 refine (CK.out _ xbel).mono ?_;rintro e w1 ⟨rfl,hb1⟩;have hz_w1:=hb1.size;try simp only [World.size_alloc,World.size_setCell] at hz_w1
 have hh:=bc15 hb1 (al15 (b:=w.heap.size) xsi);obtain ⟨c_t0,c_t1,c_t2,c_t3,c_t4,c_t5,c_t6,c_t7,c_t8,c_t9,c_t10,c_t11,c_t12,c_t13,c_t14⟩:=hh;have z_t:=blt hb1 (alz (b:=w.heap.size) xsi);have hB1:Below w.heap.size w w1:=xbel;go_wp2
 go_ret2
 exact ⟨rfl,hB1⟩
theorem pmaSize_in (c:Cfg) (s:SlC) (wa ka va ca:Option Addr) (wc kc vc cc:Nat) (S:Nat) (hS:S≤64) (hC:CntB s.cs S) (hlc:s.cs.length≤65536) (w:World) (hcs:IsRow .i64 w ca s.cs) (CK:Hid (∀W,Below w.heap.size w W→Calls Tryd.prog 13 #[.agg #[.int .u8 c.tag,.int .i64 c.most,.int .i64 c.seg,.int .i64 c.least,.int .i64 c.den,.int .i64 c.ll,.int .i64 c.rl,.int .i64 c.rh,.int .i64 c.lh,.int .i64 s.seg,.slice wa s.ws.length wc,.slice ka s.ks.length kc,.slice va s.vs.length vc,.slice ca s.cs.length cc,.int .u64 s.laid]] W (AnsB W (.int .i64 0)))):
    Calls Tryd.prog 8 #[.agg #[.int .u8 c.tag,.int .i64 c.most,.int .i64 c.seg,.int .i64 c.least,.int .i64 c.den,.int .i64 c.ll,.int .i64 c.rl,.int .i64 c.rh,.int .i64 c.lh,.int .i64 s.seg,.slice wa s.ws.length wc,.slice ka s.ks.length kc,.slice va s.vs.length vc,.slice ca s.cs.length cc,.int .u64 s.laid]] w (AnsB w (.tuple #[.int .i64 (sumC s.cs 0 s.cs.length),.int .i64 0])):=by
 have HR:=hid hcs;have HC:=hid hC;obtain ⟨m,hm⟩:∃m,s.cs.length=m:=⟨_,rfl⟩
 have HM:=hid hm;clear hcs hC;rw [hm] at CK hlc ⊢;clear hm;go_enter Tryd.func8,Tryd.ntmps8
 go_wp2_with fail
 refine (CK.out _ xbel).mono ?_;rintro e w1 ⟨rfl,hb1⟩;have hz_w1:=hb1.size;try simp only [World.size_alloc,World.size_setCell] at hz_w1
 have hh:=bc15 hb1 (al15 (b:=w.heap.size) xsi);obtain ⟨c_t0,c_t1,c_t2,c_t3,c_t4,c_t5,c_t6,c_t7,c_t8,c_t9,c_t10,c_t11,c_t12,c_t13,c_t14⟩:=hh;have z_t:=blt hb1 (alz (b:=w.heap.size) xsi);have hB1:Below w.heap.size w w1:=xbel;have HB1:=hid hB1;have HR1:=hid (HR.out.below hB1);clear hB1 hb1;go_wp2
 go_loopg [2,6,16] m (fun gk sv x iv wr=>∃i:Nat,i+gk=m∧iv= .int .i64 i∧sv= .int .i64 (sumC s.cs 0 i)∧w1=wr)
 case atStart=>exact ⟨0,by omega,rfl,by rw [sumC_nil],rfl⟩
 case round=>
  obtain ⟨i,hi2,rfl,rfl,rfl⟩:=hrel;by_cases hlt:i<m
  · obtain ⟨b,off,x,hbe,hxx,hc,-⟩:=HR1.out.get (i:=i) (by rw [HM.out];exact hlt);subst hbe;have hsb:=sumC_bd HC.out 0 i;have hx2:=HC.out i;have hsu:=sumC_succ s.cs (a:=0) (b:=i) xo;rw [Nat.zero_add] at hsb;rw [hxx.out] at hsu hx2;have hsn:S*i≤64*65536:=Nat.mul_le_mul hS xo;generalize sumC s.cs 0 i=s0 at *;have hw1:IntKind.i64.wrap (s0+x)=s0+x:=IntWalk.i64_in _ xo;have HSU:=hid hsu;clear hxx hsu hx2 hsb;go_wp2
    go_roundg (gk-1)
    case measure=>omega
    case rel=>exact ⟨i+1,by omega,by go_num,by rw [HSU.out],rfl⟩
  · have him:i=m:=xo;subst him;go_wp2
    go_ret2
    exact ⟨rfl,HB1.out⟩
end
section
open Go.RowKit
def getPV (c:Cfg) (s:SlC) (key:Int):Int×Int:=if pmE c s=0 then (match fndL (prs s 0 s.ks.length) key with|some p=>(p.2,0)|none=>(0,6)) else (0,pmE c s)
theorem pmaGet_err (c:Cfg) (s:SlC) (wa ka va ca:Option Addr) (wc kc vc cc:Nat) (key e:Int) (he:e≠0) (w:World) (CK:Hid (∀W,Below w.heap.size w W→Calls Tryd.prog 13 #[.agg #[.int .u8 c.tag,.int .i64 c.most,.int .i64 c.seg,.int .i64 c.least,.int .i64 c.den,.int .i64 c.ll,.int .i64 c.rl,.int .i64 c.rh,.int .i64 c.lh,.int .i64 s.seg,.slice wa s.ws.length wc,.slice ka s.ks.length kc,.slice va s.vs.length vc,.slice ca s.cs.length cc,.int .u64 s.laid]] W (AnsB W (.int .i64 e)))):
    Calls Tryd.prog 9 #[.agg #[.int .u8 c.tag,.int .i64 c.most,.int .i64 c.seg,.int .i64 c.least,.int .i64 c.den,.int .i64 c.ll,.int .i64 c.rl,.int .i64 c.rh,.int .i64 c.lh,.int .i64 s.seg,.slice wa s.ws.length wc,.slice ka s.ks.length kc,.slice va s.vs.length vc,.slice ca s.cs.length cc,.int .u64 s.laid],.int .i64 key] w (AnsB w (.tuple #[.int .i64 0,.int .i64 e])):=by
 have ge:(e != 0)=true:=by simpa using he
 clear he;go_enter Tryd.func9,Tryd.ntmps9
 go_wp2_with fail
 refine (CK.out _ xbel).mono ?_;rintro e w1 ⟨rfl,hb1⟩;have hz_w1:=hb1.size;try simp only [World.size_alloc,World.size_setCell] at hz_w1
 have hh:=bc15 hb1 (al15 (b:=w.heap.size) xsi);obtain ⟨c_t0,c_t1,c_t2,c_t3,c_t4,c_t5,c_t6,c_t7,c_t8,c_t9,c_t10,c_t11,c_t12,c_t13,c_t14⟩:=hh;have z_t:=blt hb1 (alz (b:=w.heap.size) xsi);have hB1:Below w.heap.size w w1:=xbel;go_wp2
 go_ret2
 exact ⟨rfl,hB1⟩
theorem pmaGet_no (c:Cfg) (s:SlC) (wa ka va ca:Option Addr) (wc kc vc cc:Nat) (key:Int) (w:World) (CK:Hid (∀W,Below w.heap.size w W→Calls Tryd.prog 13 #[.agg #[.int .u8 c.tag,.int .i64 c.most,.int .i64 c.seg,.int .i64 c.least,.int .i64 c.den,.int .i64 c.ll,.int .i64 c.rl,.int .i64 c.rh,.int .i64 c.lh,.int .i64 s.seg,.slice wa s.ws.length wc,.slice ka s.ks.length kc,.slice va s.vs.length vc,.slice ca s.cs.length cc,.int .u64 s.laid]] W (AnsB W (.int .i64 0)))) (FD:Hid (∀W,Below w.heap.size w W→Calls Tryd.prog 20 #[.agg #[.int .i64 s.seg,.slice wa s.ws.length wc,.slice ka s.ks.length kc,.slice va s.vs.length vc,.slice ca s.cs.length cc,.int .u64 s.laid],.int .i64 key] W (AnsB W (.tuple #[.int .i64 0,.int .i64 6])))):
    Calls Tryd.prog 9 #[.agg #[.int .u8 c.tag,.int .i64 c.most,.int .i64 c.seg,.int .i64 c.least,.int .i64 c.den,.int .i64 c.ll,.int .i64 c.rl,.int .i64 c.rh,.int .i64 c.lh,.int .i64 s.seg,.slice wa s.ws.length wc,.slice ka s.ks.length kc,.slice va s.vs.length vc,.slice ca s.cs.length cc,.int .u64 s.laid],.int .i64 key] w (AnsB w (.tuple #[.int .i64 0,.int .i64 6])):=by
 go_enter Tryd.func9,Tryd.ntmps9
 go_wp2_with fail
 refine (CK.out _ xbel).mono ?_;rintro e w1 ⟨rfl,hb1⟩;have hz_w1:=hb1.size;try simp only [World.size_alloc,World.size_setCell] at hz_w1
 have hh:=bc15 hb1 (al15 (b:=w.heap.size) xsi);obtain ⟨c_t0,c_t1,c_t2,c_t3,c_t4,c_t5,c_t6,c_t7,c_t8,c_t9,c_t10,c_t11,c_t12,c_t13,c_t14⟩:=hh;have z_t:=blt hb1 (alz (b:=w.heap.size) xsi);have hB1:Below w.heap.size w w1:=xbel;go_wp2_with fail
 refine (FD.out _ hB1).mono ?_;rintro e w2 ⟨rfl,hb2⟩;have hz_w2:=hb2.size;simp (disch:=omega) only [xcl hb2] at *;replace z_t:=blt hb2 z_t;have hB2:=below_via hb2 hB1 hB1.size;go_wp2
 go_ret2
 exact ⟨rfl,hB2⟩
theorem pmaGet_yes (c:Cfg) (s:SlC) (wa ka ca:Option Addr) (b off:Nat) (wc kc vc cc:Nat) (key x:Int) (r m:Nat) (hm:s.vs.length=m) (hr:r<m) (w:World) (hc:w.cell? ⟨b,off+r,none⟩=some (.int .i64 x)) (hlt:b<w.heap.size) (CK:Hid (∀W,Below w.heap.size w W→Calls Tryd.prog 13 #[.agg #[.int .u8 c.tag,.int .i64 c.most,.int .i64 c.seg,.int .i64 c.least,.int .i64 c.den,.int .i64 c.ll,.int .i64 c.rl,.int .i64 c.rh,.int .i64 c.lh,.int .i64 s.seg,.slice wa s.ws.length wc,.slice ka s.ks.length kc,.slice (some ⟨b,off,none⟩) m vc,.slice ca s.cs.length cc,.int .u64 s.laid]] W (AnsB W (.int .i64 0)))) (FD:Hid (∀W,Below w.heap.size w W→Calls Tryd.prog 20 #[.agg #[.int .i64 s.seg,.slice wa s.ws.length wc,.slice ka s.ks.length kc,.slice (some ⟨b,off,none⟩) m vc,.slice ca s.cs.length cc,.int .u64 s.laid],.int .i64 key] W (AnsB W (.tuple #[.int .i64 r,.int .i64 0])))):
    Calls Tryd.prog 9 #[.agg #[.int .u8 c.tag,.int .i64 c.most,.int .i64 c.seg,.int .i64 c.least,.int .i64 c.den,.int .i64 c.ll,.int .i64 c.rl,.int .i64 c.rh,.int .i64 c.lh,.int .i64 s.seg,.slice wa s.ws.length wc,.slice ka s.ks.length kc,.slice (some ⟨b,off,none⟩) m vc,.slice ca s.cs.length cc,.int .u64 s.laid],.int .i64 key] w (AnsB w (.tuple #[.int .i64 x,.int .i64 0])):=by
 clear hm;go_enter Tryd.func9,Tryd.ntmps9
 go_wp2_with fail
 refine (CK.out _ xbel).mono ?_;rintro e w1 ⟨rfl,hb1⟩;have hz_w1:=hb1.size;try simp only [World.size_alloc,World.size_setCell] at hz_w1
 have hh:=bc15 hb1 (al15 (b:=w.heap.size) xsi);obtain ⟨c_t0,c_t1,c_t2,c_t3,c_t4,c_t5,c_t6,c_t7,c_t8,c_t9,c_t10,c_t11,c_t12,c_t13,c_t14⟩:=hh;have z_t:=blt hb1 (alz (b:=w.heap.size) xsi);have hB1:Below w.heap.size w w1:=xbel;go_wp2_with fail
 refine (FD.out _ hB1).mono ?_;rintro e w2 ⟨rfl,hb2⟩;have hz_w2:=hb2.size;simp (disch:=omega) only [xcl hb2] at *;replace z_t:=blt hb2 z_t;have hB2:=below_via hb2 hB1 hB1.size;replace hc:=(hB2.cell (p:=⟨b,off+r,none⟩) hlt).trans hc;go_wp2
 go_ret2
 exact ⟨rfl,hB2⟩
end
end Go.Proofs.YtmnlagmmbfjbeaaDoor

/- Merged: OmFir, OmLk, OmAl, OmLs. -/
import Derived.Test.YtjhpblejlchhjaaGreatDoorOmNamesP19
import Derived.Test.YtjhpblejlchhjaaGreatDoorOmNamesP11
namespace Go.Proofs.YtjhpblejlchhjaaGreatDoor
set_option maxRecDepth 100000
set_option maxHeartbeats 40000000
set_option linter.unusedVariables false
set_option linter.unusedSimpArgs false
section
open Go.RowKit Go.Shelf Go.Sort
structure OmR where
 c:Cfg
 s:SlC
 gs:List Int
 ps:List Int
 mv:Int
def nilR:OmR:=⟨⟨0,0,0,0,0,0,0,0,0⟩,nilC,[],[],0⟩
def FreshR (w:World) (r:OmR) (n g x:Int):Ending→World→Prop:=FreshOm3 w r.c r.s r.gs r.ps r.mv n g x
def FreshR2 (w:World) (r:OmR) (x:Int):Ending→World→Prop:=FreshOm2 w r.c r.s r.gs r.ps r.mv (.int .i64 x)
theorem bx_four {w w0:World} {l1 l2 l3 l4:List Value} {t1 t2 t3 t4:TypeId} (h:(((w.alloc (.cells l1.toArray t1)).alloc (.cells l2.toArray t2)).alloc (.cells l3.toArray t3)).alloc (.cells l4.toArray t4)=w0):
    Below w.heap.size w w0∧BX w0 w.heap.size t1 l1∧BX w0 (w.heap.size+1) t2 l2∧BX w0 (w.heap.size+1+1) t3 l3∧BX w0 (w.heap.size+1+1+1) t4 l4:=by
 obtain ⟨hb,h1,h2,h3⟩:=bx_three (w:=w) (l1:=l1) (l2:=l2) (l3:=l3) (t1:=t1) (t2:=t2) (t3:=t3) rfl;generalize hW:((w.alloc (.cells l1.toArray t1)).alloc (.cells l2.toArray t2)).alloc (.cells l3.toArray t3)=W at h hb h1 h2 h3;have hz:W.heap.size=w.heap.size+1+1+1:=by rw [←hW];simp
 have hb2:Below W.heap.size W w0:=by rw [←h];exact br.alloc (Nat.le_refl _) _
 have h4:=bx_new W l4 t4;rw [h,hz] at h4;exact ⟨below_via hb2 hb hb.size,bx_below hb2 h1 (bx_lt h1),bx_below hb2 h2 (bx_lt h2),bx_below hb2 h3 (bx_lt h3),h4⟩
theorem omFirst_w (c:Cfg) (s:SlC) (sa:SlA) (gs ps:List Int) (mv:Int) (ga pa:Option Addr) (gc pc:Nat) (r:OmR) (n1 g1 x:Int) (w:World)
    (IN:Hid (∀W,Below w.heap.size w W→Calls Tryz.prog 33 #[.agg #[.int .u8 c.tag,.int .i64 c.most,.int .i64 c.seg,.int .i64 c.least,.int .i64 c.den,.int .i64 c.ll,.int .i64 c.rl,.int .i64 c.rh,.int .i64 c.lh,.int .i64 s.seg,.slice sa.wa s.ws.length sa.wc,.slice sa.ka s.ks.length sa.kc,.slice sa.va s.vs.length sa.vc,.slice sa.ca s.cs.length sa.cc,.int .u64 s.laid,.slice ga gs.length gc,.slice pa ps.length pc,.int .u64 mv],.func (.func 34) #[] #[]] W (FreshR W r n1 g1 x))):
    Calls Tryz.prog 10 #[.agg #[.int .u8 c.tag,.int .i64 c.most,.int .i64 c.seg,.int .i64 c.least,.int .i64 c.den,.int .i64 c.ll,.int .i64 c.rl,.int .i64 c.rh,.int .i64 c.lh,.int .i64 s.seg,.slice sa.wa s.ws.length sa.wc,.slice sa.ka s.ks.length sa.kc,.slice sa.va s.vs.length sa.vc,.slice sa.ca s.cs.length sa.cc,.int .u64 s.laid,.slice ga gs.length gc,.slice pa ps.length pc,.int .u64 mv]] w (FreshR w r n1 g1 x):=by
 go_enter Tryz.func10,Tryz.ntmps10
 go_upto_region 1 with (fail)
 generalize hw0:((w.alloc _).alloc _).alloc _=w0;obtain ⟨hb0,hxo,hxn,hxd⟩:=bx_three hw0;have HB0:=hid hb0;have HXo:=hid hxo;have HXn:=hid hxn;have HXd:=hid hxd;have hzh:w.heap.size+1+1<w0.heap.size:=bx_lt hxd;clear hw0 hb0 hxo hxn hxd;go_wp2_with (refine wpl_load 33 (.tmp 1) _ _ rfl rfl rfl Tryz.underlying33 rfl xk (bx_pb HXo.out) ?_)
 refine (IN.out _ HB0.out).mono ?_;rintro e' w2 ⟨v1,v2,v3,v4,v5,v6,rfl,p1,p2,p3,p4,p5,p6,hb2⟩;replace HXn:=hid (bx_below hb2 HXn.out (bx_lt HXn.out));replace HXd:=hid (bx_below hb2 HXd.out (bx_lt HXd.out));have HB2:=xv hb2 HB0;clear hb2;obtain ⟨a1,k1,rfl,-,-,-,-,-⟩:=row_of_owns p1;obtain ⟨a2,k2,rfl,-,-,-,-,-⟩:=row_of_owns p2;obtain ⟨a3,k3,rfl,-,-,-,-,-⟩:=row_of_owns p3;obtain ⟨a4,k4,rfl,-,-,-,-,-⟩:=row_of_owns p4;obtain ⟨a5,k5,rfl,-,-,-,-,-⟩:=row_of_owns p5;obtain ⟨a6,k6,rfl,-,-,-,-,-⟩:=row_of_owns p6;have HP:=hid (And.intro p1 (And.intro p2 (And.intro p3 (And.intro p4 (And.intro p5 p6)))));have HZ:=HB0.out.size;clear p1 p2 p3 p4 p5 p6;go_wp2_with (first|(refine wpl_store_row 33 (.tmp 2) (.tmp 7) _ [.int .u8 0,.int .i64 0,.int .i64 0,.int .i64 0,.int .i64 0,.int .i64 0,.int .i64 0,.int .i64 0,.int .i64 0,.int .i64 0,.slice none 0 0,.slice none 0 0,.slice none 0 0,.slice none 0 0,.int .u64 0,.slice none 0 0,.slice none 0 0,.int .u64 0] [.int .u8 r.c.tag,.int .i64 r.c.most,.int .i64 r.c.seg,.int .i64 r.c.least,.int .i64 r.c.den,.int .i64 r.c.ll,.int .i64 r.c.rl,.int .i64 r.c.rh,.int .i64 r.c.lh,.int .i64 r.s.seg,.slice a1 r.s.ws.length k1,.slice a2 r.s.ks.length k2,.slice a3 r.s.vs.length k3,.slice a4 r.s.cs.length k4,.int .u64 r.s.laid,.slice a5 r.gs.length k5,.slice a6 r.ps.length k6,.int .u64 r.mv] rfl rfl rfl rfl xk rfl (by simp [Value.oneCell']) HXn.out ?_;intro w8 hs8 hx8;replace HXd:=hid (hs8.bx HXd.out xo))|(refine wpl_store_row 35 (.tmp 3) (.tmp 8) _ [.int .i64 0,.int .i64 0] [.int .i64 n1,.int .i64 g1] rfl rfl rfl rfl xk rfl (by simp [Value.oneCell']) HXd.out ?_;intro w9 hs9 hx9))
 exact bodyPost_ret (results_cct rfl rfl rfl (run_loadVar_many _ Tryz.underlying33 rfl xk (bx_pb (hs9.bx hx8 xo))) (run_loadVar_many _ Tryz.underlying35 rfl xk (bx_pb hx9))) rfl ⟨_,_,_,_,_,_,rfl,owns_base (owns_heap (owns_heap HP.out.1 fun x hx=>hs8.other x (by have:=(HP.out.1.lt x hx).1;omega)) fun x hx=>hs9.other x (by have:=(HP.out.1.lt x hx).1;omega)) xo,owns_base (owns_heap (owns_heap HP.out.2.1 fun x hx=>hs8.other x (by have:=(HP.out.2.1.lt x hx).1;omega)) fun x hx=>hs9.other x (by have:=(HP.out.2.1.lt x hx).1;omega)) xo,owns_base (owns_heap (owns_heap HP.out.2.2.1 fun x hx=>hs8.other x (by have:=(HP.out.2.2.1.lt x hx).1;omega)) fun x hx=>hs9.other x (by have:=(HP.out.2.2.1.lt x hx).1;omega)) xo,owns_base (owns_heap (owns_heap HP.out.2.2.2.1 fun x hx=>hs8.other x (by have:=(HP.out.2.2.2.1.lt x hx).1;omega)) fun x hx=>hs9.other x (by have:=(HP.out.2.2.2.1.lt x hx).1;omega)) xo,owns_base (owns_heap (owns_heap HP.out.2.2.2.2.1 fun x hx=>hs8.other x (by have:=(HP.out.2.2.2.2.1.lt x hx).1;omega)) fun x hx=>hs9.other x (by have:=(HP.out.2.2.2.2.1.lt x hx).1;omega)) xo,owns_base (owns_heap (owns_heap HP.out.2.2.2.2.2 fun x hx=>hs8.other x (by have:=(HP.out.2.2.2.2.2.lt x hx).1;omega)) fun x hx=>hs9.other x (by have:=(HP.out.2.2.2.2.2.lt x hx).1;omega)) xo,(HB2.out.trans (hs8.bel _ xo)).trans (hs9.bel _ xo)⟩
theorem omAfter_w (c:Cfg) (s:SlC) (sa:SlA) (gs ps:List Int) (mv:Int) (ga pa:Option Addr) (gc pc:Nat) (r:OmR) (n g n1 g1 x:Int) (w:World)
    (IN:Hid (∀(W:World) (b:Nat),Below w.heap.size w W→BX W b 35 [.int .i64 n,.int .i64 g]→Calls Tryz.prog 33 #[.agg #[.int .u8 c.tag,.int .i64 c.most,.int .i64 c.seg,.int .i64 c.least,.int .i64 c.den,.int .i64 c.ll,.int .i64 c.rl,.int .i64 c.rh,.int .i64 c.lh,.int .i64 s.seg,.slice sa.wa s.ws.length sa.wc,.slice sa.ka s.ks.length sa.kc,.slice sa.va s.vs.length sa.vc,.slice sa.ca s.cs.length sa.cc,.int .u64 s.laid,.slice ga gs.length gc,.slice pa ps.length pc,.int .u64 mv],.func (.func 37) #[] #[.pointer (some ⟨b,0,none⟩)]] W (FreshR W r n1 g1 x))):
    Calls Tryz.prog 12 #[.agg #[.int .u8 c.tag,.int .i64 c.most,.int .i64 c.seg,.int .i64 c.least,.int .i64 c.den,.int .i64 c.ll,.int .i64 c.rl,.int .i64 c.rh,.int .i64 c.lh,.int .i64 s.seg,.slice sa.wa s.ws.length sa.wc,.slice sa.ka s.ks.length sa.kc,.slice sa.va s.vs.length sa.vc,.slice sa.ca s.cs.length sa.cc,.int .u64 s.laid,.slice ga gs.length gc,.slice pa ps.length pc,.int .u64 mv],.agg #[.int .i64 n,.int .i64 g]] w (FreshR w r n1 g1 x):=by
 go_enter Tryz.func12,Tryz.ntmps12
 go_upto_region 1 with (fail)
 generalize hw0:(((w.alloc _).alloc _).alloc _).alloc _=w0;obtain ⟨hb0,hxo,hxh,hxn,hxd⟩:=bx_four hw0;have HB0:=hid hb0;have HXo:=hid hxo;have HXh:=hid hxh;have HXn:=hid hxn;have HXd:=hid hxd;have hzh:w.heap.size+1+1+1<w0.heap.size:=bx_lt hxd;clear hw0 hb0 hxo hxn hxd hxh;go_wp2_with (refine wpl_load 33 (.tmp 2) _ _ rfl rfl rfl Tryz.underlying33 rfl xk (bx_pb HXo.out) ?_)
 refine (IN.out _ _ HB0.out HXh.out).mono ?_;rintro e' w2 ⟨v1,v2,v3,v4,v5,v6,rfl,p1,p2,p3,p4,p5,p6,hb2⟩;replace HXn:=hid (bx_below hb2 HXn.out (bx_lt HXn.out));replace HXd:=hid (bx_below hb2 HXd.out (bx_lt HXd.out));have HB2:=xv hb2 HB0;clear hb2;obtain ⟨a1,k1,rfl,-,-,-,-,-⟩:=row_of_owns p1;obtain ⟨a2,k2,rfl,-,-,-,-,-⟩:=row_of_owns p2;obtain ⟨a3,k3,rfl,-,-,-,-,-⟩:=row_of_owns p3;obtain ⟨a4,k4,rfl,-,-,-,-,-⟩:=row_of_owns p4;obtain ⟨a5,k5,rfl,-,-,-,-,-⟩:=row_of_owns p5;obtain ⟨a6,k6,rfl,-,-,-,-,-⟩:=row_of_owns p6;have HP:=hid (And.intro p1 (And.intro p2 (And.intro p3 (And.intro p4 (And.intro p5 p6)))));have HZ:=HB0.out.size;clear p1 p2 p3 p4 p5 p6;go_wp2_with (first|(refine wpl_store_row 33 (.tmp 4) (.tmp 10) _ [.int .u8 0,.int .i64 0,.int .i64 0,.int .i64 0,.int .i64 0,.int .i64 0,.int .i64 0,.int .i64 0,.int .i64 0,.int .i64 0,.slice none 0 0,.slice none 0 0,.slice none 0 0,.slice none 0 0,.int .u64 0,.slice none 0 0,.slice none 0 0,.int .u64 0] [.int .u8 r.c.tag,.int .i64 r.c.most,.int .i64 r.c.seg,.int .i64 r.c.least,.int .i64 r.c.den,.int .i64 r.c.ll,.int .i64 r.c.rl,.int .i64 r.c.rh,.int .i64 r.c.lh,.int .i64 r.s.seg,.slice a1 r.s.ws.length k1,.slice a2 r.s.ks.length k2,.slice a3 r.s.vs.length k3,.slice a4 r.s.cs.length k4,.int .u64 r.s.laid,.slice a5 r.gs.length k5,.slice a6 r.ps.length k6,.int .u64 r.mv] rfl rfl rfl rfl xk rfl (by simp [Value.oneCell']) HXn.out ?_;intro w8 hs8 hx8;replace HXd:=hid (hs8.bx HXd.out xo))|(refine wpl_store_row 35 (.tmp 5) (.tmp 11) _ [.int .i64 0,.int .i64 0] [.int .i64 n1,.int .i64 g1] rfl rfl rfl rfl xk rfl (by simp [Value.oneCell']) HXd.out ?_;intro w9 hs9 hx9))
 exact bodyPost_ret (results_cct rfl rfl rfl (run_loadVar_many _ Tryz.underlying33 rfl xk (bx_pb (hs9.bx hx8 xo))) (run_loadVar_many _ Tryz.underlying35 rfl xk (bx_pb hx9))) rfl ⟨_,_,_,_,_,_,rfl,owns_base (owns_heap (owns_heap HP.out.1 fun x hx=>hs8.other x (by have:=(HP.out.1.lt x hx).1;omega)) fun x hx=>hs9.other x (by have:=(HP.out.1.lt x hx).1;omega)) xo,owns_base (owns_heap (owns_heap HP.out.2.1 fun x hx=>hs8.other x (by have:=(HP.out.2.1.lt x hx).1;omega)) fun x hx=>hs9.other x (by have:=(HP.out.2.1.lt x hx).1;omega)) xo,owns_base (owns_heap (owns_heap HP.out.2.2.1 fun x hx=>hs8.other x (by have:=(HP.out.2.2.1.lt x hx).1;omega)) fun x hx=>hs9.other x (by have:=(HP.out.2.2.1.lt x hx).1;omega)) xo,owns_base (owns_heap (owns_heap HP.out.2.2.2.1 fun x hx=>hs8.other x (by have:=(HP.out.2.2.2.1.lt x hx).1;omega)) fun x hx=>hs9.other x (by have:=(HP.out.2.2.2.1.lt x hx).1;omega)) xo,owns_base (owns_heap (owns_heap HP.out.2.2.2.2.1 fun x hx=>hs8.other x (by have:=(HP.out.2.2.2.2.1.lt x hx).1;omega)) fun x hx=>hs9.other x (by have:=(HP.out.2.2.2.2.1.lt x hx).1;omega)) xo,owns_base (owns_heap (owns_heap HP.out.2.2.2.2.2 fun x hx=>hs8.other x (by have:=(HP.out.2.2.2.2.2.lt x hx).1;omega)) fun x hx=>hs9.other x (by have:=(HP.out.2.2.2.2.2.lt x hx).1;omega)) xo,(HB2.out.trans (hs8.bel _ xo)).trans (hs9.bel _ xo)⟩
theorem omBefore_w (c:Cfg) (s:SlC) (sa:SlA) (gs ps:List Int) (mv:Int) (ga pa:Option Addr) (gc pc:Nat) (r:OmR) (n g n1 g1 x:Int) (w:World)
    (IN:Hid (∀(W:World) (b:Nat),Below w.heap.size w W→BX W b 35 [.int .i64 n,.int .i64 g]→Calls Tryz.prog 33 #[.agg #[.int .u8 c.tag,.int .i64 c.most,.int .i64 c.seg,.int .i64 c.least,.int .i64 c.den,.int .i64 c.ll,.int .i64 c.rl,.int .i64 c.rh,.int .i64 c.lh,.int .i64 s.seg,.slice sa.wa s.ws.length sa.wc,.slice sa.ka s.ks.length sa.kc,.slice sa.va s.vs.length sa.vc,.slice sa.ca s.cs.length sa.cc,.int .u64 s.laid,.slice ga gs.length gc,.slice pa ps.length pc,.int .u64 mv],.func (.func 40) #[] #[.pointer (some ⟨b,0,none⟩)]] W (FreshR W r n1 g1 x))):
    Calls Tryz.prog 14 #[.agg #[.int .u8 c.tag,.int .i64 c.most,.int .i64 c.seg,.int .i64 c.least,.int .i64 c.den,.int .i64 c.ll,.int .i64 c.rl,.int .i64 c.rh,.int .i64 c.lh,.int .i64 s.seg,.slice sa.wa s.ws.length sa.wc,.slice sa.ka s.ks.length sa.kc,.slice sa.va s.vs.length sa.vc,.slice sa.ca s.cs.length sa.cc,.int .u64 s.laid,.slice ga gs.length gc,.slice pa ps.length pc,.int .u64 mv],.agg #[.int .i64 n,.int .i64 g]] w (FreshR w r n1 g1 x):=by
 go_enter Tryz.func14,Tryz.ntmps14
 go_upto_region 1 with (fail)
 generalize hw0:(((w.alloc _).alloc _).alloc _).alloc _=w0;obtain ⟨hb0,hxo,hxh,hxn,hxd⟩:=bx_four hw0;have HB0:=hid hb0;have HXo:=hid hxo;have HXh:=hid hxh;have HXn:=hid hxn;have HXd:=hid hxd;have hzh:w.heap.size+1+1+1<w0.heap.size:=bx_lt hxd;clear hw0 hb0 hxo hxn hxd hxh;go_wp2_with (refine wpl_load 33 (.tmp 2) _ _ rfl rfl rfl Tryz.underlying33 rfl xk (bx_pb HXo.out) ?_)
 refine (IN.out _ _ HB0.out HXh.out).mono ?_;rintro e' w2 ⟨v1,v2,v3,v4,v5,v6,rfl,p1,p2,p3,p4,p5,p6,hb2⟩;replace HXn:=hid (bx_below hb2 HXn.out (bx_lt HXn.out));replace HXd:=hid (bx_below hb2 HXd.out (bx_lt HXd.out));have HB2:=xv hb2 HB0;clear hb2;obtain ⟨a1,k1,rfl,-,-,-,-,-⟩:=row_of_owns p1;obtain ⟨a2,k2,rfl,-,-,-,-,-⟩:=row_of_owns p2;obtain ⟨a3,k3,rfl,-,-,-,-,-⟩:=row_of_owns p3;obtain ⟨a4,k4,rfl,-,-,-,-,-⟩:=row_of_owns p4;obtain ⟨a5,k5,rfl,-,-,-,-,-⟩:=row_of_owns p5;obtain ⟨a6,k6,rfl,-,-,-,-,-⟩:=row_of_owns p6;have HP:=hid (And.intro p1 (And.intro p2 (And.intro p3 (And.intro p4 (And.intro p5 p6)))));have HZ:=HB0.out.size;clear p1 p2 p3 p4 p5 p6;go_wp2_with (first|(refine wpl_store_row 33 (.tmp 4) (.tmp 10) _ [.int .u8 0,.int .i64 0,.int .i64 0,.int .i64 0,.int .i64 0,.int .i64 0,.int .i64 0,.int .i64 0,.int .i64 0,.int .i64 0,.slice none 0 0,.slice none 0 0,.slice none 0 0,.slice none 0 0,.int .u64 0,.slice none 0 0,.slice none 0 0,.int .u64 0] [.int .u8 r.c.tag,.int .i64 r.c.most,.int .i64 r.c.seg,.int .i64 r.c.least,.int .i64 r.c.den,.int .i64 r.c.ll,.int .i64 r.c.rl,.int .i64 r.c.rh,.int .i64 r.c.lh,.int .i64 r.s.seg,.slice a1 r.s.ws.length k1,.slice a2 r.s.ks.length k2,.slice a3 r.s.vs.length k3,.slice a4 r.s.cs.length k4,.int .u64 r.s.laid,.slice a5 r.gs.length k5,.slice a6 r.ps.length k6,.int .u64 r.mv] rfl rfl rfl rfl xk rfl (by simp [Value.oneCell']) HXn.out ?_;intro w8 hs8 hx8;replace HXd:=hid (hs8.bx HXd.out xo))|(refine wpl_store_row 35 (.tmp 5) (.tmp 11) _ [.int .i64 0,.int .i64 0] [.int .i64 n1,.int .i64 g1] rfl rfl rfl rfl xk rfl (by simp [Value.oneCell']) HXd.out ?_;intro w9 hs9 hx9))
 exact bodyPost_ret (results_cct rfl rfl rfl (run_loadVar_many _ Tryz.underlying33 rfl xk (bx_pb (hs9.bx hx8 xo))) (run_loadVar_many _ Tryz.underlying35 rfl xk (bx_pb hx9))) rfl ⟨_,_,_,_,_,_,rfl,owns_base (owns_heap (owns_heap HP.out.1 fun x hx=>hs8.other x (by have:=(HP.out.1.lt x hx).1;omega)) fun x hx=>hs9.other x (by have:=(HP.out.1.lt x hx).1;omega)) xo,owns_base (owns_heap (owns_heap HP.out.2.1 fun x hx=>hs8.other x (by have:=(HP.out.2.1.lt x hx).1;omega)) fun x hx=>hs9.other x (by have:=(HP.out.2.1.lt x hx).1;omega)) xo,owns_base (owns_heap (owns_heap HP.out.2.2.1 fun x hx=>hs8.other x (by have:=(HP.out.2.2.1.lt x hx).1;omega)) fun x hx=>hs9.other x (by have:=(HP.out.2.2.1.lt x hx).1;omega)) xo,owns_base (owns_heap (owns_heap HP.out.2.2.2.1 fun x hx=>hs8.other x (by have:=(HP.out.2.2.2.1.lt x hx).1;omega)) fun x hx=>hs9.other x (by have:=(HP.out.2.2.2.1.lt x hx).1;omega)) xo,owns_base (owns_heap (owns_heap HP.out.2.2.2.2.1 fun x hx=>hs8.other x (by have:=(HP.out.2.2.2.2.1.lt x hx).1;omega)) fun x hx=>hs9.other x (by have:=(HP.out.2.2.2.2.1.lt x hx).1;omega)) xo,owns_base (owns_heap (owns_heap HP.out.2.2.2.2.2 fun x hx=>hs8.other x (by have:=(HP.out.2.2.2.2.2.lt x hx).1;omega)) fun x hx=>hs9.other x (by have:=(HP.out.2.2.2.2.2.lt x hx).1;omega)) xo,(HB2.out.trans (hs8.bel _ xo)).trans (hs9.bel _ xo)⟩
end
section
open Go.RowKit Go.Shelf Go.Sort
end
section
open Go.RowKit Go.Shelf Go.Sort
theorem hd_take_succ {xs ys:List (Int×Int)} {k:Nat} (hl:xs.length=ys.length) (hk:k<xs.length) (ht:xs.take k=ys.take k) (h1:(xs.getD k (0,0)).1=(ys.getD k (0,0)).1) (h2:(xs.getD k (0,0)).2=(ys.getD k (0,0)).2):xs.take (k+1)=ys.take (k+1):=by
 have h:xs.getD k (0,0)=ys.getD k (0,0):=Prod.ext h1 h2;rw [List.getD_eq_getElem?_getD,List.getD_eq_getElem?_getD,List.getElem?_eq_getElem hk,List.getElem?_eq_getElem xo,Option.getD_some,Option.getD_some] at h;rw [List.take_succ_eq_append_getElem hk,List.take_succ_eq_append_getElem xo,ht,h]
theorem SameHd_ok (a b:Option Addr) (ca cb:Nat) (xs ys:List (Int×Int)) (w:World) (ha:IsRow .i64 w a (prI xs)) (hb:IsRow .i64 w b (prI ys)) (hm:xs.length≤1000000000):
    Calls Tryz.prog 50 #[.slice a xs.length ca,.slice b ys.length cb] w (AnsB w (.bool (decide (xs=ys)))):=by
 by_cases hlen:xs.length=ys.length
 · have hl1:((xs.length:Int) != (ys.length:Int))=false:=by simp [hlen]
   have HL:=hid hlen;clear hlen;have HA:=hid ha;have HB:=hid hb;clear ha hb;go_enter Tryz.func50,Tryz.ntmps50
   go_wp2
   go_loopg [5] xs.length (fun g i wr=>∃(k n:Nat),k+g=xs.length∧i= .int .i64 k∧wr=w.drewN n∧xs.take k=ys.take k)
   case atStart=>exact ⟨0,0,by omega,rfl,rfl,by simp⟩
   case round=>
    obtain ⟨k,n,hk,rfl,rfl,ht⟩:=hrel;have HT:=hid ht;clear ht;by_cases hlt:k<xs.length
    · have hlt2 : k <ys.length:=by rw [←HL.out];exact hlt
      obtain ⟨b1,o1,rfl,c0,c1,z1⟩:=pr_get HA.out hlt;obtain ⟨b2,o2,rfl,e0,e1,z2⟩:=pr_get HB.out hlt2;have HX:=hid (hd_take_succ (xs:=xs) (ys:=ys) (k:=k) HL.out hlt HT.out);have HNE:Hid (¬((xs.getD k (0,0)).1=(ys.getD k (0,0)).1∧(xs.getD k (0,0)).2=(ys.getD k (0,0)).2)→xs≠ys):=hid fun h e=>h (by rw [e];exact ⟨rfl,rfl⟩)
      generalize (xs.getD k (0,0)).1=x1 at *;generalize (xs.getD k (0,0)).2=x2 at *;generalize (ys.getD k (0,0)).1=y1 at *;generalize (ys.getD k (0,0)).2=y2 at *;by_cases h1:x1=y1
      · subst h1;by_cases h2:x2=y2
        · subst h2;have HX2:=hid (HX.out rfl rfl);clear HX HNE;go_wp2
          go_quiet (fail)
          go_wp2
          go_roundg (gk-1)
          case measure=>omega
          case rel=>exact ⟨k+1,n+nq,by omega,by go_num,by simp,HX2.out⟩
        · have he : (x2==y2)=false:=by simpa using h2
          have HE:=hid h2;clear h2;go_wp2
          go_quiet (fail)
          go_wp2
          go_ret
          exact ⟨by have:xs≠ys:=HNE.out fun h=>HE.out h.2
                    simp [this],below_drewN (below_drewN br _) _⟩
      · have he : (x1==y1)=false:=by simpa using h1
        have HE:=hid h1;clear h1;go_wp2
        go_quiet (fail)
        go_wp2
        go_ret
        exact ⟨by have:xs≠ys:=HNE.out fun h=>HE.out h.1
                  simp [this],below_drewN (below_drewN br _) _⟩
    · go_wp2
      go_ret
      have:xs=ys:=by
       have:=HT.out;rwa [List.take_of_length_le xo,List.take_of_length_le (by have:=HL.out;omega)] at this
      exact ⟨by simp [this],below_drewN br _⟩
 · have hl1:((xs.length:Int) != (ys.length:Int))=true:=by simp;omega
   have HL:=hid hlen;clear hlen ha hb;go_enter Tryz.func50,Tryz.ntmps50
   go_wp2
   go_ret
   have:xs≠ys:=fun e=>HL.out (by rw [e])
   exact ⟨by simp [this],Below.refl _ _⟩
theorem info_Hd:(Tryz.prog.info? 35).map (fun i=>(i.zero,i.size,i.bytes))=some (some (.agg #[.int .i64 0,.int .i64 0]),2,16):=by kernel_rfl
def FreshHd2 (w:World) (l:List (Int×Int)) (x:Value) (e:Ending) (w':World):Prop:=
  ∃v,e= .returned (.tuple #[v,x])∧w'.ownsRow w.heap.size 35 2 v l.length ((prI l).map (Value.int .i64))∧Below w.heap.size w w'
theorem take_hd {l:List (Int×Int)} {k:Nat} (h:k<l.length) {x y:Int} (hx:l.getD k (0,0)=(x,y)):l.take (k+1)=l.take k++[(x,y)]:=by
 rw [List.take_succ_eq_append_getElem h];rw [List.getD_eq_getElem?_getD,List.getElem?_eq_getElem h] at hx;simp only [Option.getD_some] at hx;rw [hx]
theorem omLabel_err (c:Cfg) (s:SlC) (wa ka va ca:Option Addr) (wc kc vc cc:Nat) (gs ps:List Int) (mv:Int) (ga pa:Option Addr) (gc pc:Nat) (n g e:Int) (he:e≠0) (w:World) (CK:Hid (∀W,Below w.heap.size w W→Calls Tryz.prog 24 #[.agg #[.int .u8 c.tag,.int .i64 c.most,.int .i64 c.seg,.int .i64 c.least,.int .i64 c.den,.int .i64 c.ll,.int .i64 c.rl,.int .i64 c.rh,.int .i64 c.lh,.int .i64 s.seg,.slice wa s.ws.length wc,.slice ka s.ks.length kc,.slice va s.vs.length vc,.slice ca s.cs.length cc,.int .u64 s.laid,.slice ga gs.length gc,.slice pa ps.length pc,.int .u64 mv]] W (AnsB W (.int .i64 e)))):
    Calls Tryz.prog 26 #[.agg #[.int .u8 c.tag,.int .i64 c.most,.int .i64 c.seg,.int .i64 c.least,.int .i64 c.den,.int .i64 c.ll,.int .i64 c.rl,.int .i64 c.rh,.int .i64 c.lh,.int .i64 s.seg,.slice wa s.ws.length wc,.slice ka s.ks.length kc,.slice va s.vs.length vc,.slice ca s.cs.length cc,.int .u64 s.laid,.slice ga gs.length gc,.slice pa ps.length pc,.int .u64 mv],.agg #[.int .i64 n,.int .i64 g]] w (AnsB w (.tuple #[.int .i64 0,.int .i64 e])):=by
 have g1:(e != 0)=true:=by simpa using he
 go_enter Tryz.func26,Tryz.ntmps26
 go_upto_region 1 with (fail)
 generalize hw0:((w.alloc _).alloc _)=w0;have hh:=ec18 hw0 (au18 (al18 (b:=w.heap.size) xsi));obtain ⟨c_t0,c_t1,c_t2,c_t3,c_t4,c_t5,c_t6,c_t7,c_t8,c_t9,c_t10,c_t11,c_t12,c_t13,c_t14,c_t15,c_t16,c_t17⟩:=hh;have z_t:=elt hw0 (auz (alz (b:=w.heap.size) xsi));have hh:=ec2 hw0 (al2 (b:=w.heap.size+1) xsi);obtain ⟨c_h0,c_h1⟩:=hh;have z_h:=elt hw0 (alz (b:=w.heap.size+1) xsi);have HB0:Hid (Below w.heap.size w w0):=by rw [←hw0];exact hid ((br.alloc (by first|exact Nat.le_refl _|(simp;done)|(simp;omega)) _).alloc (by first|exact Nat.le_refl _|(simp;done)|(simp;omega)) _)
 clear hw0;go_wp2_with (refine wpl_load 33 (.tmp 2) _ _ rfl rfl rfl Tryz.underlying33 rfl xk (list18 ⟨c_t0,c_t1,c_t2,c_t3,c_t4,c_t5,c_t6,c_t7,c_t8,c_t9,c_t10,c_t11,c_t12,c_t13,c_t14,c_t15,c_t16,c_t17⟩) ?_)
 go_wp2_with fail
 refine (CK.out _ HB0.out).mono ?_;rintro e w1 ⟨rfl,hb1⟩;have hz_w1:=hb1.size;simp (disch:=omega) only [xcl hb1] at *;replace z_t:=blt hb1 z_t;replace z_h:=blt hb1 z_h;have hB1:Below w.heap.size w w1:=below_via hb1 HB0.out HB0.out.size;go_wp2
 go_ret2
 exact ⟨rfl,hB1⟩
theorem omLabel_in (c:Cfg) (s:SlC) (wa ka va ca:Option Addr) (wc kc vc cc:Nat) (gs ps:List Int) (mv:Int) (ga pa:Option Addr) (gc pc:Nat) (n g:Int) (x e:Int) (w:World) (CK:Hid (∀W,Below w.heap.size w W→Calls Tryz.prog 24 #[.agg #[.int .u8 c.tag,.int .i64 c.most,.int .i64 c.seg,.int .i64 c.least,.int .i64 c.den,.int .i64 c.ll,.int .i64 c.rl,.int .i64 c.rh,.int .i64 c.lh,.int .i64 s.seg,.slice wa s.ws.length wc,.slice ka s.ks.length kc,.slice va s.vs.length vc,.slice ca s.cs.length cc,.int .u64 s.laid,.slice ga gs.length gc,.slice pa ps.length pc,.int .u64 mv]] W (AnsB W (.int .i64 0)))) (FD:Hid (∀W,Below w.heap.size w W→Calls Tryz.prog 54 #[.agg #[.slice ga gs.length gc,.slice pa ps.length pc],.agg #[.int .i64 n,.int .i64 g]] W (AnsB W (.tuple #[.int .i64 x,.int .i64 e])))):
    Calls Tryz.prog 26 #[.agg #[.int .u8 c.tag,.int .i64 c.most,.int .i64 c.seg,.int .i64 c.least,.int .i64 c.den,.int .i64 c.ll,.int .i64 c.rl,.int .i64 c.rh,.int .i64 c.lh,.int .i64 s.seg,.slice wa s.ws.length wc,.slice ka s.ks.length kc,.slice va s.vs.length vc,.slice ca s.cs.length cc,.int .u64 s.laid,.slice ga gs.length gc,.slice pa ps.length pc,.int .u64 mv],.agg #[.int .i64 n,.int .i64 g]] w (AnsB w (.tuple #[.int .i64 x,.int .i64 e])):=by
 go_enter Tryz.func26,Tryz.ntmps26
 go_upto_region 1 with (fail)
 generalize hw0:((w.alloc _).alloc _)=w0;have hh:=ec18 hw0 (au18 (al18 (b:=w.heap.size) xsi));obtain ⟨c_t0,c_t1,c_t2,c_t3,c_t4,c_t5,c_t6,c_t7,c_t8,c_t9,c_t10,c_t11,c_t12,c_t13,c_t14,c_t15,c_t16,c_t17⟩:=hh;have z_t:=elt hw0 (auz (alz (b:=w.heap.size) xsi));have hh:=ec2 hw0 (al2 (b:=w.heap.size+1) xsi);obtain ⟨c_h0,c_h1⟩:=hh;have z_h:=elt hw0 (alz (b:=w.heap.size+1) xsi);have HB0:Hid (Below w.heap.size w w0):=by rw [←hw0];exact hid ((br.alloc (by first|exact Nat.le_refl _|(simp;done)|(simp;omega)) _).alloc (by first|exact Nat.le_refl _|(simp;done)|(simp;omega)) _)
 clear hw0;go_wp2_with (refine wpl_load 33 (.tmp 2) _ _ rfl rfl rfl Tryz.underlying33 rfl xk (list18 ⟨c_t0,c_t1,c_t2,c_t3,c_t4,c_t5,c_t6,c_t7,c_t8,c_t9,c_t10,c_t11,c_t12,c_t13,c_t14,c_t15,c_t16,c_t17⟩) ?_)
 go_wp2_with fail
 refine (CK.out _ HB0.out).mono ?_;rintro e w1 ⟨rfl,hb1⟩;have hz_w1:=hb1.size;simp (disch:=omega) only [xcl hb1] at *;replace z_t:=blt hb1 z_t;replace z_h:=blt hb1 z_h;have hB1:Below w.heap.size w w1:=below_via hb1 HB0.out HB0.out.size;have HB1:=hid hB1;clear hb1 hB1;go_wp2_with fail
 refine (FD.out _ HB1.out).mono ?_;rintro e w2 ⟨rfl,hb2⟩;have hz_w2:=hb2.size;simp (disch:=omega) only [xcl hb2] at *;replace z_t:=blt hb2 z_t;replace z_h:=blt hb2 z_h;have HB2:=xv hb2 HB1;go_wp2
 go_ret2
 exact ⟨rfl,HB2.out⟩
theorem omCompare_e1 (c:Cfg) (s:SlC) (wa ka va ca:Option Addr) (wc kc vc cc:Nat) (gs ps:List Int) (mv:Int) (ga pa:Option Addr) (gc pc:Nat) (n g n2 g2 x e:Int) (he:e≠0) (w:World) (LA:Hid (∀W,Below w.heap.size w W→Calls Tryz.prog 26 #[.agg #[.int .u8 c.tag,.int .i64 c.most,.int .i64 c.seg,.int .i64 c.least,.int .i64 c.den,.int .i64 c.ll,.int .i64 c.rl,.int .i64 c.rh,.int .i64 c.lh,.int .i64 s.seg,.slice wa s.ws.length wc,.slice ka s.ks.length kc,.slice va s.vs.length vc,.slice ca s.cs.length cc,.int .u64 s.laid,.slice ga gs.length gc,.slice pa ps.length pc,.int .u64 mv],.agg #[.int .i64 n,.int .i64 g]] W (AnsB W (.tuple #[.int .i64 x,.int .i64 e])))):
    Calls Tryz.prog 25 #[.agg #[.int .u8 c.tag,.int .i64 c.most,.int .i64 c.seg,.int .i64 c.least,.int .i64 c.den,.int .i64 c.ll,.int .i64 c.rl,.int .i64 c.rh,.int .i64 c.lh,.int .i64 s.seg,.slice wa s.ws.length wc,.slice ka s.ks.length kc,.slice va s.vs.length vc,.slice ca s.cs.length cc,.int .u64 s.laid,.slice ga gs.length gc,.slice pa ps.length pc,.int .u64 mv],.agg #[.int .i64 n,.int .i64 g],.agg #[.int .i64 n2,.int .i64 g2]] w (AnsB w (.tuple #[.int .i64 0,.int .i64 e])):=by
 have g1:(e != 0)=true:=by simpa using he
 go_enter Tryz.func25,Tryz.ntmps25
 go_upto_region 1 with (fail)
 generalize hw0:(((w.alloc _).alloc _).alloc _)=w0;have hh:=ec18 hw0 (au18 (au18 (al18 (b:=w.heap.size) xsi)));obtain ⟨c_t0,c_t1,c_t2,c_t3,c_t4,c_t5,c_t6,c_t7,c_t8,c_t9,c_t10,c_t11,c_t12,c_t13,c_t14,c_t15,c_t16,c_t17⟩:=hh;have z_t:=elt hw0 (auz (auz (alz (b:=w.heap.size) xsi)));have hh:=ec2 hw0 (au2 (al2 (b:=w.heap.size+1) xsi));obtain ⟨c_h0,c_h1⟩:=hh;have z_h:=elt hw0 (auz (alz (b:=w.heap.size+1) xsi));have hh:=ec2 hw0 (al2 (b:=w.heap.size+2) xsi);obtain ⟨c_k0,c_k1⟩:=hh;have z_k:=elt hw0 (alz (b:=w.heap.size+2) xsi);have HB0:Hid (Below w.heap.size w w0):=by rw [←hw0];exact hid (((br.alloc (by first|exact Nat.le_refl _|(simp;done)|(simp;omega)) _).alloc (by first|exact Nat.le_refl _|(simp;done)|(simp;omega)) _).alloc (by first|exact Nat.le_refl _|(simp;done)|(simp;omega)) _)
 clear hw0;go_wp2_with (refine wpl_load 33 (.tmp 3) _ _ rfl rfl rfl Tryz.underlying33 rfl xk (list18 ⟨c_t0,c_t1,c_t2,c_t3,c_t4,c_t5,c_t6,c_t7,c_t8,c_t9,c_t10,c_t11,c_t12,c_t13,c_t14,c_t15,c_t16,c_t17⟩) ?_)
 go_wp2_with fail
 refine (LA.out _ HB0.out).mono ?_;rintro e w1 ⟨rfl,hb1⟩;have hz_w1:=hb1.size;simp (disch:=omega) only [xcl hb1] at *;replace z_t:=blt hb1 z_t;replace z_h:=blt hb1 z_h;replace z_k:=blt hb1 z_k;have hB1:Below w.heap.size w w1:=below_via hb1 HB0.out HB0.out.size;go_wp2
 go_ret2
 exact ⟨rfl,hB1⟩
theorem omCompare_e2 (c:Cfg) (s:SlC) (wa ka va ca:Option Addr) (wc kc vc cc:Nat) (gs ps:List Int) (mv:Int) (ga pa:Option Addr) (gc pc:Nat) (n g n2 g2 x y e:Int) (he:e≠0) (w:World) (LA:Hid (∀W,Below w.heap.size w W→Calls Tryz.prog 26 #[.agg #[.int .u8 c.tag,.int .i64 c.most,.int .i64 c.seg,.int .i64 c.least,.int .i64 c.den,.int .i64 c.ll,.int .i64 c.rl,.int .i64 c.rh,.int .i64 c.lh,.int .i64 s.seg,.slice wa s.ws.length wc,.slice ka s.ks.length kc,.slice va s.vs.length vc,.slice ca s.cs.length cc,.int .u64 s.laid,.slice ga gs.length gc,.slice pa ps.length pc,.int .u64 mv],.agg #[.int .i64 n,.int .i64 g]] W (AnsB W (.tuple #[.int .i64 x,.int .i64 0])))) (LB:Hid (∀W,Below w.heap.size w W→Calls Tryz.prog 26 #[.agg #[.int .u8 c.tag,.int .i64 c.most,.int .i64 c.seg,.int .i64 c.least,.int .i64 c.den,.int .i64 c.ll,.int .i64 c.rl,.int .i64 c.rh,.int .i64 c.lh,.int .i64 s.seg,.slice wa s.ws.length wc,.slice ka s.ks.length kc,.slice va s.vs.length vc,.slice ca s.cs.length cc,.int .u64 s.laid,.slice ga gs.length gc,.slice pa ps.length pc,.int .u64 mv],.agg #[.int .i64 n2,.int .i64 g2]] W (AnsB W (.tuple #[.int .i64 y,.int .i64 e])))):
    Calls Tryz.prog 25 #[.agg #[.int .u8 c.tag,.int .i64 c.most,.int .i64 c.seg,.int .i64 c.least,.int .i64 c.den,.int .i64 c.ll,.int .i64 c.rl,.int .i64 c.rh,.int .i64 c.lh,.int .i64 s.seg,.slice wa s.ws.length wc,.slice ka s.ks.length kc,.slice va s.vs.length vc,.slice ca s.cs.length cc,.int .u64 s.laid,.slice ga gs.length gc,.slice pa ps.length pc,.int .u64 mv],.agg #[.int .i64 n,.int .i64 g],.agg #[.int .i64 n2,.int .i64 g2]] w (AnsB w (.tuple #[.int .i64 0,.int .i64 e])):=by
 have g1:(e != 0)=true:=by simpa using he
 go_enter Tryz.func25,Tryz.ntmps25
 go_upto_region 1 with (fail)
 generalize hw0:(((w.alloc _).alloc _).alloc _)=w0;have hh:=ec18 hw0 (au18 (au18 (al18 (b:=w.heap.size) xsi)));obtain ⟨c_t0,c_t1,c_t2,c_t3,c_t4,c_t5,c_t6,c_t7,c_t8,c_t9,c_t10,c_t11,c_t12,c_t13,c_t14,c_t15,c_t16,c_t17⟩:=hh;have z_t:=elt hw0 (auz (auz (alz (b:=w.heap.size) xsi)));have hh:=ec2 hw0 (au2 (al2 (b:=w.heap.size+1) xsi));obtain ⟨c_h0,c_h1⟩:=hh;have z_h:=elt hw0 (auz (alz (b:=w.heap.size+1) xsi));have hh:=ec2 hw0 (al2 (b:=w.heap.size+2) xsi);obtain ⟨c_k0,c_k1⟩:=hh;have z_k:=elt hw0 (alz (b:=w.heap.size+2) xsi);have HB0:Hid (Below w.heap.size w w0):=by rw [←hw0];exact hid (((br.alloc (by first|exact Nat.le_refl _|(simp;done)|(simp;omega)) _).alloc (by first|exact Nat.le_refl _|(simp;done)|(simp;omega)) _).alloc (by first|exact Nat.le_refl _|(simp;done)|(simp;omega)) _)
 clear hw0;go_wp2_with (refine wpl_load 33 (.tmp 3) _ _ rfl rfl rfl Tryz.underlying33 rfl xk (list18 ⟨c_t0,c_t1,c_t2,c_t3,c_t4,c_t5,c_t6,c_t7,c_t8,c_t9,c_t10,c_t11,c_t12,c_t13,c_t14,c_t15,c_t16,c_t17⟩) ?_)
 go_wp2_with fail
 refine (LA.out _ HB0.out).mono ?_;rintro e w1 ⟨rfl,hb1⟩;have hz_w1:=hb1.size;simp (disch:=omega) only [xcl hb1] at *;replace z_t:=blt hb1 z_t;replace z_h:=blt hb1 z_h;replace z_k:=blt hb1 z_k;have hB1:Below w.heap.size w w1:=below_via hb1 HB0.out HB0.out.size;have HB1:=hid hB1;clear hb1 hB1;go_wp2_with (refine wpl_load 33 (.tmp 3) _ _ rfl rfl rfl Tryz.underlying33 rfl xk (list18 ⟨c_t0,c_t1,c_t2,c_t3,c_t4,c_t5,c_t6,c_t7,c_t8,c_t9,c_t10,c_t11,c_t12,c_t13,c_t14,c_t15,c_t16,c_t17⟩) ?_)
 go_wp2_with fail
 refine (LB.out _ HB1.out).mono ?_;rintro e w2 ⟨rfl,hb2⟩;have hz_w2:=hb2.size;simp (disch:=omega) only [xcl hb2] at *;replace z_t:=blt hb2 z_t;replace z_h:=blt hb2 z_h;replace z_k:=blt hb2 z_k;have HB2:=xv hb2 HB1;go_wp2
 go_ret2
 exact ⟨rfl,HB2.out⟩
theorem omCompare_in (c:Cfg) (s:SlC) (wa ka va ca:Option Addr) (wc kc vc cc:Nat) (gs ps:List Int) (mv:Int) (ga pa:Option Addr) (gc pc:Nat) (n g n2 g2 x y:Int) (w:World) (LA:Hid (∀W,Below w.heap.size w W→Calls Tryz.prog 26 #[.agg #[.int .u8 c.tag,.int .i64 c.most,.int .i64 c.seg,.int .i64 c.least,.int .i64 c.den,.int .i64 c.ll,.int .i64 c.rl,.int .i64 c.rh,.int .i64 c.lh,.int .i64 s.seg,.slice wa s.ws.length wc,.slice ka s.ks.length kc,.slice va s.vs.length vc,.slice ca s.cs.length cc,.int .u64 s.laid,.slice ga gs.length gc,.slice pa ps.length pc,.int .u64 mv],.agg #[.int .i64 n,.int .i64 g]] W (AnsB W (.tuple #[.int .i64 x,.int .i64 0])))) (LB:Hid (∀W,Below w.heap.size w W→Calls Tryz.prog 26 #[.agg #[.int .u8 c.tag,.int .i64 c.most,.int .i64 c.seg,.int .i64 c.least,.int .i64 c.den,.int .i64 c.ll,.int .i64 c.rl,.int .i64 c.rh,.int .i64 c.lh,.int .i64 s.seg,.slice wa s.ws.length wc,.slice ka s.ks.length kc,.slice va s.vs.length vc,.slice ca s.cs.length cc,.int .u64 s.laid,.slice ga gs.length gc,.slice pa ps.length pc,.int .u64 mv],.agg #[.int .i64 n2,.int .i64 g2]] W (AnsB W (.tuple #[.int .i64 y,.int .i64 0])))):
    Calls Tryz.prog 25 #[.agg #[.int .u8 c.tag,.int .i64 c.most,.int .i64 c.seg,.int .i64 c.least,.int .i64 c.den,.int .i64 c.ll,.int .i64 c.rl,.int .i64 c.rh,.int .i64 c.lh,.int .i64 s.seg,.slice wa s.ws.length wc,.slice ka s.ks.length kc,.slice va s.vs.length vc,.slice ca s.cs.length cc,.int .u64 s.laid,.slice ga gs.length gc,.slice pa ps.length pc,.int .u64 mv],.agg #[.int .i64 n,.int .i64 g],.agg #[.int .i64 n2,.int .i64 g2]] w (AnsB w (.tuple #[.int .i64 (cmpI x y),.int .i64 0])):=by
 rcases Int.lt_trichotomy x y with q|q|q
 · have d1:decide (x<y)=true:=by simpa using q
   have hc:cmpI x y= -1:=by rw [cmpI,if_pos q]
   rw [hc];clear hc;go_enter Tryz.func25,Tryz.ntmps25
   go_upto_region 1 with (fail)
   generalize hw0:(((w.alloc _).alloc _).alloc _)=w0;have hh:=ec18 hw0 (au18 (au18 (al18 (b:=w.heap.size) xsi)));obtain ⟨c_t0,c_t1,c_t2,c_t3,c_t4,c_t5,c_t6,c_t7,c_t8,c_t9,c_t10,c_t11,c_t12,c_t13,c_t14,c_t15,c_t16,c_t17⟩:=hh;have z_t:=elt hw0 (auz (auz (alz (b:=w.heap.size) xsi)));have hh:=ec2 hw0 (au2 (al2 (b:=w.heap.size+1) xsi));obtain ⟨c_h0,c_h1⟩:=hh;have z_h:=elt hw0 (auz (alz (b:=w.heap.size+1) xsi));have hh:=ec2 hw0 (al2 (b:=w.heap.size+2) xsi);obtain ⟨c_k0,c_k1⟩:=hh;have z_k:=elt hw0 (alz (b:=w.heap.size+2) xsi);have HB0:Hid (Below w.heap.size w w0):=by rw [←hw0];exact hid (((br.alloc (by first|exact Nat.le_refl _|(simp;done)|(simp;omega)) _).alloc (by first|exact Nat.le_refl _|(simp;done)|(simp;omega)) _).alloc (by first|exact Nat.le_refl _|(simp;done)|(simp;omega)) _)
   clear hw0;go_wp2_with (refine wpl_load 33 (.tmp 3) _ _ rfl rfl rfl Tryz.underlying33 rfl xk (list18 ⟨c_t0,c_t1,c_t2,c_t3,c_t4,c_t5,c_t6,c_t7,c_t8,c_t9,c_t10,c_t11,c_t12,c_t13,c_t14,c_t15,c_t16,c_t17⟩) ?_)
   go_wp2_with fail
   refine (LA.out _ HB0.out).mono ?_;rintro e w1 ⟨rfl,hb1⟩;have hz_w1:=hb1.size;simp (disch:=omega) only [xcl hb1] at *;replace z_t:=blt hb1 z_t;replace z_h:=blt hb1 z_h;replace z_k:=blt hb1 z_k;have hB1:Below w.heap.size w w1:=below_via hb1 HB0.out HB0.out.size;have HB1:=hid hB1;clear hb1 hB1;go_wp2_with (refine wpl_load 33 (.tmp 3) _ _ rfl rfl rfl Tryz.underlying33 rfl xk (list18 ⟨c_t0,c_t1,c_t2,c_t3,c_t4,c_t5,c_t6,c_t7,c_t8,c_t9,c_t10,c_t11,c_t12,c_t13,c_t14,c_t15,c_t16,c_t17⟩) ?_)
   go_wp2_with fail
   refine (LB.out _ HB1.out).mono ?_;rintro e w2 ⟨rfl,hb2⟩;have hz_w2:=hb2.size;simp (disch:=omega) only [xcl hb2] at *;replace z_t:=blt hb2 z_t;replace z_h:=blt hb2 z_h;replace z_k:=blt hb2 z_k;have HB2:=xv hb2 HB1;go_wp2
   go_ret2
   exact ⟨rfl,HB2.out⟩
 · subst q;have d1:decide (x<x)=false:=by simp
   have hc:cmpI x x=0:=by simp [cmpI]
   rw [hc];clear hc;go_enter Tryz.func25,Tryz.ntmps25
   go_upto_region 1 with (fail)
   generalize hw0:(((w.alloc _).alloc _).alloc _)=w0;have hh:=ec18 hw0 (au18 (au18 (al18 (b:=w.heap.size) xsi)));obtain ⟨c_t0,c_t1,c_t2,c_t3,c_t4,c_t5,c_t6,c_t7,c_t8,c_t9,c_t10,c_t11,c_t12,c_t13,c_t14,c_t15,c_t16,c_t17⟩:=hh;have z_t:=elt hw0 (auz (auz (alz (b:=w.heap.size) xsi)));have hh:=ec2 hw0 (au2 (al2 (b:=w.heap.size+1) xsi));obtain ⟨c_h0,c_h1⟩:=hh;have z_h:=elt hw0 (auz (alz (b:=w.heap.size+1) xsi));have hh:=ec2 hw0 (al2 (b:=w.heap.size+2) xsi);obtain ⟨c_k0,c_k1⟩:=hh;have z_k:=elt hw0 (alz (b:=w.heap.size+2) xsi);have HB0:Hid (Below w.heap.size w w0):=by rw [←hw0];exact hid (((br.alloc (by first|exact Nat.le_refl _|(simp;done)|(simp;omega)) _).alloc (by first|exact Nat.le_refl _|(simp;done)|(simp;omega)) _).alloc (by first|exact Nat.le_refl _|(simp;done)|(simp;omega)) _)
   clear hw0;go_wp2_with (refine wpl_load 33 (.tmp 3) _ _ rfl rfl rfl Tryz.underlying33 rfl xk (list18 ⟨c_t0,c_t1,c_t2,c_t3,c_t4,c_t5,c_t6,c_t7,c_t8,c_t9,c_t10,c_t11,c_t12,c_t13,c_t14,c_t15,c_t16,c_t17⟩) ?_)
   go_wp2_with fail
   refine (LA.out _ HB0.out).mono ?_;rintro e w1 ⟨rfl,hb1⟩;have hz_w1:=hb1.size;simp (disch:=omega) only [xcl hb1] at *;replace z_t:=blt hb1 z_t;replace z_h:=blt hb1 z_h;replace z_k:=blt hb1 z_k;have hB1:Below w.heap.size w w1:=below_via hb1 HB0.out HB0.out.size;have HB1:=hid hB1;clear hb1 hB1;go_wp2_with (refine wpl_load 33 (.tmp 3) _ _ rfl rfl rfl Tryz.underlying33 rfl xk (list18 ⟨c_t0,c_t1,c_t2,c_t3,c_t4,c_t5,c_t6,c_t7,c_t8,c_t9,c_t10,c_t11,c_t12,c_t13,c_t14,c_t15,c_t16,c_t17⟩) ?_)
   go_wp2_with fail
   refine (LB.out _ HB1.out).mono ?_;rintro e w2 ⟨rfl,hb2⟩;have hz_w2:=hb2.size;simp (disch:=omega) only [xcl hb2] at *;replace z_t:=blt hb2 z_t;replace z_h:=blt hb2 z_h;replace z_k:=blt hb2 z_k;have HB2:=xv hb2 HB1;go_wp2
   go_ret2
   exact ⟨rfl,HB2.out⟩
 · have d1:decide (x<y)=false:=by simp;omega
   have d2:decide (y<x)=true:=by simpa using q
   have hc:cmpI x y=1:=by rw [cmpI,if_neg xo,if_pos q]
   rw [hc];clear hc;go_enter Tryz.func25,Tryz.ntmps25
   go_upto_region 1 with (fail)
   generalize hw0:(((w.alloc _).alloc _).alloc _)=w0;have hh:=ec18 hw0 (au18 (au18 (al18 (b:=w.heap.size) xsi)));obtain ⟨c_t0,c_t1,c_t2,c_t3,c_t4,c_t5,c_t6,c_t7,c_t8,c_t9,c_t10,c_t11,c_t12,c_t13,c_t14,c_t15,c_t16,c_t17⟩:=hh;have z_t:=elt hw0 (auz (auz (alz (b:=w.heap.size) xsi)));have hh:=ec2 hw0 (au2 (al2 (b:=w.heap.size+1) xsi));obtain ⟨c_h0,c_h1⟩:=hh;have z_h:=elt hw0 (auz (alz (b:=w.heap.size+1) xsi));have hh:=ec2 hw0 (al2 (b:=w.heap.size+2) xsi);obtain ⟨c_k0,c_k1⟩:=hh;have z_k:=elt hw0 (alz (b:=w.heap.size+2) xsi);have HB0:Hid (Below w.heap.size w w0):=by rw [←hw0];exact hid (((br.alloc (by first|exact Nat.le_refl _|(simp;done)|(simp;omega)) _).alloc (by first|exact Nat.le_refl _|(simp;done)|(simp;omega)) _).alloc (by first|exact Nat.le_refl _|(simp;done)|(simp;omega)) _)
   clear hw0;go_wp2_with (refine wpl_load 33 (.tmp 3) _ _ rfl rfl rfl Tryz.underlying33 rfl xk (list18 ⟨c_t0,c_t1,c_t2,c_t3,c_t4,c_t5,c_t6,c_t7,c_t8,c_t9,c_t10,c_t11,c_t12,c_t13,c_t14,c_t15,c_t16,c_t17⟩) ?_)
   go_wp2_with fail
   refine (LA.out _ HB0.out).mono ?_;rintro e w1 ⟨rfl,hb1⟩;have hz_w1:=hb1.size;simp (disch:=omega) only [xcl hb1] at *;replace z_t:=blt hb1 z_t;replace z_h:=blt hb1 z_h;replace z_k:=blt hb1 z_k;have hB1:Below w.heap.size w w1:=below_via hb1 HB0.out HB0.out.size;have HB1:=hid hB1;clear hb1 hB1;go_wp2_with (refine wpl_load 33 (.tmp 3) _ _ rfl rfl rfl Tryz.underlying33 rfl xk (list18 ⟨c_t0,c_t1,c_t2,c_t3,c_t4,c_t5,c_t6,c_t7,c_t8,c_t9,c_t10,c_t11,c_t12,c_t13,c_t14,c_t15,c_t16,c_t17⟩) ?_)
   go_wp2_with fail
   refine (LB.out _ HB1.out).mono ?_;rintro e w2 ⟨rfl,hb2⟩;have hz_w2:=hb2.size;simp (disch:=omega) only [xcl hb2] at *;replace z_t:=blt hb2 z_t;replace z_h:=blt hb2 z_h;replace z_k:=blt hb2 z_k;have HB2:=xv hb2 HB1;go_wp2
   go_ret2
   exact ⟨rfl,HB2.out⟩
end
section
open Go.RowKit Go.Shelf
attribute [local go_sem] Oper.semAt_some
theorem omList_err (c:Cfg) (s:SlC) (wa ka va ca:Option Addr) (wc kc vc cc:Nat) (gs ps:List Int) (mv:Int) (ga pa:Option Addr) (gc pc:Nat) (e:Int) (he:e≠0) (w:World) (CK:Hid (∀W,Below w.heap.size w W→Calls Tryz.prog 24 #[.agg #[.int .u8 c.tag,.int .i64 c.most,.int .i64 c.seg,.int .i64 c.least,.int .i64 c.den,.int .i64 c.ll,.int .i64 c.rl,.int .i64 c.rh,.int .i64 c.lh,.int .i64 s.seg,.slice wa s.ws.length wc,.slice ka s.ks.length kc,.slice va s.vs.length vc,.slice ca s.cs.length cc,.int .u64 s.laid,.slice ga gs.length gc,.slice pa ps.length pc,.int .u64 mv]] W (AnsB W (.int .i64 e)))):
    Calls Tryz.prog 21 #[.agg #[.int .u8 c.tag,.int .i64 c.most,.int .i64 c.seg,.int .i64 c.least,.int .i64 c.den,.int .i64 c.ll,.int .i64 c.rl,.int .i64 c.rh,.int .i64 c.lh,.int .i64 s.seg,.slice wa s.ws.length wc,.slice ka s.ks.length kc,.slice va s.vs.length vc,.slice ca s.cs.length cc,.int .u64 s.laid,.slice ga gs.length gc,.slice pa ps.length pc,.int .u64 mv]] w (FreshHd2 w [] (.int .i64 e)):=by
 have g1:(e != 0)=true:=by simpa using he
 go_enter Tryz.func21,Tryz.ntmps21
 go_upto_region 1 with (fail)
 generalize hw0:(w.alloc _)=w0;have hh:=ec18 hw0 (al18 (b:=w.heap.size) xsi);obtain ⟨c_t0,c_t1,c_t2,c_t3,c_t4,c_t5,c_t6,c_t7,c_t8,c_t9,c_t10,c_t11,c_t12,c_t13,c_t14,c_t15,c_t16,c_t17⟩:=hh;have z_t:=elt hw0 (alz (b:=w.heap.size) xsi);have HB0:Hid (Below w.heap.size w w0):=by rw [←hw0];exact hid (br.alloc (by first|exact Nat.le_refl _|(simp;done)|(simp;omega)) _)
 clear hw0;go_wp2_with (refine wpl_load 33 (.tmp 1) _ _ rfl rfl rfl Tryz.underlying33 rfl xk (list18 ⟨c_t0,c_t1,c_t2,c_t3,c_t4,c_t5,c_t6,c_t7,c_t8,c_t9,c_t10,c_t11,c_t12,c_t13,c_t14,c_t15,c_t16,c_t17⟩) ?_)
 go_wp2_with fail
 refine (CK.out _ HB0.out).mono ?_;rintro e w1 ⟨rfl,hb1⟩;have hz_w1:=hb1.size;simp (disch:=omega) only [xcl hb1] at *;replace z_t:=blt hb1 z_t;have HB1:=xv hb1 HB0;clear hb1;go_wp2
 go_ret2
 exact ⟨_,rfl,World.ownsRow_nil _ _ _ _,HB1.out⟩
def FactR.hd1 (base:Nat) (x:Nat) (g:Int):FactR RB:=
  ⟨fun v w=>∃b,v= .slice (some ⟨b,0,none⟩) 1 1∧w.ownsRow base 35 2 (.slice (some ⟨b,0,none⟩) 1 1) 1 [.int .i64 (x:Int),.int .i64 g],fun _ _ _ h ⟨b,e,h1⟩=>⟨b,e,owns_below h1 h⟩⟩
theorem omList_in (c:Cfg) (s:SlC) (wa ka va ca:Option Addr) (wc kc vc cc:Nat) (gs ps:List Int) (mv:Int) (ga pa:Option Addr) (gc pc:Nat) (L H:List (Int×Int)) (m:Nat) (hm:L.length=m) (hH:H.length=m) (hm2:m≤65536) (hg:∀i,i<m→0≤(L.getD i (0,0)).1∧(L.getD i (0,0)).1<gs.length∧H.getD i (0,0)=((L.getD i (0,0)).1,gs.getD (L.getD i (0,0)).1.toNat 0)) (w:World) (hgs:IsRow .i64 w ga gs)
    (CK:Hid (∀W,Below w.heap.size w W→Calls Tryz.prog 24 #[.agg #[.int .u8 c.tag,.int .i64 c.most,.int .i64 c.seg,.int .i64 c.least,.int .i64 c.den,.int .i64 c.ll,.int .i64 c.rl,.int .i64 c.rh,.int .i64 c.lh,.int .i64 s.seg,.slice wa s.ws.length wc,.slice ka s.ks.length kc,.slice va s.vs.length vc,.slice ca s.cs.length cc,.int .u64 s.laid,.slice ga gs.length gc,.slice pa ps.length pc,.int .u64 mv]] W (AnsB W (.int .i64 0)))) (PR:Hid (∀W,Below w.heap.size w W→Calls Tryz.prog 49 #[.agg #[.int .i64 s.seg,.slice wa s.ws.length wc,.slice ka s.ks.length kc,.slice va s.vs.length vc,.slice ca s.cs.length cc,.int .u64 s.laid],.int .i64 0,.int .i64 s.ks.length] W (FreshPr2 W L (.int .i64 0)))):
    Calls Tryz.prog 21 #[.agg #[.int .u8 c.tag,.int .i64 c.most,.int .i64 c.seg,.int .i64 c.least,.int .i64 c.den,.int .i64 c.ll,.int .i64 c.rl,.int .i64 c.rh,.int .i64 c.lh,.int .i64 s.seg,.slice wa s.ws.length wc,.slice ka s.ks.length kc,.slice va s.vs.length vc,.slice ca s.cs.length cc,.int .u64 s.laid,.slice ga gs.length gc,.slice pa ps.length pc,.int .u64 mv]] w (FreshHd2 w H (.int .i64 0)):=by
 have HGG:=hid hg;have HGS:=hid hgs;have HM:=hid hm;have HHL:=hid hH;have HTK:=hid (fun k (h:k<m) x y hx=>take_hd (l:=H) (k:=k) (by rw [hH];exact h) (x:=x) (y:=y) hx);clear hg hgs hm hH;go_enter Tryz.func21,Tryz.ntmps21
 go_upto_region 1 with (fail)
 generalize hw0:(w.alloc _)=w0;have hh:=ec18 hw0 (al18 (b:=w.heap.size) xsi);obtain ⟨c_t0,c_t1,c_t2,c_t3,c_t4,c_t5,c_t6,c_t7,c_t8,c_t9,c_t10,c_t11,c_t12,c_t13,c_t14,c_t15,c_t16,c_t17⟩:=hh;have z_t:=elt hw0 (alz (b:=w.heap.size) xsi);have HB0:Hid (Below w.heap.size w w0):=by rw [←hw0];exact hid (br.alloc (by first|exact Nat.le_refl _|(simp;done)|(simp;omega)) _)
 clear hw0;go_wp2_with (refine wpl_load 33 (.tmp 1) _ _ rfl rfl rfl Tryz.underlying33 rfl xk (list18 ⟨c_t0,c_t1,c_t2,c_t3,c_t4,c_t5,c_t6,c_t7,c_t8,c_t9,c_t10,c_t11,c_t12,c_t13,c_t14,c_t15,c_t16,c_t17⟩) ?_)
 go_wp2_with fail
 refine (CK.out _ HB0.out).mono ?_;rintro e w1 ⟨rfl,hb1⟩;have hz_w1:=hb1.size;simp (disch:=omega) only [xcl hb1] at c_t0 c_t1 c_t2 c_t3 c_t4 c_t5 c_t6 c_t7 c_t8 c_t9 c_t10 c_t11 c_t12 c_t13 c_t14 c_t15 c_t16 c_t17;replace z_t:=blt hb1 z_t;have HB1:=xv hb1 HB0;clear hb1;go_wp2_with fail
 refine (PR.out _ HB1.out).mono ?_;rintro e w2 ⟨v,rfl,ho,hb2⟩;have hz_w2:=hb2.size;simp (disch:=omega) only [xcl hb2] at c_t0 c_t1 c_t2 c_t3 c_t4 c_t5 c_t6 c_t7 c_t8 c_t9 c_t10 c_t11 c_t12 c_t13 c_t14 c_t15 c_t16 c_t17;replace z_t:=blt hb2 z_t;have HB2:=xv hb2 HB1;have hz2:=HB2.out.size;obtain ⟨la,lc,rfl,hi1,-,-,-,-⟩:=row_of_owns ho;rw [HM.out];have HI:=hid hi1;clear hb2 ho hi1;go_wp2
 go_loopg [2,25] m (fun gk hv iv wr=>∃i:Nat,i+gk=m∧iv= .int .i64 i∧Hid (wr.ownsRow w2.heap.size 35 2 hv i ((prI (H.take i)).map (Value.int .i64)))∧Hid (Below w2.heap.size w2 wr))
 case atStart=>exact ⟨0,by omega,rfl,hid (World.ownsRow_nil _ _ _ _),hid br⟩
 case round=>
  obtain ⟨i,hi,rfl,HO,HB⟩:=hrel;obtain ⟨ao,co,rfl,-⟩:=owns_news HO.out;have hbr:=HB.out;have hz_wr:=hbr.size;simp (disch:=omega) only [xcl hbr] at c_t0 c_t1 c_t2 c_t3 c_t4 c_t5 c_t6 c_t7 c_t8 c_t9 c_t10 c_t11 c_t12 c_t13 c_t14 c_t15 c_t16 c_t17;replace z_t:=blt hbr z_t;have HB3:=hid (below_via hbr HB2.out hz2);by_cases hlt:i<m
  · obtain ⟨b1,o1,rfl,c0,c1,z1⟩:=pr_get (HI.out.below hbr) (by rw [HM.out];exact hlt);obtain ⟨hx0,hxg,hhg⟩:=HGG.out i hlt;generalize (L.getD i (0,0)).2=yv at *;generalize hxe:(L.getD i (0,0)).1=xv at *;clear hxe;obtain ⟨xn,rfl⟩:∃xn:Nat,xv=xn:=⟨xv.toNat,by omega⟩
    rw [Int.toNat_natCast] at hhg;have hxn:xn<gs.length:=xo;obtain ⟨gb,go,g,rfl,hgx,hcg0,-⟩:=(HGS.out.below HB3.out).get (i:=xn) hxn;rw [hgx.out] at hhg;have HT:=hid (HTK.out i hlt _ _ hhg);have hlt1:(prI (H.take i)).length=i*2:=by rw [prI_length,List.length_take,HHL.out];omega
    clear hbr hgx hhg;go_upto_region 8 with (fail)
    generalize hwz:wr.alloc _=wz;have hh:=ec18 hwz (au18 (⟨c_t0,c_t1,c_t2,c_t3,c_t4,c_t5,c_t6,c_t7,c_t8,c_t9,c_t10,c_t11,c_t12,c_t13,c_t14,c_t15,c_t16,c_t17⟩));clear c_t0 c_t1 c_t2 c_t3 c_t4 c_t5 c_t6 c_t7 c_t8 c_t9 c_t10 c_t11 c_t12 c_t13 c_t14 c_t15 c_t16 c_t17;obtain ⟨c_t0,c_t1,c_t2,c_t3,c_t4,c_t5,c_t6,c_t7,c_t8,c_t9,c_t10,c_t11,c_t12,c_t13,c_t14,c_t15,c_t16,c_t17⟩:=hh;replace z_t:=elt hwz (auz (z_t));have hh:=ec2 hwz (al2 (b:=wr.heap.size) xsi);obtain ⟨c_p0,c_p1⟩:=hh;have z_p:=elt hwz (alz (b:=wr.heap.size) xsi);have hbz:Below wr.heap.size wr wz:=by rw [←hwz];exact br.alloc (Nat.le_refl _) _
    have hcg:=(hbz.cell (World.block_lt_of_cell? _ _ hcg0)).trans hcg0;have HOz:=hid (owns_below HO.out hbz);have HBz:=xv hbz HB;have hzz:=HBz.out.size;clear hwz hbz hcg0 c0 c1;generalize wr.heap.size=bP at *;refine wp_region_late 12 xk (N:=45) rfl xk xk xdd (fun w'=>Below wz.heap.size wz w') RB (factRAt [.is (.slice ao i co),.is (.pointer (some ⟨bP,0,none⟩)),.is (.int .i64 xn),.is (.pointer (some ⟨w.heap.size,15,none⟩)),.is (.pointer (some ⟨w.heap.size,15,none⟩)),.is (.slice (some ⟨gb,go,none⟩) gs.length gc),.is (.pointer (some ⟨bP,0,none⟩)),.is (.int .i64 xn),.is (.pointer (some ⟨gb,go+xn,none⟩)),.is (.int .i64 g),.is (.agg #[.int .i64 xn,.int .i64 g]),.hd1 wz.heap.size xn g]) (factRAt_stays _) br.drew ?steps ?fin
    case steps=>
     refine ⟨?o0,?o1,?o2,?o3,?o4,?o5,?o6,?o7,?o8,?o9,?o10,?o11,trivial⟩
     case o0=>
      intro u a w' ev hJ hd K hK;have e2:tg a 2= .slice ao i co:=ev 2 xdd;have HK:=hid hK;clear hK ev hd;go_simp;exact HK.out _ _ xzc hJ rfl br
     case o1=>
      intro u a w' ev hJ hd K hK;have e7:tg a 7= .pointer (some ⟨bP,0,none⟩):=ev 7 xdd;have HK:=hid hK;clear hK ev hd;go_simp;exact HK.out _ _ xzc hJ rfl br
     case o2=>
      intro u a w' ev hJ hd K hK;have e30:tg a 30= .pointer (some ⟨bP,0,none⟩):=(ev 30 xdd).trans (hd 1 _ xk rfl);have g0:=(hJ.cell (p:=⟨bP,0,none⟩) (World.block_lt_of_cell? _ _ c_p0)).trans c_p0;have HK:=hid hK;clear hK ev hd;go_simp;exact HK.out _ _ xzc hJ rfl br
     case o3=>
      intro u a w' ev hJ hd K hK;have e1:tg a 1= .pointer (some ⟨w.heap.size,0,none⟩):=ev 1 xdd;have HK:=hid hK;clear hK ev hd;go_simp;exact HK.out _ _ xzc hJ rfl br
     case o4=>
      intro u a w' ev hJ hd K hK;have e32:tg a 32= .pointer (some ⟨w.heap.size,15,none⟩):=(ev 32 xdd).trans (hd 3 _ xk rfl);have HK:=hid hK;clear hK ev hd;go_simp;exact HK.out _ _ xzc hJ rfl br
     case o5=>
      intro u a w' ev hJ hd K hK;have e33:tg a 33= .pointer (some ⟨w.heap.size,15,none⟩):=(ev 33 xdd).trans (hd 4 _ xk rfl);have g0:=(hJ.cell (p:=⟨w.heap.size,15,none⟩) (World.block_lt_of_cell? _ _ c_t15)).trans c_t15;have HK:=hid hK;clear hK ev hd;go_simp;exact HK.out _ _ xzc hJ rfl br
     case o6=>
      intro u a w' ev hJ hd K hK;have e7:tg a 7= .pointer (some ⟨bP,0,none⟩):=ev 7 xdd;have HK:=hid hK;clear hK ev hd;go_simp;exact HK.out _ _ xzc hJ rfl br
     case o7=>
      intro u a w' ev hJ hd K hK;have e35:tg a 35= .pointer (some ⟨bP,0,none⟩):=(ev 35 xdd).trans (hd 6 _ xk rfl);have g0:=(hJ.cell (p:=⟨bP,0,none⟩) (World.block_lt_of_cell? _ _ c_p0)).trans c_p0;have HK:=hid hK;clear hK ev hd;go_simp;exact HK.out _ _ xzc hJ rfl br
     case o8=>
      intro u a w' ev hJ hd K hK;have e34:tg a 34= .slice (some ⟨gb,go,none⟩) gs.length gc:=(ev 34 xdd).trans (hd 5 _ xk rfl);have e36:tg a 36= .int .i64 xn:=(ev 36 xdd).trans (hd 7 _ xk rfl);have HK:=hid hK;clear hK ev hd;go_simp;exact HK.out _ _ xzc hJ rfl br
     case o9=>
      intro u a w' ev hJ hd K hK;have e37:tg a 37= .pointer (some ⟨gb,go+xn,none⟩):=(ev 37 xdd).trans (hd 8 _ xk rfl);have g0:=(hJ.cell (p:=⟨gb,go+xn,none⟩) (World.block_lt_of_cell? _ _ hcg)).trans hcg;have HK:=hid hK;clear hK ev hd;go_simp;exact HK.out _ _ xzc hJ rfl br
     case o10=>
      intro u a w' ev hJ hd K hK;have e31:tg a 31= .int .i64 xn:=(ev 31 xdd).trans (hd 2 _ xk rfl);have e38:tg a 38= .int .i64 g:=(ev 38 xdd).trans (hd 9 _ xk rfl);have e31b:=(Array.getD_eq_getD_getElem? ..).symm.trans e31;have e38b:=(Array.getD_eq_getD_getElem? ..).symm.trans e38;have HK:=hid hK;clear hK ev hd;go_simp;exact HK.out _ _ xzc hJ rfl br
     case o11=>
      intro u a w' ev hJ hd K hK;have e39:tg a 39= .agg #[.int .i64 xn,.int .i64 g]:=(ev 39 xdd).trans (hd 10 _ xk rfl);have e39b:=(Array.getD_eq_getD_getElem? ..).symm.trans e39;have HK:=hid hK;have hzJ:=hJ.size;clear hK ev hd;go_simp;exact HK.out _ _ xzc (hJ.alloc hzJ _) ⟨_,rfl,World.ownsRow_lit w' #[.int .i64 xn,.int .i64 g] 1 hzJ xdd rfl⟩ (br.alloc (Nat.le_refl _) _)
    case fin=>
     intro u wq hJ hG;have h29:u 29= .slice ao i co:=hG 0 _ rfl;obtain ⟨bn,h40,hon⟩:(FactR.hd1 wz.heap.size xn g).holds (u 40) wq:=hG 11 _ rfl;have hz_wq:=hJ.size;simp (disch:=omega) only [xcl hJ] at c_t0 c_t1 c_t2 c_t3 c_t4 c_t5 c_t6 c_t7 c_t8 c_t9 c_t10 c_t11 c_t12 c_t13 c_t14 c_t15 c_t16 c_t17 c_p0 c_p1;replace z_t:=blt hJ z_t;replace z_p:=blt hJ z_p;have HOq:=hid (owns_below HOz.out hJ);have HBq:=hid (below_via hJ HBz.out hzz);have hzq:=HBq.out.size;have HN:=hid (fun ad (had:some (⟨bn,0,none⟩:Addr)=some ad) j u (hj: [Value.int .i64 (xn:Int),.int .i64 g][j]? =some u)=>(by cases had;exact hon.cells rfl j u hj:wq.cell? (ad.add j)=some u));clear hG hJ hon;simp only [mixFrame,mixL,dstsOf,List.take_succ_cons,List.take_zero,List.filterMap_cons,List.filterMap_nil,List.contains_cons,List.contains_nil,Nat.reduceBEq,Bool.or_false,Bool.false_or,Bool.or_true,Bool.true_or,if_true,if_false,Bool.false_eq_true,Nat.reduceAdd,Nat.zero_add,List.drop_succ_cons,List.drop_zero,h29,h40]
     go_wp2_with (at_builtin;refine wpl_append (.tmp 29) (.tmp 40) 53 35 (.agg #[.int .i64 0,.int .i64 0]) 2 16 Tryz.underlying53 info_Hd rfl xdd xdd w2.heap.size _ i _ (some ⟨bn,0,none⟩) 1 1 [.int .i64 xn,.int .i64 g] HOq.out rfl xzc HN.out (by simp [Value.oneCell']) xo hzq rfl rfl rfl rfl ?_;intro v2 w3 ho2 hg2 _
                  obtain ⟨a2,c2,rfl,-⟩:=owns_news ho2;have HO2:=hid ho2;have HG2:=hid hg2;clear ho2 hg2)
     have HB4:=hid (HBq.out.grown HG2.out hzq (fun z hz=>(HOq.out.lt z hz).1));go_roundg (gk-1)
     case measure=>omega
     case rel=>
      refine ⟨i+1,by omega,by go_num,hid ?_,HB4⟩;rw [HT.out,prI_append,List.map_append];exact HO2.out
  · have him:i=m:=xo;subst him;clear hbr;go_wp2
    go_ret2
    refine ⟨_,rfl,?_,HB3.out⟩;have e:=HO.out;rw [List.take_of_length_le (by rw [HHL.out];exact Nat.le_refl _)] at e;rw [HHL.out];exact owns_base e hz2
end
end Go.Proofs.YtjhpblejlchhjaaGreatDoor

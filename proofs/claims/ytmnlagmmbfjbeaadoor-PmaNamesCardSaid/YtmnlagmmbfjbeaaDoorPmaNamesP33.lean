/- Merged: PmAlv. -/
import Derived.Test.YtmnlagmmbfjbeaaDoorPmaNamesP20
import Derived.Test.YtmnlagmmbfjbeaaDoorPmaNamesP21
import Derived.Test.YtmnlagmmbfjbeaaDoorPmaNamesP32
namespace Go.Proofs.YtmnlagmmbfjbeaaDoor
set_option maxRecDepth 100000
set_option maxHeartbeats 40000000
set_option linter.unusedVariables false
set_option linter.unusedSimpArgs false
section
open Go.RowKit Go.Shelf Go.Sort
theorem alive11_core (c:Cfg) (s d g t:SlC) (hsu:U64s s.ws) (hdu:U64s d.ws) (hgu:U64s g.ws) (htu:U64s t.ws) (w:World)
    (CH:Hid (∀W,Calls Tryd.prog 17 #[] W (AnsB W (.agg #[.int .u8 c.tag,.int .i64 c.most,.int .i64 c.seg,.int .i64 c.least,.int .i64 c.den,.int .i64 c.ll,.int .i64 c.rl,.int .i64 c.rh,.int .i64 c.lh]))))
    (NW:Hid (∀W,Calls Tryd.prog 16 #[.agg #[.int .u8 c.tag,.int .i64 c.most,.int .i64 c.seg,.int .i64 c.least,.int .i64 c.den,.int .i64 c.ll,.int .i64 c.rl,.int .i64 c.rh,.int .i64 c.lh]] W (FreshPm2 W c s (.int .i64 0))))
    (P1:Hid (∀(W:World) (a2:SlA),Below w.heap.size w W→SlIn W s a2→s.cs.length≤a2.cc→Calls Tryd.prog 10 #[pmV c s a2,.int .i64 5,.int .i64 50] W (FreshPm2 W c d (.int .i64 0))))
    (P2:Hid (∀(W:World) (a2:SlA),Below w.heap.size w W→SlIn W d a2→d.cs.length≤a2.cc→Calls Tryd.prog 10 #[pmV c d a2,.int .i64 9,.int .i64 90] W (FreshPm2 W c g (.int .i64 0))))
    (D1:Hid (∀(W:World) (a2:SlA),Below w.heap.size w W→SlIn W g a2→g.cs.length≤a2.cc→Calls Tryd.prog 11 #[pmV c g a2,.int .i64 5] W (FreshPm2 W c t (.int .i64 0))))
    (T1:Hid (∀(W:World) (a2:SlA),Below w.heap.size w W→SlIn W g a2→g.cs.length≤a2.cc→Calls Tryd.prog 14 #[pmV c g a2,.int .i64 9,.int .i64 90] W (AnsB W (.bool true))))
    (L1:Hid (∀(W:World) (a2:SlA),Below w.heap.size w W→SlIn W g a2→g.cs.length≤a2.cc→Calls Tryd.prog 12 #[pmV c g a2,.int .i64 6] W (AnsB W (.bool true))))
    (Z1:Hid (∀(W:World) (a2:SlA),Below w.heap.size w W→SlIn W g a2→g.cs.length≤a2.cc→Calls Tryd.prog 15 #[pmV c g a2,.int .i64 2] W (AnsB W (.bool true))))
    (Z2:Hid (∀(W:World) (a2:SlA),Below w.heap.size w W→SlIn W t a2→t.cs.length≤a2.cc→Calls Tryd.prog 15 #[pmV c t a2,.int .i64 1] W (AnsB W (.bool true))))
    (L2:Hid (∀(W:World) (a2:SlA),Below w.heap.size w W→SlIn W t a2→t.cs.length≤a2.cc→Calls Tryd.prog 12 #[pmV c t a2,.int .i64 5] W (AnsB W (.bool true)))):
    Calls Tryd.prog 6 #[] w (AnsB w (.bool true)):=by
 have HU:=hid (And.intro hsu (And.intro hdu (And.intro hgu htu)));clear hsu hdu hgu htu;go_enter Tryd.func6,Tryd.ntmps6
 go_wp2_with fail
 refine (CH.out _).mono ?_;rintro e w1 ⟨rfl,hb1⟩;have hz_w1:=hb1.size;try simp only [World.size_alloc,World.size_setCell] at hz_w1
 have HB1:=hid hb1;clear hb1;go_wp2_with fail
 refine (NW.out _).mono ?_;rintro e w2 ⟨x1,x2,x3,x4,rfl,p1,p2,p3,p4,hb2⟩;have hz_w2:=hb2.size;have HB2:=xv hb2 HB1;obtain ⟨a1,k1,rfl,i1,-,-,-,-⟩:=row_of_owns p1;obtain ⟨a2,k2,rfl,i2,-,-,-,-⟩:=row_of_owns p2;obtain ⟨a3,k3,rfl,i3,-,-,-,-⟩:=row_of_owns p3;obtain ⟨a4,k4,rfl,i4,-,-,hcc,-⟩:=row_of_owns p4;have HIm0:Hid (SlIn w2 s ⟨a1,a2,a3,a4,k1,k2,k3,k4⟩):=hid ⟨i1,i2,i3,i4,HU.out.1⟩;have HCCm0:=hid hcc;have HOm0:=hid (And.intro p1 (And.intro p2 (And.intro p3 p4)));clear hb2 p1 p2 p3 p4 i1 i2 i3 i4 hcc;as_aux_lemma=>
 go_upto_region 2 with (refine wpl_store_new 31 (.tmp 1) (.tmp 10) _ _ rfl rfl rfl rfl xk rfl (by simp [Value.oneCell']) ?_)
 generalize hw3:w2.alloc _=w3;have P_m0:Hid (PB w3 (w2.heap.size) [.int .u8 c.tag,.int .i64 c.most,.int .i64 c.seg,.int .i64 c.least,.int .i64 c.den,.int .i64 c.ll,.int .i64 c.rl,.int .i64 c.rh,.int .i64 c.lh,.int .i64 s.seg,.slice a1 s.ws.length k1,.slice a2 s.ks.length k2,.slice a3 s.vs.length k3,.slice a4 s.cs.length k4,.int .u64 s.laid]):=by rw [←hw3];exact hid (pb_new _ _ _ xsi)
 have Z_m0:w2.heap.size<w3.heap.size:=by rw [←hw3];simp only [World.size_alloc];omega
 have hb3:Below w2.heap.size w2 w3:=by rw [←hw3];exact br.alloc (Nat.le_refl _) _
 have hz3:w2.heap.size<w3.heap.size:=by rw [←hw3];simp
 have HXm0:Hid (BX w3 w2.heap.size 31 [.int .u8 c.tag,.int .i64 c.most,.int .i64 c.seg,.int .i64 c.least,.int .i64 c.den,.int .i64 c.ll,.int .i64 c.rl,.int .i64 c.rh,.int .i64 c.lh,.int .i64 s.seg,.slice a1 s.ws.length k1,.slice a2 s.ks.length k2,.slice a3 s.vs.length k3,.slice a4 s.cs.length k4,.int .u64 s.laid]):=by rw [←hw3];exact hid (bx_new _ _ _)
 have HB3:=xv hb3 HB2;have D2_3:=hid (hb3);clear hw3 hb3;generalize HVm0:Value.agg #[.int .u8 c.tag,.int .i64 c.most,.int .i64 c.seg,.int .i64 c.least,.int .i64 c.den,.int .i64 c.ll,.int .i64 c.rl,.int .i64 c.rh,.int .i64 c.lh,.int .i64 s.seg,.slice a1 s.ws.length k1,.slice a2 s.ks.length k2,.slice a3 s.vs.length k3,.slice a4 s.cs.length k4,.int .u64 s.laid]=v_m0 at ⊢;have HV_m0:=hid HVm0;clear HVm0;as_aux_lemma=>
 have P1':=hid (P1.out w3 ⟨a1,a2,a3,a4,k1,k2,k3,k4⟩ HB3.out (HIm0.out.below D2_3.out) HCCm0.out);dsimp only [pmV] at P1';rw [HV_m0.out] at P1';go_wp2_with (first|refine wpl_loadv 31 (.tmp 1) _ _ v_m0 HV_m0.out rfl rfl rfl Tryd.underlying31 rfl xk P_m0.out ?_)
 go_wp2_with fail
 refine (P1'.out).mono ?_;rintro e w4 ⟨x1,x2,x3,x4,rfl,p1,p2,p3,p4,hb4⟩;replace P_m0:=pbb hb4 P_m0 Z_m0;replace Z_m0:=blt hb4 Z_m0;have hz_w4:=hb4.size;replace HXm0:=hid (bx_below hb4 HXm0.out (bx_lt HXm0.out));have HB4:=xv hb4 HB3;have D2_4:=xv hb4 D2_3;clear D2_3;obtain ⟨b1,j1,rfl,i1,-,-,-,-⟩:=row_of_owns p1;obtain ⟨b2,j2,rfl,i2,-,-,-,-⟩:=row_of_owns p2;obtain ⟨b3,j3,rfl,i3,-,-,-,-⟩:=row_of_owns p3;obtain ⟨b4,j4,rfl,i4,-,-,hcc,-⟩:=row_of_owns p4;have HIm1:Hid (SlIn w4 d ⟨b1,b2,b3,b4,j1,j2,j3,j4⟩):=hid ⟨i1,i2,i3,i4,HU.out.2.1⟩;have HCCm1:=hid hcc;have HOm1:=hid (And.intro p1 (And.intro p2 (And.intro p3 p4)));clear hb4 p1 p2 p3 p4 i1 i2 i3 i4 hcc;clear P1 P1' NW CH HIm0 HCCm0 HOm0;as_aux_lemma=>
 go_upto_region 3 with (refine wpl_store_row 31 (.tmp 1) (.tmp 15) (w2.heap.size) [.int .u8 c.tag,.int .i64 c.most,.int .i64 c.seg,.int .i64 c.least,.int .i64 c.den,.int .i64 c.ll,.int .i64 c.rl,.int .i64 c.rh,.int .i64 c.lh,.int .i64 s.seg,.slice a1 s.ws.length k1,.slice a2 s.ks.length k2,.slice a3 s.vs.length k3,.slice a4 s.cs.length k4,.int .u64 s.laid] [.int .u8 c.tag,.int .i64 c.most,.int .i64 c.seg,.int .i64 c.least,.int .i64 c.den,.int .i64 c.ll,.int .i64 c.rl,.int .i64 c.rh,.int .i64 c.lh,.int .i64 d.seg,.slice b1 d.ws.length j1,.slice b2 d.ks.length j2,.slice b3 d.vs.length j3,.slice b4 d.cs.length j4,.int .u64 d.laid] rfl rfl rfl rfl xk rfl (by simp [Value.oneCell']) HXm0.out ?_;intro w5 hs5 hx5)
 have hz5:=hs5.size;have HB5:=hid (HB4.out.trans (hs5.bel _ xo));have HXm1:=hid hx5;have P_m1:=hid (bx_pb hx5);have Z_m1:=bx_lt hx5;have q1:=owns_heap HOm1.out.1 fun j hj=>hs5.other j (by have:=(HOm1.out.1.lt j hj).1;omega)
 obtain ⟨y1,n1,hy,i1,-⟩:=row_of_owns q1;cases hy;have q2:=owns_heap HOm1.out.2.1 fun j hj=>hs5.other j (by have:=(HOm1.out.2.1.lt j hj).1;omega)
 obtain ⟨y2,n2,hy,i2,-⟩:=row_of_owns q2;cases hy;have q3:=owns_heap HOm1.out.2.2.1 fun j hj=>hs5.other j (by have:=(HOm1.out.2.2.1.lt j hj).1;omega)
 obtain ⟨y3,n3,hy,i3,-⟩:=row_of_owns q3;cases hy;have q4:=owns_heap HOm1.out.2.2.2 fun j hj=>hs5.other j (by have:=(HOm1.out.2.2.2.lt j hj).1;omega)
 obtain ⟨y4,n4,hy,i4,-⟩:=row_of_owns q4;cases hy;replace HOm1:=hid (And.intro q1 (And.intro q2 (And.intro q3 q4)));replace HIm1:Hid (SlIn w5 d ⟨b1,b2,b3,b4,j1,j2,j3,j4⟩):=hid ⟨i1,i2,i3,i4,HU.out.2.1⟩;clear q1 q2 q3 q4 i1 i2 i3 i4 hs5 hx5 P_m0 HXm0 HV_m0;clear D2_4;generalize HVm1:Value.agg #[.int .u8 c.tag,.int .i64 c.most,.int .i64 c.seg,.int .i64 c.least,.int .i64 c.den,.int .i64 c.ll,.int .i64 c.rl,.int .i64 c.rh,.int .i64 c.lh,.int .i64 d.seg,.slice b1 d.ws.length j1,.slice b2 d.ks.length j2,.slice b3 d.vs.length j3,.slice b4 d.cs.length j4,.int .u64 d.laid]=v_m1 at ⊢;have HV_m1:=hid HVm1;clear HVm1;as_aux_lemma=>
 have P2':=hid (P2.out w5 ⟨b1,b2,b3,b4,j1,j2,j3,j4⟩ HB5.out HIm1.out HCCm1.out);dsimp only [pmV] at P2';rw [HV_m1.out] at P2';go_wp2_with (first|refine wpl_loadv 31 (.tmp 1) _ _ v_m1 HV_m1.out rfl rfl rfl Tryd.underlying31 rfl xk P_m1.out ?_)
 go_wp2_with fail
 refine (P2'.out).mono ?_;rintro e w6 ⟨x1,x2,x3,x4,rfl,p1,p2,p3,p4,hb6⟩;replace P_m1:=pbb hb6 P_m1 Z_m1;replace Z_m1:=blt hb6 Z_m1;have hz_w6:=hb6.size;replace HXm1:=hid (bx_below hb6 HXm1.out (bx_lt HXm1.out));have HB6:=xv hb6 HB5;obtain ⟨e1,l1,rfl,i1,-,-,-,-⟩:=row_of_owns p1;obtain ⟨e2,l2,rfl,i2,-,-,-,-⟩:=row_of_owns p2;obtain ⟨e3,l3,rfl,i3,-,-,-,-⟩:=row_of_owns p3;obtain ⟨e4,l4,rfl,i4,-,-,hcc,-⟩:=row_of_owns p4;have HIm2:Hid (SlIn w6 g ⟨e1,e2,e3,e4,l1,l2,l3,l4⟩):=hid ⟨i1,i2,i3,i4,HU.out.2.2.1⟩;have HCCm2:=hid hcc;have HOm2:=hid (And.intro p1 (And.intro p2 (And.intro p3 p4)));clear hb6 p1 p2 p3 p4 i1 i2 i3 i4 hcc;clear P2 P2' HIm1 HCCm1 HOm1;as_aux_lemma=>
 go_upto_region 4 with (refine wpl_store_row 31 (.tmp 1) (.tmp 20) (w2.heap.size) [.int .u8 c.tag,.int .i64 c.most,.int .i64 c.seg,.int .i64 c.least,.int .i64 c.den,.int .i64 c.ll,.int .i64 c.rl,.int .i64 c.rh,.int .i64 c.lh,.int .i64 d.seg,.slice b1 d.ws.length j1,.slice b2 d.ks.length j2,.slice b3 d.vs.length j3,.slice b4 d.cs.length j4,.int .u64 d.laid] [.int .u8 c.tag,.int .i64 c.most,.int .i64 c.seg,.int .i64 c.least,.int .i64 c.den,.int .i64 c.ll,.int .i64 c.rl,.int .i64 c.rh,.int .i64 c.lh,.int .i64 g.seg,.slice e1 g.ws.length l1,.slice e2 g.ks.length l2,.slice e3 g.vs.length l3,.slice e4 g.cs.length l4,.int .u64 g.laid] rfl rfl rfl rfl xk rfl (by simp [Value.oneCell']) HXm1.out ?_;intro w7 hs7 hx7)
 have hz7:=hs7.size;have HB7:=hid (HB6.out.trans (hs7.bel _ xo));have HXm2:=hid hx7;have P_m2:=hid (bx_pb hx7);have Z_m2:=bx_lt hx7;have q1:=owns_heap HOm2.out.1 fun j hj=>hs7.other j (by have:=(HOm2.out.1.lt j hj).1;omega)
 obtain ⟨y1,n1,hy,i1,-⟩:=row_of_owns q1;cases hy;have q2:=owns_heap HOm2.out.2.1 fun j hj=>hs7.other j (by have:=(HOm2.out.2.1.lt j hj).1;omega)
 obtain ⟨y2,n2,hy,i2,-⟩:=row_of_owns q2;cases hy;have q3:=owns_heap HOm2.out.2.2.1 fun j hj=>hs7.other j (by have:=(HOm2.out.2.2.1.lt j hj).1;omega)
 obtain ⟨y3,n3,hy,i3,-⟩:=row_of_owns q3;cases hy;have q4:=owns_heap HOm2.out.2.2.2 fun j hj=>hs7.other j (by have:=(HOm2.out.2.2.2.lt j hj).1;omega)
 obtain ⟨y4,n4,hy,i4,-⟩:=row_of_owns q4;cases hy;replace HOm2:=hid (And.intro q1 (And.intro q2 (And.intro q3 q4)));replace HIm2:Hid (SlIn w7 g ⟨e1,e2,e3,e4,l1,l2,l3,l4⟩):=hid ⟨i1,i2,i3,i4,HU.out.2.2.1⟩;clear q1 q2 q3 q4 i1 i2 i3 i4 hs7 hx7 P_m1 HXm1 HV_m1;generalize HVm2:Value.agg #[.int .u8 c.tag,.int .i64 c.most,.int .i64 c.seg,.int .i64 c.least,.int .i64 c.den,.int .i64 c.ll,.int .i64 c.rl,.int .i64 c.rh,.int .i64 c.lh,.int .i64 g.seg,.slice e1 g.ws.length l1,.slice e2 g.ks.length l2,.slice e3 g.vs.length l3,.slice e4 g.cs.length l4,.int .u64 g.laid]=v_m2 at ⊢;have HV_m2:=hid HVm2;clear HVm2;as_aux_lemma=>
 have D1':=hid (D1.out w7 ⟨e1,e2,e3,e4,l1,l2,l3,l4⟩ HB7.out HIm2.out HCCm2.out);dsimp only [pmV] at D1';rw [HV_m2.out] at D1';go_wp2_with (first|refine wpl_loadv 31 (.tmp 1) _ _ v_m2 HV_m2.out rfl rfl rfl Tryd.underlying31 rfl xk P_m2.out ?_)
 go_wp2_with fail
 refine (D1'.out).mono ?_;rintro e w8 ⟨x1,x2,x3,x4,rfl,p1,p2,p3,p4,hb8⟩;replace P_m2:=pbb hb8 P_m2 Z_m2;replace Z_m2:=blt hb8 Z_m2;have hz_w8:=hb8.size;have HB8:=xv hb8 HB7;have D7_8:=hid (hb8);obtain ⟨f1,n1,rfl,i1,-,-,-,-⟩:=row_of_owns p1;obtain ⟨f2,n2,rfl,i2,-,-,-,-⟩:=row_of_owns p2;obtain ⟨f3,n3,rfl,i3,-,-,-,-⟩:=row_of_owns p3;obtain ⟨f4,n4,rfl,i4,-,-,hcc,-⟩:=row_of_owns p4;have HIx:Hid (SlIn w8 t ⟨f1,f2,f3,f4,n1,n2,n3,n4⟩):=hid ⟨i1,i2,i3,i4,HU.out.2.2.2⟩;have HCCx:=hid hcc;have HOx:=hid (And.intro p1 (And.intro p2 (And.intro p3 p4)));clear hb8 p1 p2 p3 p4 i1 i2 i3 i4 hcc;clear D1 D1';as_aux_lemma=>
 go_upto_region 5 with (refine wpl_store_new 31 (.tmp 5) (.tmp 25) _ _ rfl rfl rfl rfl xk rfl (by simp [Value.oneCell']) ?_)
 generalize hw9:w8.alloc _=w9;replace P_m2:=pbg hw9 P_m2 Z_m2;replace Z_m2:=elt hw9 (auz Z_m2);have P_x:Hid (PB w9 (w8.heap.size) [.int .u8 c.tag,.int .i64 c.most,.int .i64 c.seg,.int .i64 c.least,.int .i64 c.den,.int .i64 c.ll,.int .i64 c.rl,.int .i64 c.rh,.int .i64 c.lh,.int .i64 t.seg,.slice f1 t.ws.length n1,.slice f2 t.ks.length n2,.slice f3 t.vs.length n3,.slice f4 t.cs.length n4,.int .u64 t.laid]):=by rw [←hw9];exact hid (pb_new _ _ _ xsi)
 have Z_x:w8.heap.size<w9.heap.size:=by rw [←hw9];simp only [World.size_alloc];omega
 have hb9:Below w8.heap.size w8 w9:=by rw [←hw9];exact br.alloc (Nat.le_refl _) _
 have hz9:w8.heap.size<w9.heap.size:=by rw [←hw9];simp
 have HXx:Hid (BX w9 w8.heap.size 31 [.int .u8 c.tag,.int .i64 c.most,.int .i64 c.seg,.int .i64 c.least,.int .i64 c.den,.int .i64 c.ll,.int .i64 c.rl,.int .i64 c.rh,.int .i64 c.lh,.int .i64 t.seg,.slice f1 t.ws.length n1,.slice f2 t.ks.length n2,.slice f3 t.vs.length n3,.slice f4 t.cs.length n4,.int .u64 t.laid]):=by rw [←hw9];exact hid (bx_new _ _ _)
 have HB9:=xv hb9 HB8;have D7_9:=xv hb9 D7_8;have D8_9:=hid (hb9);clear D7_8;clear hw9 hb9;generalize HVx:Value.agg #[.int .u8 c.tag,.int .i64 c.most,.int .i64 c.seg,.int .i64 c.least,.int .i64 c.den,.int .i64 c.ll,.int .i64 c.rl,.int .i64 c.rh,.int .i64 c.lh,.int .i64 t.seg,.slice f1 t.ws.length n1,.slice f2 t.ks.length n2,.slice f3 t.vs.length n3,.slice f4 t.cs.length n4,.int .u64 t.laid]=v_x at ⊢;have HV_x:=hid HVx;clear HVx;as_aux_lemma=>
 have T1':=hid (T1.out w9 ⟨e1,e2,e3,e4,l1,l2,l3,l4⟩ HB9.out (HIm2.out.below D7_9.out) HCCm2.out);dsimp only [pmV] at T1';rw [HV_m2.out] at T1';go_wp2_with (first|refine wpl_loadv 31 (.tmp 1) _ _ v_m2 HV_m2.out rfl rfl rfl Tryd.underlying31 rfl xk P_m2.out ?_)
 go_wp2_with fail
 refine (T1'.out).mono ?_;rintro e w10 ⟨rfl,hb10⟩;replace P_m2:=pbb hb10 P_m2 Z_m2;replace Z_m2:=blt hb10 Z_m2;replace P_x:=pbb hb10 P_x Z_x;replace Z_x:=blt hb10 Z_x;have hz_w10:=hb10.size;have HB10:=xv hb10 HB9;have D7_10:=xv hb10 D7_9;have D8_10:=xv hb10 D8_9;clear D7_9 D8_9;clear hb10;clear T1 T1';as_aux_lemma=>
 have L1':=hid (L1.out w10 ⟨e1,e2,e3,e4,l1,l2,l3,l4⟩ HB10.out (HIm2.out.below D7_10.out) HCCm2.out);dsimp only [pmV] at L1';rw [HV_m2.out] at L1';go_wp2_with (first|refine wpl_loadv 31 (.tmp 1) _ _ v_m2 HV_m2.out rfl rfl rfl Tryd.underlying31 rfl xk P_m2.out ?_)
 go_wp2_with fail
 refine (L1'.out).mono ?_;rintro e w11 ⟨rfl,hb11⟩;replace P_m2:=pbb hb11 P_m2 Z_m2;replace Z_m2:=blt hb11 Z_m2;replace P_x:=pbb hb11 P_x Z_x;replace Z_x:=blt hb11 Z_x;have hz_w11:=hb11.size;have HB11:=xv hb11 HB10;have D7_11:=xv hb11 D7_10;have D8_11:=xv hb11 D8_10;clear D7_10 D8_10;clear hb11;clear L1 L1';as_aux_lemma=>
 have Z1':=hid (Z1.out w11 ⟨e1,e2,e3,e4,l1,l2,l3,l4⟩ HB11.out (HIm2.out.below D7_11.out) HCCm2.out);dsimp only [pmV] at Z1';rw [HV_m2.out] at Z1';go_wp2_with (first|refine wpl_loadv 31 (.tmp 1) _ _ v_m2 HV_m2.out rfl rfl rfl Tryd.underlying31 rfl xk P_m2.out ?_)
 go_wp2_with fail
 refine (Z1'.out).mono ?_;rintro e w12 ⟨rfl,hb12⟩;replace P_m2:=pbb hb12 P_m2 Z_m2;replace Z_m2:=blt hb12 Z_m2;replace P_x:=pbb hb12 P_x Z_x;replace Z_x:=blt hb12 Z_x;have hz_w12:=hb12.size;have HB12:=xv hb12 HB11;have D7_12:=xv hb12 D7_11;have D8_12:=xv hb12 D8_11;clear D7_11 D8_11;clear hb12;clear Z1 Z1';as_aux_lemma=>
 have Z2':=hid (Z2.out w12 ⟨f1,f2,f3,f4,n1,n2,n3,n4⟩ HB12.out (HIx.out.below D8_12.out) HCCx.out);dsimp only [pmV] at Z2';rw [HV_x.out] at Z2';go_wp2_with (first|refine wpl_loadv 31 (.tmp 5) _ _ v_x HV_x.out rfl rfl rfl Tryd.underlying31 rfl xk P_x.out ?_)
 go_wp2_with fail
 refine (Z2'.out).mono ?_;rintro e w13 ⟨rfl,hb13⟩;replace P_m2:=pbb hb13 P_m2 Z_m2;replace Z_m2:=blt hb13 Z_m2;replace P_x:=pbb hb13 P_x Z_x;replace Z_x:=blt hb13 Z_x;have hz_w13:=hb13.size;have HB13:=xv hb13 HB12;have D7_13:=xv hb13 D7_12;have D8_13:=xv hb13 D8_12;clear D7_12 D8_12;clear hb13;clear Z2 Z2';as_aux_lemma=>
 have L2':=hid (L2.out w13 ⟨f1,f2,f3,f4,n1,n2,n3,n4⟩ HB13.out (HIx.out.below D8_13.out) HCCx.out);dsimp only [pmV] at L2';rw [HV_x.out] at L2';go_wp2_with (first|refine wpl_loadv 31 (.tmp 5) _ _ v_x HV_x.out rfl rfl rfl Tryd.underlying31 rfl xk P_x.out ?_)
 go_wp2_with fail
 refine (L2'.out).mono ?_;rintro e w14 ⟨rfl,hb14⟩;replace P_m2:=pbb hb14 P_m2 Z_m2;replace Z_m2:=blt hb14 Z_m2;replace P_x:=pbb hb14 P_x Z_x;replace Z_x:=blt hb14 Z_x;have hz_w14:=hb14.size;have HB14:=xv hb14 HB13;have D7_14:=xv hb14 D7_13;have D8_14:=xv hb14 D8_13;clear D7_13 D8_13;clear hb14;clear L2 L2';as_aux_lemma=>
 go_wp2
 go_ret
 exact ⟨rfl,HB14.out⟩
def ch0:SlC:=newC chG
def ch1:SlC:=pPutC chG ch0 5 50
def ch2:SlC:=pPutC chG ch1 9 90
def ch3:SlC:=pDelC chG ch2 5
theorem alive11_ok (w:World) (hT:TabAt w):Calls Tryd.prog 6 #[] w (AnsB w (.bool true)):=by
 have h00:cfE chG=0∧cfMay chG=true:=by decide +kernel
 have h0:cfE chG=0∧newF chG=chG:=⟨h00.1,if_pos h00.2⟩
 have h1:pPutE chG ch0 5=0:=by decide +kernel
 have h2:pPutE chG ch1 9=0:=by decide +kernel
 have h3:pDelE chG ch2 5=0:=by decide +kernel
 have t1:ansB (getPV chG ch2 9) 0 90=true∧ansB (getPV chG ch2 6) 6 0=true∧ansB (szV chG ch2) 0 2=true∧ansB (szV chG ch3) 0 1=true∧ansB (getPV chG ch3 5) 6 0=true:=by decide +kernel
 have n0:=new_nums9 chG;have n1:=pput_nums chG ch0 n0.2.2.2.2 5 50;have n2:=pput_nums chG ch1 n1.2.2.2.2 9 90;have n3:=pdel_nums chG ch2 n2.2.2.2.2 5;have f1:pPutF chG ch0 5=chG:=if_pos h1;have f2:pPutF chG ch1 9=chG:=if_pos h2;have f3:pDelF chG ch2 5=chG:=if_pos h3;change ch0.ws.length≤_∧ch0.ks.length≤_∧_ at n0;change ch1.ws.length≤_∧ch1.ks.length≤_∧_ at n1;change ch2.ws.length≤_∧ch2.ks.length≤_∧_ at n2;change ch3.ws.length≤_∧ch3.ks.length≤_∧_ at n3;exact alive11_core chG ch0 ch1 ch2 ch3 n0.2.2.2.2 n1.2.2.2.2 n2.2.2.2.2 n3.2.2.2.2 w
   (hid fun W=>chap11_ok W)
   (hid fun W=>by have:=pmaNew_ok chG W;rw [h0.1,h0.2] at this;exact this)
   (hid fun W sa hb hi hc=>by have:=pmaPut_ok chG ch0 sa 5 50 xo xo hc W hi (hT.below hb);rw [h1,f1] at this;exact this)
   (hid fun W sa hb hi hc=>by have:=pmaPut_ok chG ch1 sa 9 90 xo xo hc W hi (hT.below hb);rw [h2,f2] at this;exact this)
   (hid fun W sa hb hi hc=>by have:=pmaDel_ok chG ch2 sa 5 xo xo hc W hi (hT.below hb);rw [h3,f3] at this;exact this)
   (hid fun W sa hb hi hc=>by have:=got11_ok chG ch2 sa 9 90 xo xo hc W hi (hT.below hb);rw [t1.1] at this;exact this)
   (hid fun W sa hb hi hc=>by have:=lacks11_ok chG ch2 sa 6 xo xo hc W hi (hT.below hb);rw [t1.2.1] at this;exact this)
   (hid fun W sa hb hi hc=>by have:=size11_ok chG ch2 sa 2 xo xo hc W hi;rw [t1.2.2.1] at this;exact this)
   (hid fun W sa hb hi hc=>by have:=size11_ok chG ch3 sa 1 xo xo hc W hi;rw [t1.2.2.2.1] at this;exact this)
   (hid fun W sa hb hi hc=>by have:=lacks11_ok chG ch3 sa 5 xo xo hc W hi (hT.below hb);rw [t1.2.2.2.2] at this;exact this)
end
end Go.Proofs.YtmnlagmmbfjbeaaDoor

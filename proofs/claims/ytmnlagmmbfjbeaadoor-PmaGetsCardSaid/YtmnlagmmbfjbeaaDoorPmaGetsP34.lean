/- Merged: PmaGets. -/
import Derived.Test.YtmnlagmmbfjbeaaDoorPmaGetsP33
import Derived.Test.YtmnlagmmbfjbeaaDoorPmaGetsP13
namespace Go.Proofs.YtmnlagmmbfjbeaaDoor
set_option maxRecDepth 100000
set_option maxHeartbeats 40000000
set_option linter.unusedVariables false
set_option linter.unusedSimpArgs false
section
open Go.RowKit Go.Shelf Go.Sort
theorem PG_great (c:Cfg) (s:SlC) (wa ka va ca:Option Addr) (wc kc vc cc:Nat) (key val oth:Int) (h:gr4 600 s.ks.length s.vs.length s.ws.length s.cs.length=true) (w:World)
    (AL:Hid (∀(W:World),Below w.heap.size w W→Calls Tryd.prog 6 #[] W (AnsB W (.bool true)))):
    Calls Tryd.prog 3 #[.agg #[.int .u8 c.tag,.int .i64 c.most,.int .i64 c.seg,.int .i64 c.least,.int .i64 c.den,.int .i64 c.ll,.int .i64 c.rl,.int .i64 c.rh,.int .i64 c.lh,.int .i64 s.seg,.slice wa s.ws.length wc,.slice ka s.ks.length kc,.slice va s.vs.length vc,.slice ca s.cs.length cc,.int .u64 s.laid],.int .i64 key,.int .i64 val,.int .i64 oth] w (AnsB w (.bool true)):=by
 have G1:=hid (fun W=>Great11_ok c s ⟨wa,ka,va,ca,wc,kc,vc,cc⟩ 600 W);rw [h] at G1;dsimp only [pmV] at G1;clear h;go_enter Tryd.func3,Tryd.ntmps3
 go_upto_region 1 with (fail)
 generalize hw0:w.alloc _=w0;have P_m:Hid (PB w0 (w.heap.size) [.int .u8 c.tag,.int .i64 c.most,.int .i64 c.seg,.int .i64 c.least,.int .i64 c.den,.int .i64 c.ll,.int .i64 c.rl,.int .i64 c.rh,.int .i64 c.lh,.int .i64 s.seg,.slice wa s.ws.length wc,.slice ka s.ks.length kc,.slice va s.vs.length vc,.slice ca s.cs.length cc,.int .u64 s.laid]):=by rw [←hw0];exact hid (pb_new _ _ _ xsi)
 have Z_m:w.heap.size<w0.heap.size:=by rw [←hw0];simp only [World.size_alloc];omega
 have HB0:Hid (Below w.heap.size w w0):=by rw [←hw0];exact hid (br.alloc (Nat.le_refl _) _)
 have hzp:w.heap.size<w0.heap.size:=Z_m;clear hw0;generalize HVm:Value.agg #[.int .u8 c.tag,.int .i64 c.most,.int .i64 c.seg,.int .i64 c.least,.int .i64 c.den,.int .i64 c.ll,.int .i64 c.rl,.int .i64 c.rh,.int .i64 c.lh,.int .i64 s.seg,.slice wa s.ws.length wc,.slice ka s.ks.length kc,.slice va s.vs.length vc,.slice ca s.cs.length cc,.int .u64 s.laid]=v_m at G1 ⊢;have HV_m:=hid HVm;clear HVm;go_wp2_with fail
 refine (AL.out _ HB0.out).mono ?_;rintro e w1 ⟨rfl,hb1⟩;replace P_m:=pbb hb1 P_m Z_m;replace Z_m:=blt hb1 Z_m;have hz_w1:=hb1.size;have HB1:=xv hb1 HB0;clear hb1;go_wp2_with (first|refine wpl_loadv 31 (.tmp 4) _ _ v_m HV_m.out rfl rfl rfl Tryd.underlying31 rfl xk P_m.out ?_)
 go_wp2_with fail
 refine (G1.out _).mono ?_;rintro e w2 ⟨rfl,hb2⟩;replace P_m:=pbb hb2 P_m Z_m;replace Z_m:=blt hb2 Z_m;have hz_w2:=hb2.size;have HB2:=xv hb2 HB1;clear hb2;go_wp2
 go_ret
 exact ⟨rfl,HB2.out⟩
theorem PG_in (c fc fd:Cfg) (s pc tc:SlC) (wa ka va ca:Option Addr) (wc kc vc cc:Nat) (key val oth n e was f pe te nx ix ny iy cx cy more:Int) (lk tx sx ly sy:Bool) (h:gr4 600 s.ks.length s.vs.length s.ws.length s.cs.length=false) (hpu:U64s pc.ws) (htu:U64s tc.ws) (hn:0≤n∧n≤1000000) (hp:(e≠0∧e=f∧e=pe∧e=te)∨(e=0∧pe=0∧te=0∧lk=false∧n=more∧cx=0∧tx=true∧sx=true∧(oth≠key→nx=was∧ix=f)∧cy=0∧ly=true∧sy=true∧(oth≠key→ny=was∧iy=f))∨(e=0∧pe=9∧te=6∧lk=true∧n=c.most)∨(e=0∧pe=0∧te=6∧lk=true∧more=n+1∧cx=0∧tx=true∧sx=true∧(oth≠key→nx=was∧ix=f))) (w:World)
    (AL:Hid (∀(W:World),Below w.heap.size w W→Calls Tryd.prog 6 #[] W (AnsB W (.bool true))))
    (SZ:Hid (∀(W:World),Below w.heap.size w W→Calls Tryd.prog 8 #[.agg #[.int .u8 c.tag,.int .i64 c.most,.int .i64 c.seg,.int .i64 c.least,.int .i64 c.den,.int .i64 c.ll,.int .i64 c.rl,.int .i64 c.rh,.int .i64 c.lh,.int .i64 s.seg,.slice wa s.ws.length wc,.slice ka s.ks.length kc,.slice va s.vs.length vc,.slice ca s.cs.length cc,.int .u64 s.laid]] W (AnsB W (.tuple #[.int .i64 n,.int .i64 e]))))
    (GO:Hid (∀(W:World),Below w.heap.size w W→Calls Tryd.prog 9 #[.agg #[.int .u8 c.tag,.int .i64 c.most,.int .i64 c.seg,.int .i64 c.least,.int .i64 c.den,.int .i64 c.ll,.int .i64 c.rl,.int .i64 c.rh,.int .i64 c.lh,.int .i64 s.seg,.slice wa s.ws.length wc,.slice ka s.ks.length kc,.slice va s.vs.length vc,.slice ca s.cs.length cc,.int .u64 s.laid],.int .i64 oth] W (AnsB W (.tuple #[.int .i64 was,.int .i64 f]))))
    (PU:Hid (∀(W:World),Below w.heap.size w W→Calls Tryd.prog 10 #[.agg #[.int .u8 c.tag,.int .i64 c.most,.int .i64 c.seg,.int .i64 c.least,.int .i64 c.den,.int .i64 c.ll,.int .i64 c.rl,.int .i64 c.rh,.int .i64 c.lh,.int .i64 s.seg,.slice wa s.ws.length wc,.slice ka s.ks.length kc,.slice va s.vs.length vc,.slice ca s.cs.length cc,.int .u64 s.laid],.int .i64 key,.int .i64 val] W (FreshPm2 W fc pc (.int .i64 pe))))
    (DE:Hid (∀(W:World),Below w.heap.size w W→Calls Tryd.prog 11 #[.agg #[.int .u8 c.tag,.int .i64 c.most,.int .i64 c.seg,.int .i64 c.least,.int .i64 c.den,.int .i64 c.ll,.int .i64 c.rl,.int .i64 c.rh,.int .i64 c.lh,.int .i64 s.seg,.slice wa s.ws.length wc,.slice ka s.ks.length kc,.slice va s.vs.length vc,.slice ca s.cs.length cc,.int .u64 s.laid],.int .i64 key] W (FreshPm2 W fd tc (.int .i64 te))))
    (LK:Hid (∀(W:World),Below w.heap.size w W→Calls Tryd.prog 12 #[.agg #[.int .u8 c.tag,.int .i64 c.most,.int .i64 c.seg,.int .i64 c.least,.int .i64 c.den,.int .i64 c.ll,.int .i64 c.rl,.int .i64 c.rh,.int .i64 c.lh,.int .i64 s.seg,.slice wa s.ws.length wc,.slice ka s.ks.length kc,.slice va s.vs.length vc,.slice ca s.cs.length cc,.int .u64 s.laid],.int .i64 key] W (AnsB W (.bool lk))))
    (GX:Hid (∀(W:World) (a2:SlA),Below w.heap.size w W→SlIn W pc a2→pc.cs.length≤a2.cc→Calls Tryd.prog 9 #[pmV fc pc a2,.int .i64 oth] W (AnsB W (.tuple #[.int .i64 nx,.int .i64 ix]))))
    (CX:Hid (∀(W:World) (a2:SlA),Below w.heap.size w W→SlIn W pc a2→pc.cs.length≤a2.cc→Calls Tryd.prog 13 #[pmV fc pc a2] W (AnsB W (.int .i64 cx))))
    (TX:Hid (∀(W:World) (a2:SlA),Below w.heap.size w W→SlIn W pc a2→pc.cs.length≤a2.cc→Calls Tryd.prog 14 #[pmV fc pc a2,.int .i64 key,.int .i64 val] W (AnsB W (.bool tx))))
    (SX:Hid (∀(W:World) (a2:SlA),Below w.heap.size w W→SlIn W pc a2→pc.cs.length≤a2.cc→Calls Tryd.prog 15 #[pmV fc pc a2,.int .i64 more] W (AnsB W (.bool sx))))
    (GY:Hid (∀(W:World) (a2:SlA),Below w.heap.size w W→SlIn W tc a2→tc.cs.length≤a2.cc→Calls Tryd.prog 9 #[pmV fd tc a2,.int .i64 oth] W (AnsB W (.tuple #[.int .i64 ny,.int .i64 iy]))))
    (CY:Hid (∀(W:World) (a2:SlA),Below w.heap.size w W→SlIn W tc a2→tc.cs.length≤a2.cc→Calls Tryd.prog 13 #[pmV fd tc a2] W (AnsB W (.int .i64 cy))))
    (LY:Hid (∀(W:World) (a2:SlA),Below w.heap.size w W→SlIn W tc a2→tc.cs.length≤a2.cc→Calls Tryd.prog 12 #[pmV fd tc a2,.int .i64 key] W (AnsB W (.bool ly))))
    (SY:Hid (∀(W:World) (a2:SlA),Below w.heap.size w W→SlIn W tc a2→tc.cs.length≤a2.cc→Calls Tryd.prog 15 #[pmV fd tc a2,.int .i64 (n-1)] W (AnsB W (.bool sy)))):
    Calls Tryd.prog 3 #[.agg #[.int .u8 c.tag,.int .i64 c.most,.int .i64 c.seg,.int .i64 c.least,.int .i64 c.den,.int .i64 c.ll,.int .i64 c.rl,.int .i64 c.rh,.int .i64 c.lh,.int .i64 s.seg,.slice wa s.ws.length wc,.slice ka s.ks.length kc,.slice va s.vs.length vc,.slice ca s.cs.length cc,.int .u64 s.laid],.int .i64 key,.int .i64 val,.int .i64 oth] w (AnsB w (.bool true)):=by
 have G1:=hid (fun W=>Great11_ok c s ⟨wa,ka,va,ca,wc,kc,vc,cc⟩ 600 W);rw [h] at G1;dsimp only [pmV] at G1;have HU:=hid (And.intro hpu htu);have HP:=hid hp;have HN:=hid (show IntKind.i64.wrap (n-1)=n-1∧IntKind.i64.wrap (n+1)=n+1 from ⟨IntWalk.i64_in _ xo,IntWalk.i64_in _ xo⟩);clear h hpu htu hn hp;go_enter Tryd.func3,Tryd.ntmps3
 go_upto_region 1 with (fail)
 generalize hw0:w.alloc _=w0;have P_m:Hid (PB w0 (w.heap.size) [.int .u8 c.tag,.int .i64 c.most,.int .i64 c.seg,.int .i64 c.least,.int .i64 c.den,.int .i64 c.ll,.int .i64 c.rl,.int .i64 c.rh,.int .i64 c.lh,.int .i64 s.seg,.slice wa s.ws.length wc,.slice ka s.ks.length kc,.slice va s.vs.length vc,.slice ca s.cs.length cc,.int .u64 s.laid]):=by rw [←hw0];exact hid (pb_new _ _ _ xsi)
 have Z_m:w.heap.size<w0.heap.size:=by rw [←hw0];simp only [World.size_alloc];omega
 have HB0:Hid (Below w.heap.size w w0):=by rw [←hw0];exact hid (br.alloc (Nat.le_refl _) _)
 have hzp:w.heap.size<w0.heap.size:=Z_m;clear hw0;generalize HVm:Value.agg #[.int .u8 c.tag,.int .i64 c.most,.int .i64 c.seg,.int .i64 c.least,.int .i64 c.den,.int .i64 c.ll,.int .i64 c.rl,.int .i64 c.rh,.int .i64 c.lh,.int .i64 s.seg,.slice wa s.ws.length wc,.slice ka s.ks.length kc,.slice va s.vs.length vc,.slice ca s.cs.length cc,.int .u64 s.laid]=v_m at G1 SZ GO PU DE LK ⊢;have HV_m:=hid HVm;clear HVm;as_aux_lemma=>
 go_wp2_with fail
 refine (AL.out _ HB0.out).mono ?_;rintro e w1 ⟨rfl,hb1⟩;replace P_m:=pbb hb1 P_m Z_m;replace Z_m:=blt hb1 Z_m;have hz_w1:=hb1.size;have HB1:=xv hb1 HB0;clear hb1;go_wp2_with (first|refine wpl_loadv 31 (.tmp 4) _ _ v_m HV_m.out rfl rfl rfl Tryd.underlying31 rfl xk P_m.out ?_)
 go_wp2_with fail
 refine (G1.out _).mono ?_;rintro e w2 ⟨rfl,hb2⟩;replace P_m:=pbb hb2 P_m Z_m;replace Z_m:=blt hb2 Z_m;have hz_w2:=hb2.size;have HB2:=xv hb2 HB1;clear hb2;clear AL G1;as_aux_lemma=>
 go_wp2_with (first|refine wpl_loadv 31 (.tmp 4) _ _ v_m HV_m.out rfl rfl rfl Tryd.underlying31 rfl xk P_m.out ?_)
 go_wp2_with fail
 refine (SZ.out _ HB2.out).mono ?_;rintro e w3 ⟨rfl,hb3⟩;replace P_m:=pbb hb3 P_m Z_m;replace Z_m:=blt hb3 Z_m;have hz_w3:=hb3.size;have HB3:=xv hb3 HB2;clear hb3;as_aux_lemma=>
 go_wp2_with (first|refine wpl_loadv 31 (.tmp 4) _ _ v_m HV_m.out rfl rfl rfl Tryd.underlying31 rfl xk P_m.out ?_)
 go_wp2_with fail
 refine (GO.out _ HB3.out).mono ?_;rintro e w4 ⟨rfl,hb4⟩;replace P_m:=pbb hb4 P_m Z_m;replace Z_m:=blt hb4 Z_m;have hz_w4:=hb4.size;have HB4:=xv hb4 HB3;clear hb4;clear SZ GO;as_aux_lemma=>
 go_wp2_with (first|refine wpl_loadv 31 (.tmp 4) _ _ v_m HV_m.out rfl rfl rfl Tryd.underlying31 rfl xk P_m.out ?_)
 go_wp2_with fail
 refine (PU.out _ HB4.out).mono ?_;rintro e w5 ⟨x1,x2,x3,x4,rfl,p1,p2,p3,p4,hb5⟩;replace P_m:=pbb hb5 P_m Z_m;replace Z_m:=blt hb5 Z_m;have hz_w5:=hb5.size;have HB5:=xv hb5 HB4;obtain ⟨a1,k1,rfl,i1,-,-,-,-⟩:=row_of_owns p1;obtain ⟨a2,k2,rfl,i2,-,-,-,-⟩:=row_of_owns p2;obtain ⟨a3,k3,rfl,i3,-,-,-,-⟩:=row_of_owns p3;obtain ⟨a4,k4,rfl,i4,-,-,hcc,-⟩:=row_of_owns p4;have HIx:Hid (SlIn w5 pc ⟨a1,a2,a3,a4,k1,k2,k3,k4⟩):=hid ⟨i1,i2,i3,i4,HU.out.1⟩;have HCCx:=hid hcc;have HOx:=hid (And.intro p1 (And.intro p2 (And.intro p3 p4)));clear hb5 p1 p2 p3 p4 i1 i2 i3 i4 hcc;clear PU;as_aux_lemma=>
 go_upto_region 7 with (refine wpl_store_new 31 (.tmp 14) (.tmp 48) _ _ rfl rfl rfl rfl xk rfl (by simp [Value.oneCell']) ?_)
 generalize hw6:w5.alloc _=w6;replace P_m:=pbg hw6 P_m Z_m;replace Z_m:=elt hw6 (auz Z_m);have P_x:Hid (PB w6 (w5.heap.size) [.int .u8 fc.tag,.int .i64 fc.most,.int .i64 fc.seg,.int .i64 fc.least,.int .i64 fc.den,.int .i64 fc.ll,.int .i64 fc.rl,.int .i64 fc.rh,.int .i64 fc.lh,.int .i64 pc.seg,.slice a1 pc.ws.length k1,.slice a2 pc.ks.length k2,.slice a3 pc.vs.length k3,.slice a4 pc.cs.length k4,.int .u64 pc.laid]):=by rw [←hw6];exact hid (pb_new _ _ _ xsi)
 have Z_x:w5.heap.size<w6.heap.size:=by rw [←hw6];simp only [World.size_alloc];omega
 have hb6:Below w5.heap.size w5 w6:=by rw [←hw6];exact br.alloc (Nat.le_refl _) _
 have hz6:w5.heap.size<w6.heap.size:=by rw [←hw6];simp
 have HXx:Hid (BX w6 w5.heap.size 31 [.int .u8 fc.tag,.int .i64 fc.most,.int .i64 fc.seg,.int .i64 fc.least,.int .i64 fc.den,.int .i64 fc.ll,.int .i64 fc.rl,.int .i64 fc.rh,.int .i64 fc.lh,.int .i64 pc.seg,.slice a1 pc.ws.length k1,.slice a2 pc.ks.length k2,.slice a3 pc.vs.length k3,.slice a4 pc.cs.length k4,.int .u64 pc.laid]):=by rw [←hw6];exact hid (bx_new _ _ _)
 have HB6:=xv hb6 HB5;have D5_6:=hid (hb6);clear hw6 hb6;generalize HVx:Value.agg #[.int .u8 fc.tag,.int .i64 fc.most,.int .i64 fc.seg,.int .i64 fc.least,.int .i64 fc.den,.int .i64 fc.ll,.int .i64 fc.rl,.int .i64 fc.rh,.int .i64 fc.lh,.int .i64 pc.seg,.slice a1 pc.ws.length k1,.slice a2 pc.ks.length k2,.slice a3 pc.vs.length k3,.slice a4 pc.cs.length k4,.int .u64 pc.laid]=v_x at ⊢;have HV_x:=hid HVx;clear HVx;as_aux_lemma=>
 go_wp2_with (first|refine wpl_loadv 31 (.tmp 4) _ _ v_m HV_m.out rfl rfl rfl Tryd.underlying31 rfl xk P_m.out ?_)
 go_wp2_with fail
 refine (DE.out _ HB6.out).mono ?_;rintro e w7 ⟨x1,x2,x3,x4,rfl,p1,p2,p3,p4,hb7⟩;replace P_m:=pbb hb7 P_m Z_m;replace Z_m:=blt hb7 Z_m;replace P_x:=pbb hb7 P_x Z_x;replace Z_x:=blt hb7 Z_x;have hz_w7:=hb7.size;have HB7:=xv hb7 HB6;have D5_7:=xv hb7 D5_6;clear D5_6;obtain ⟨b1,j1,rfl,i1,-,-,-,-⟩:=row_of_owns p1;obtain ⟨b2,j2,rfl,i2,-,-,-,-⟩:=row_of_owns p2;obtain ⟨b3,j3,rfl,i3,-,-,-,-⟩:=row_of_owns p3;obtain ⟨b4,j4,rfl,i4,-,-,hcc,-⟩:=row_of_owns p4;have HIy:Hid (SlIn w7 tc ⟨b1,b2,b3,b4,j1,j2,j3,j4⟩):=hid ⟨i1,i2,i3,i4,HU.out.2⟩;have HCCy:=hid hcc;have HOy:=hid (And.intro p1 (And.intro p2 (And.intro p3 p4)));clear hb7 p1 p2 p3 p4 i1 i2 i3 i4 hcc;clear DE;as_aux_lemma=>
 go_upto_region 8 with (refine wpl_store_new 31 (.tmp 16) (.tmp 54) _ _ rfl rfl rfl rfl xk rfl (by simp [Value.oneCell']) ?_)
 generalize hw8:w7.alloc _=w8;replace P_m:=pbg hw8 P_m Z_m;replace Z_m:=elt hw8 (auz Z_m);replace P_x:=pbg hw8 P_x Z_x;replace Z_x:=elt hw8 (auz Z_x);have P_y:Hid (PB w8 (w7.heap.size) [.int .u8 fd.tag,.int .i64 fd.most,.int .i64 fd.seg,.int .i64 fd.least,.int .i64 fd.den,.int .i64 fd.ll,.int .i64 fd.rl,.int .i64 fd.rh,.int .i64 fd.lh,.int .i64 tc.seg,.slice b1 tc.ws.length j1,.slice b2 tc.ks.length j2,.slice b3 tc.vs.length j3,.slice b4 tc.cs.length j4,.int .u64 tc.laid]):=by rw [←hw8];exact hid (pb_new _ _ _ xsi)
 have Z_y:w7.heap.size<w8.heap.size:=by rw [←hw8];simp only [World.size_alloc];omega
 have hb8:Below w7.heap.size w7 w8:=by rw [←hw8];exact br.alloc (Nat.le_refl _) _
 have hz8:w7.heap.size<w8.heap.size:=by rw [←hw8];simp
 have HXy:Hid (BX w8 w7.heap.size 31 [.int .u8 fd.tag,.int .i64 fd.most,.int .i64 fd.seg,.int .i64 fd.least,.int .i64 fd.den,.int .i64 fd.ll,.int .i64 fd.rl,.int .i64 fd.rh,.int .i64 fd.lh,.int .i64 tc.seg,.slice b1 tc.ws.length j1,.slice b2 tc.ks.length j2,.slice b3 tc.vs.length j3,.slice b4 tc.cs.length j4,.int .u64 tc.laid]):=by rw [←hw8];exact hid (bx_new _ _ _)
 have HB8:=xv hb8 HB7;have D5_8:=xv hb8 D5_7;have D7_8:=hid (hb8);clear D5_7;clear hw8 hb8;generalize HVy:Value.agg #[.int .u8 fd.tag,.int .i64 fd.most,.int .i64 fd.seg,.int .i64 fd.least,.int .i64 fd.den,.int .i64 fd.ll,.int .i64 fd.rl,.int .i64 fd.rh,.int .i64 fd.lh,.int .i64 tc.seg,.slice b1 tc.ws.length j1,.slice b2 tc.ks.length j2,.slice b3 tc.vs.length j3,.slice b4 tc.cs.length j4,.int .u64 tc.laid]=v_y at ⊢;have HV_y:=hid HVy;clear HVy;clear HXx HXy HOx HOy;as_aux_lemma=>
 rcases HP.out with ⟨h1,rfl,rfl,rfl⟩ | ⟨rfl,rfl,rfl,rfl,rfl,rfl,rfl,rfl,hx,rfl,rfl,rfl,hy⟩ | ⟨rfl,rfl,rfl,rfl,rfl⟩ | ⟨rfl,rfl,rfl,rfl,rfl,rfl,rfl,rfl,hx⟩
 · skip
   have b1:(e != 0)=true:=by simpa using h1
   clear h1;go_wp2
   go_ret
   exact ⟨rfl,HB8.out⟩
 · skip
   by_cases ho:oth=key
   · skip
     subst ho;clear hx hy;go_wp2_with (first|refine wpl_loadv 31 (.tmp 4) _ _ v_m HV_m.out rfl rfl rfl Tryd.underlying31 rfl xk P_m.out ?_)
     go_wp2_with fail
     refine (LK.out _ HB8.out).mono ?_;rintro e w9 ⟨rfl,hb9⟩;replace P_m:=pbb hb9 P_m Z_m;replace Z_m:=blt hb9 Z_m;replace P_x:=pbb hb9 P_x Z_x;replace Z_x:=blt hb9 Z_x;replace P_y:=pbb hb9 P_y Z_y;replace Z_y:=blt hb9 Z_y;have hz_w9:=hb9.size;have HB9:=xv hb9 HB8;have D5_9:=xv hb9 D5_8;have D7_9:=xv hb9 D7_8;clear D5_8 D7_8;clear hb9;clear LK;as_aux_lemma=>
     have GX':=hid (GX.out w9 ⟨a1,a2,a3,a4,k1,k2,k3,k4⟩ HB9.out (HIx.out.below D5_9.out) HCCx.out);dsimp only [pmV] at GX';rw [HV_x.out] at GX';go_wp2_with (first|refine wpl_loadv 31 (.tmp 14) _ _ v_x HV_x.out rfl rfl rfl Tryd.underlying31 rfl xk P_x.out ?_)
     go_wp2_with fail
     refine (GX'.out).mono ?_;rintro e w10 ⟨rfl,hb10⟩;replace P_m:=pbb hb10 P_m Z_m;replace Z_m:=blt hb10 Z_m;replace P_x:=pbb hb10 P_x Z_x;replace Z_x:=blt hb10 Z_x;replace P_y:=pbb hb10 P_y Z_y;replace Z_y:=blt hb10 Z_y;have hz_w10:=hb10.size;have HB10:=xv hb10 HB9;have D5_10:=xv hb10 D5_9;have D7_10:=xv hb10 D7_9;clear D5_9 D7_9;clear hb10;clear GX GX';as_aux_lemma=>
     have CX':=hid (CX.out w10 ⟨a1,a2,a3,a4,k1,k2,k3,k4⟩ HB10.out (HIx.out.below D5_10.out) HCCx.out);dsimp only [pmV] at CX';rw [HV_x.out] at CX';go_wp2_with (first|refine wpl_loadv 31 (.tmp 14) _ _ v_x HV_x.out rfl rfl rfl Tryd.underlying31 rfl xk P_x.out ?_)
     go_wp2_with fail
     refine (CX'.out).mono ?_;rintro e w11 ⟨rfl,hb11⟩;replace P_m:=pbb hb11 P_m Z_m;replace Z_m:=blt hb11 Z_m;replace P_x:=pbb hb11 P_x Z_x;replace Z_x:=blt hb11 Z_x;replace P_y:=pbb hb11 P_y Z_y;replace Z_y:=blt hb11 Z_y;have hz_w11:=hb11.size;have HB11:=xv hb11 HB10;have D5_11:=xv hb11 D5_10;have D7_11:=xv hb11 D7_10;clear D5_10 D7_10;clear hb11;clear CX CX';as_aux_lemma=>
     have TX':=hid (TX.out w11 ⟨a1,a2,a3,a4,k1,k2,k3,k4⟩ HB11.out (HIx.out.below D5_11.out) HCCx.out);dsimp only [pmV] at TX';rw [HV_x.out] at TX';go_wp2_with (first|refine wpl_loadv 31 (.tmp 14) _ _ v_x HV_x.out rfl rfl rfl Tryd.underlying31 rfl xk P_x.out ?_)
     go_wp2_with fail
     refine (TX'.out).mono ?_;rintro e w12 ⟨rfl,hb12⟩;replace P_m:=pbb hb12 P_m Z_m;replace Z_m:=blt hb12 Z_m;replace P_x:=pbb hb12 P_x Z_x;replace Z_x:=blt hb12 Z_x;replace P_y:=pbb hb12 P_y Z_y;replace Z_y:=blt hb12 Z_y;have hz_w12:=hb12.size;have HB12:=xv hb12 HB11;have D5_12:=xv hb12 D5_11;have D7_12:=xv hb12 D7_11;clear D5_11 D7_11;clear hb12;clear TX TX';as_aux_lemma=>
     have SX':=hid (SX.out w12 ⟨a1,a2,a3,a4,k1,k2,k3,k4⟩ HB12.out (HIx.out.below D5_12.out) HCCx.out);dsimp only [pmV] at SX';rw [HV_x.out] at SX';go_wp2_with (first|refine wpl_loadv 31 (.tmp 14) _ _ v_x HV_x.out rfl rfl rfl Tryd.underlying31 rfl xk P_x.out ?_)
     go_wp2_with fail
     refine (SX'.out).mono ?_;rintro e w13 ⟨rfl,hb13⟩;replace P_m:=pbb hb13 P_m Z_m;replace Z_m:=blt hb13 Z_m;replace P_x:=pbb hb13 P_x Z_x;replace Z_x:=blt hb13 Z_x;replace P_y:=pbb hb13 P_y Z_y;replace Z_y:=blt hb13 Z_y;have hz_w13:=hb13.size;have HB13:=xv hb13 HB12;have D5_13:=xv hb13 D5_12;have D7_13:=xv hb13 D7_12;clear D5_12 D7_12;clear hb13;clear SX SX';as_aux_lemma=>
     have GY':=hid (GY.out w13 ⟨b1,b2,b3,b4,j1,j2,j3,j4⟩ HB13.out (HIy.out.below D7_13.out) HCCy.out);dsimp only [pmV] at GY';rw [HV_y.out] at GY';go_wp2_with (first|refine wpl_loadv 31 (.tmp 16) _ _ v_y HV_y.out rfl rfl rfl Tryd.underlying31 rfl xk P_y.out ?_)
     go_wp2_with fail
     refine (GY'.out).mono ?_;rintro e w14 ⟨rfl,hb14⟩;replace P_m:=pbb hb14 P_m Z_m;replace Z_m:=blt hb14 Z_m;replace P_x:=pbb hb14 P_x Z_x;replace Z_x:=blt hb14 Z_x;replace P_y:=pbb hb14 P_y Z_y;replace Z_y:=blt hb14 Z_y;have hz_w14:=hb14.size;have HB14:=xv hb14 HB13;have D5_14:=xv hb14 D5_13;have D7_14:=xv hb14 D7_13;clear D5_13 D7_13;clear hb14;clear GY GY';have hw2:=HN.out.1;as_aux_lemma=>
     have CY':=hid (CY.out w14 ⟨b1,b2,b3,b4,j1,j2,j3,j4⟩ HB14.out (HIy.out.below D7_14.out) HCCy.out);dsimp only [pmV] at CY';rw [HV_y.out] at CY';go_wp2_with (first|refine wpl_loadv 31 (.tmp 16) _ _ v_y HV_y.out rfl rfl rfl Tryd.underlying31 rfl xk P_y.out ?_)
     go_wp2_with fail
     refine (CY'.out).mono ?_;rintro e w15 ⟨rfl,hb15⟩;replace P_m:=pbb hb15 P_m Z_m;replace Z_m:=blt hb15 Z_m;replace P_x:=pbb hb15 P_x Z_x;replace Z_x:=blt hb15 Z_x;replace P_y:=pbb hb15 P_y Z_y;replace Z_y:=blt hb15 Z_y;have hz_w15:=hb15.size;have HB15:=xv hb15 HB14;have D5_15:=xv hb15 D5_14;have D7_15:=xv hb15 D7_14;clear D5_14 D7_14;clear hb15;clear CY CY';as_aux_lemma=>
     have LY':=hid (LY.out w15 ⟨b1,b2,b3,b4,j1,j2,j3,j4⟩ HB15.out (HIy.out.below D7_15.out) HCCy.out);dsimp only [pmV] at LY';rw [HV_y.out] at LY';go_wp2_with (first|refine wpl_loadv 31 (.tmp 16) _ _ v_y HV_y.out rfl rfl rfl Tryd.underlying31 rfl xk P_y.out ?_)
     go_wp2_with fail
     refine (LY'.out).mono ?_;rintro e w16 ⟨rfl,hb16⟩;replace P_m:=pbb hb16 P_m Z_m;replace Z_m:=blt hb16 Z_m;replace P_x:=pbb hb16 P_x Z_x;replace Z_x:=blt hb16 Z_x;replace P_y:=pbb hb16 P_y Z_y;replace Z_y:=blt hb16 Z_y;have hz_w16:=hb16.size;have HB16:=xv hb16 HB15;have D5_16:=xv hb16 D5_15;have D7_16:=xv hb16 D7_15;clear D5_15 D7_15;clear hb16;clear LY LY';as_aux_lemma=>
     have SY':=hid (SY.out w16 ⟨b1,b2,b3,b4,j1,j2,j3,j4⟩ HB16.out (HIy.out.below D7_16.out) HCCy.out);dsimp only [pmV] at SY';rw [HV_y.out] at SY';go_wp2_with (first|refine wpl_loadv 31 (.tmp 16) _ _ v_y HV_y.out rfl rfl rfl Tryd.underlying31 rfl xk P_y.out ?_)
     go_wp2_with fail
     refine (SY'.out).mono ?_;rintro e w17 ⟨rfl,hb17⟩;replace P_m:=pbb hb17 P_m Z_m;replace Z_m:=blt hb17 Z_m;replace P_x:=pbb hb17 P_x Z_x;replace Z_x:=blt hb17 Z_x;replace P_y:=pbb hb17 P_y Z_y;replace Z_y:=blt hb17 Z_y;have hz_w17:=hb17.size;have HB17:=xv hb17 HB16;have D5_17:=xv hb17 D5_16;have D7_17:=xv hb17 D7_16;clear D5_16 D7_16;clear hb17;clear SY SY';as_aux_lemma=>
     go_wp2
     go_ret
     exact ⟨rfl,HB17.out⟩
   · skip
     obtain ⟨rfl,rfl⟩:=hx ho;obtain ⟨h7,h8⟩:=hy ho;subst h7 h8;have bo:(oth != key)=true:=by simpa using ho
     clear ho hx hy;go_wp2_with (first|refine wpl_loadv 31 (.tmp 4) _ _ v_m HV_m.out rfl rfl rfl Tryd.underlying31 rfl xk P_m.out ?_)
     go_wp2_with fail
     refine (LK.out _ HB8.out).mono ?_;rintro e w9 ⟨rfl,hb9⟩;replace P_m:=pbb hb9 P_m Z_m;replace Z_m:=blt hb9 Z_m;replace P_x:=pbb hb9 P_x Z_x;replace Z_x:=blt hb9 Z_x;replace P_y:=pbb hb9 P_y Z_y;replace Z_y:=blt hb9 Z_y;have hz_w9:=hb9.size;have HB9:=xv hb9 HB8;have D5_9:=xv hb9 D5_8;have D7_9:=xv hb9 D7_8;clear D5_8 D7_8;clear hb9;clear LK;as_aux_lemma=>
     have GX':=hid (GX.out w9 ⟨a1,a2,a3,a4,k1,k2,k3,k4⟩ HB9.out (HIx.out.below D5_9.out) HCCx.out);dsimp only [pmV] at GX';rw [HV_x.out] at GX';go_wp2_with (first|refine wpl_loadv 31 (.tmp 14) _ _ v_x HV_x.out rfl rfl rfl Tryd.underlying31 rfl xk P_x.out ?_)
     go_wp2_with fail
     refine (GX'.out).mono ?_;rintro e w10 ⟨rfl,hb10⟩;replace P_m:=pbb hb10 P_m Z_m;replace Z_m:=blt hb10 Z_m;replace P_x:=pbb hb10 P_x Z_x;replace Z_x:=blt hb10 Z_x;replace P_y:=pbb hb10 P_y Z_y;replace Z_y:=blt hb10 Z_y;have hz_w10:=hb10.size;have HB10:=xv hb10 HB9;have D5_10:=xv hb10 D5_9;have D7_10:=xv hb10 D7_9;clear D5_9 D7_9;clear hb10;clear GX GX';as_aux_lemma=>
     have CX':=hid (CX.out w10 ⟨a1,a2,a3,a4,k1,k2,k3,k4⟩ HB10.out (HIx.out.below D5_10.out) HCCx.out);dsimp only [pmV] at CX';rw [HV_x.out] at CX';go_wp2_with (first|refine wpl_loadv 31 (.tmp 14) _ _ v_x HV_x.out rfl rfl rfl Tryd.underlying31 rfl xk P_x.out ?_)
     go_wp2_with fail
     refine (CX'.out).mono ?_;rintro e w11 ⟨rfl,hb11⟩;replace P_m:=pbb hb11 P_m Z_m;replace Z_m:=blt hb11 Z_m;replace P_x:=pbb hb11 P_x Z_x;replace Z_x:=blt hb11 Z_x;replace P_y:=pbb hb11 P_y Z_y;replace Z_y:=blt hb11 Z_y;have hz_w11:=hb11.size;have HB11:=xv hb11 HB10;have D5_11:=xv hb11 D5_10;have D7_11:=xv hb11 D7_10;clear D5_10 D7_10;clear hb11;clear CX CX';as_aux_lemma=>
     have TX':=hid (TX.out w11 ⟨a1,a2,a3,a4,k1,k2,k3,k4⟩ HB11.out (HIx.out.below D5_11.out) HCCx.out);dsimp only [pmV] at TX';rw [HV_x.out] at TX';go_wp2_with (first|refine wpl_loadv 31 (.tmp 14) _ _ v_x HV_x.out rfl rfl rfl Tryd.underlying31 rfl xk P_x.out ?_)
     go_wp2_with fail
     refine (TX'.out).mono ?_;rintro e w12 ⟨rfl,hb12⟩;replace P_m:=pbb hb12 P_m Z_m;replace Z_m:=blt hb12 Z_m;replace P_x:=pbb hb12 P_x Z_x;replace Z_x:=blt hb12 Z_x;replace P_y:=pbb hb12 P_y Z_y;replace Z_y:=blt hb12 Z_y;have hz_w12:=hb12.size;have HB12:=xv hb12 HB11;have D5_12:=xv hb12 D5_11;have D7_12:=xv hb12 D7_11;clear D5_11 D7_11;clear hb12;clear TX TX';as_aux_lemma=>
     have SX':=hid (SX.out w12 ⟨a1,a2,a3,a4,k1,k2,k3,k4⟩ HB12.out (HIx.out.below D5_12.out) HCCx.out);dsimp only [pmV] at SX';rw [HV_x.out] at SX';go_wp2_with (first|refine wpl_loadv 31 (.tmp 14) _ _ v_x HV_x.out rfl rfl rfl Tryd.underlying31 rfl xk P_x.out ?_)
     go_wp2_with fail
     refine (SX'.out).mono ?_;rintro e w13 ⟨rfl,hb13⟩;replace P_m:=pbb hb13 P_m Z_m;replace Z_m:=blt hb13 Z_m;replace P_x:=pbb hb13 P_x Z_x;replace Z_x:=blt hb13 Z_x;replace P_y:=pbb hb13 P_y Z_y;replace Z_y:=blt hb13 Z_y;have hz_w13:=hb13.size;have HB13:=xv hb13 HB12;have D5_13:=xv hb13 D5_12;have D7_13:=xv hb13 D7_12;clear D5_12 D7_12;clear hb13;clear SX SX';as_aux_lemma=>
     have GY':=hid (GY.out w13 ⟨b1,b2,b3,b4,j1,j2,j3,j4⟩ HB13.out (HIy.out.below D7_13.out) HCCy.out);dsimp only [pmV] at GY';rw [HV_y.out] at GY';go_wp2_with (first|refine wpl_loadv 31 (.tmp 16) _ _ v_y HV_y.out rfl rfl rfl Tryd.underlying31 rfl xk P_y.out ?_)
     go_wp2_with fail
     refine (GY'.out).mono ?_;rintro e w14 ⟨rfl,hb14⟩;replace P_m:=pbb hb14 P_m Z_m;replace Z_m:=blt hb14 Z_m;replace P_x:=pbb hb14 P_x Z_x;replace Z_x:=blt hb14 Z_x;replace P_y:=pbb hb14 P_y Z_y;replace Z_y:=blt hb14 Z_y;have hz_w14:=hb14.size;have HB14:=xv hb14 HB13;have D5_14:=xv hb14 D5_13;have D7_14:=xv hb14 D7_13;clear D5_13 D7_13;clear hb14;clear GY GY';have hw2:=HN.out.1;as_aux_lemma=>
     have CY':=hid (CY.out w14 ⟨b1,b2,b3,b4,j1,j2,j3,j4⟩ HB14.out (HIy.out.below D7_14.out) HCCy.out);dsimp only [pmV] at CY';rw [HV_y.out] at CY';go_wp2_with (first|refine wpl_loadv 31 (.tmp 16) _ _ v_y HV_y.out rfl rfl rfl Tryd.underlying31 rfl xk P_y.out ?_)
     go_wp2_with fail
     refine (CY'.out).mono ?_;rintro e w15 ⟨rfl,hb15⟩;replace P_m:=pbb hb15 P_m Z_m;replace Z_m:=blt hb15 Z_m;replace P_x:=pbb hb15 P_x Z_x;replace Z_x:=blt hb15 Z_x;replace P_y:=pbb hb15 P_y Z_y;replace Z_y:=blt hb15 Z_y;have hz_w15:=hb15.size;have HB15:=xv hb15 HB14;have D5_15:=xv hb15 D5_14;have D7_15:=xv hb15 D7_14;clear D5_14 D7_14;clear hb15;clear CY CY';as_aux_lemma=>
     have LY':=hid (LY.out w15 ⟨b1,b2,b3,b4,j1,j2,j3,j4⟩ HB15.out (HIy.out.below D7_15.out) HCCy.out);dsimp only [pmV] at LY';rw [HV_y.out] at LY';go_wp2_with (first|refine wpl_loadv 31 (.tmp 16) _ _ v_y HV_y.out rfl rfl rfl Tryd.underlying31 rfl xk P_y.out ?_)
     go_wp2_with fail
     refine (LY'.out).mono ?_;rintro e w16 ⟨rfl,hb16⟩;replace P_m:=pbb hb16 P_m Z_m;replace Z_m:=blt hb16 Z_m;replace P_x:=pbb hb16 P_x Z_x;replace Z_x:=blt hb16 Z_x;replace P_y:=pbb hb16 P_y Z_y;replace Z_y:=blt hb16 Z_y;have hz_w16:=hb16.size;have HB16:=xv hb16 HB15;have D5_16:=xv hb16 D5_15;have D7_16:=xv hb16 D7_15;clear D5_15 D7_15;clear hb16;clear LY LY';as_aux_lemma=>
     have SY':=hid (SY.out w16 ⟨b1,b2,b3,b4,j1,j2,j3,j4⟩ HB16.out (HIy.out.below D7_16.out) HCCy.out);dsimp only [pmV] at SY';rw [HV_y.out] at SY';go_wp2_with (first|refine wpl_loadv 31 (.tmp 16) _ _ v_y HV_y.out rfl rfl rfl Tryd.underlying31 rfl xk P_y.out ?_)
     go_wp2_with fail
     refine (SY'.out).mono ?_;rintro e w17 ⟨rfl,hb17⟩;replace P_m:=pbb hb17 P_m Z_m;replace Z_m:=blt hb17 Z_m;replace P_x:=pbb hb17 P_x Z_x;replace Z_x:=blt hb17 Z_x;replace P_y:=pbb hb17 P_y Z_y;replace Z_y:=blt hb17 Z_y;have hz_w17:=hb17.size;have HB17:=xv hb17 HB16;have D5_17:=xv hb17 D5_16;have D7_17:=xv hb17 D7_16;clear D5_16 D7_16;clear hb17;clear SY SY';as_aux_lemma=>
     go_wp2
     go_ret
     exact ⟨rfl,HB17.out⟩
 · skip
   have c_m1:=P_m.out 1 _ rfl;go_wp2_with (first|refine wpl_loadv 31 (.tmp 4) _ _ v_m HV_m.out rfl rfl rfl Tryd.underlying31 rfl xk P_m.out ?_)
   go_wp2_with fail
   refine (LK.out _ HB8.out).mono ?_;rintro e w9 ⟨rfl,hb9⟩;replace P_m:=pbb hb9 P_m Z_m;replace Z_m:=blt hb9 Z_m;replace P_x:=pbb hb9 P_x Z_x;replace Z_x:=blt hb9 Z_x;replace P_y:=pbb hb9 P_y Z_y;replace Z_y:=blt hb9 Z_y;have hz_w9:=hb9.size;have HB9:=xv hb9 HB8;have D5_9:=xv hb9 D5_8;have D7_9:=xv hb9 D7_8;clear D5_8 D7_8;clear hb9;clear LK;replace c_m1:=P_m.out 1 _ rfl;as_aux_lemma=>
   go_wp2
   go_ret
   exact ⟨rfl,HB9.out⟩
 · skip
   by_cases ho:oth=key
   · skip
     subst ho;clear hx;go_wp2_with (first|refine wpl_loadv 31 (.tmp 4) _ _ v_m HV_m.out rfl rfl rfl Tryd.underlying31 rfl xk P_m.out ?_)
     go_wp2_with fail
     refine (LK.out _ HB8.out).mono ?_;rintro e w9 ⟨rfl,hb9⟩;replace P_m:=pbb hb9 P_m Z_m;replace Z_m:=blt hb9 Z_m;replace P_x:=pbb hb9 P_x Z_x;replace Z_x:=blt hb9 Z_x;replace P_y:=pbb hb9 P_y Z_y;replace Z_y:=blt hb9 Z_y;have hz_w9:=hb9.size;have HB9:=xv hb9 HB8;have D5_9:=xv hb9 D5_8;have D7_9:=xv hb9 D7_8;clear D5_8 D7_8;clear hb9;clear LK;as_aux_lemma=>
     have GX':=hid (GX.out w9 ⟨a1,a2,a3,a4,k1,k2,k3,k4⟩ HB9.out (HIx.out.below D5_9.out) HCCx.out);dsimp only [pmV] at GX';rw [HV_x.out] at GX';go_wp2_with (first|refine wpl_loadv 31 (.tmp 14) _ _ v_x HV_x.out rfl rfl rfl Tryd.underlying31 rfl xk P_x.out ?_)
     go_wp2_with fail
     refine (GX'.out).mono ?_;rintro e w10 ⟨rfl,hb10⟩;replace P_m:=pbb hb10 P_m Z_m;replace Z_m:=blt hb10 Z_m;replace P_x:=pbb hb10 P_x Z_x;replace Z_x:=blt hb10 Z_x;replace P_y:=pbb hb10 P_y Z_y;replace Z_y:=blt hb10 Z_y;have hz_w10:=hb10.size;have HB10:=xv hb10 HB9;have D5_10:=xv hb10 D5_9;have D7_10:=xv hb10 D7_9;clear D5_9 D7_9;clear hb10;clear GX GX';have hw1:=HN.out.2;as_aux_lemma=>
     have CX':=hid (CX.out w10 ⟨a1,a2,a3,a4,k1,k2,k3,k4⟩ HB10.out (HIx.out.below D5_10.out) HCCx.out);dsimp only [pmV] at CX';rw [HV_x.out] at CX';go_wp2_with (first|refine wpl_loadv 31 (.tmp 14) _ _ v_x HV_x.out rfl rfl rfl Tryd.underlying31 rfl xk P_x.out ?_)
     go_wp2_with fail
     refine (CX'.out).mono ?_;rintro e w11 ⟨rfl,hb11⟩;replace P_m:=pbb hb11 P_m Z_m;replace Z_m:=blt hb11 Z_m;replace P_x:=pbb hb11 P_x Z_x;replace Z_x:=blt hb11 Z_x;replace P_y:=pbb hb11 P_y Z_y;replace Z_y:=blt hb11 Z_y;have hz_w11:=hb11.size;have HB11:=xv hb11 HB10;have D5_11:=xv hb11 D5_10;have D7_11:=xv hb11 D7_10;clear D5_10 D7_10;clear hb11;clear CX CX';as_aux_lemma=>
     have TX':=hid (TX.out w11 ⟨a1,a2,a3,a4,k1,k2,k3,k4⟩ HB11.out (HIx.out.below D5_11.out) HCCx.out);dsimp only [pmV] at TX';rw [HV_x.out] at TX';go_wp2_with (first|refine wpl_loadv 31 (.tmp 14) _ _ v_x HV_x.out rfl rfl rfl Tryd.underlying31 rfl xk P_x.out ?_)
     go_wp2_with fail
     refine (TX'.out).mono ?_;rintro e w12 ⟨rfl,hb12⟩;replace P_m:=pbb hb12 P_m Z_m;replace Z_m:=blt hb12 Z_m;replace P_x:=pbb hb12 P_x Z_x;replace Z_x:=blt hb12 Z_x;replace P_y:=pbb hb12 P_y Z_y;replace Z_y:=blt hb12 Z_y;have hz_w12:=hb12.size;have HB12:=xv hb12 HB11;have D5_12:=xv hb12 D5_11;have D7_12:=xv hb12 D7_11;clear D5_11 D7_11;clear hb12;clear TX TX';as_aux_lemma=>
     have SX':=hid (SX.out w12 ⟨a1,a2,a3,a4,k1,k2,k3,k4⟩ HB12.out (HIx.out.below D5_12.out) HCCx.out);dsimp only [pmV] at SX';rw [HV_x.out] at SX';go_wp2_with (first|refine wpl_loadv 31 (.tmp 14) _ _ v_x HV_x.out rfl rfl rfl Tryd.underlying31 rfl xk P_x.out ?_)
     go_wp2_with fail
     refine (SX'.out).mono ?_;rintro e w13 ⟨rfl,hb13⟩;replace P_m:=pbb hb13 P_m Z_m;replace Z_m:=blt hb13 Z_m;replace P_x:=pbb hb13 P_x Z_x;replace Z_x:=blt hb13 Z_x;replace P_y:=pbb hb13 P_y Z_y;replace Z_y:=blt hb13 Z_y;have hz_w13:=hb13.size;have HB13:=xv hb13 HB12;have D5_13:=xv hb13 D5_12;have D7_13:=xv hb13 D7_12;clear D5_12 D7_12;clear hb13;clear SX SX';as_aux_lemma=>
     go_wp2
     go_ret
     exact ⟨rfl,HB13.out⟩
   · skip
     obtain ⟨rfl,rfl⟩:=hx ho;have bo:(oth != key)=true:=by simpa using ho
     clear ho hx;go_wp2_with (first|refine wpl_loadv 31 (.tmp 4) _ _ v_m HV_m.out rfl rfl rfl Tryd.underlying31 rfl xk P_m.out ?_)
     go_wp2_with fail
     refine (LK.out _ HB8.out).mono ?_;rintro e w9 ⟨rfl,hb9⟩;replace P_m:=pbb hb9 P_m Z_m;replace Z_m:=blt hb9 Z_m;replace P_x:=pbb hb9 P_x Z_x;replace Z_x:=blt hb9 Z_x;replace P_y:=pbb hb9 P_y Z_y;replace Z_y:=blt hb9 Z_y;have hz_w9:=hb9.size;have HB9:=xv hb9 HB8;have D5_9:=xv hb9 D5_8;have D7_9:=xv hb9 D7_8;clear D5_8 D7_8;clear hb9;clear LK;as_aux_lemma=>
     have GX':=hid (GX.out w9 ⟨a1,a2,a3,a4,k1,k2,k3,k4⟩ HB9.out (HIx.out.below D5_9.out) HCCx.out);dsimp only [pmV] at GX';rw [HV_x.out] at GX';go_wp2_with (first|refine wpl_loadv 31 (.tmp 14) _ _ v_x HV_x.out rfl rfl rfl Tryd.underlying31 rfl xk P_x.out ?_)
     go_wp2_with fail
     refine (GX'.out).mono ?_;rintro e w10 ⟨rfl,hb10⟩;replace P_m:=pbb hb10 P_m Z_m;replace Z_m:=blt hb10 Z_m;replace P_x:=pbb hb10 P_x Z_x;replace Z_x:=blt hb10 Z_x;replace P_y:=pbb hb10 P_y Z_y;replace Z_y:=blt hb10 Z_y;have hz_w10:=hb10.size;have HB10:=xv hb10 HB9;have D5_10:=xv hb10 D5_9;have D7_10:=xv hb10 D7_9;clear D5_9 D7_9;clear hb10;clear GX GX';have hw1:=HN.out.2;as_aux_lemma=>
     have CX':=hid (CX.out w10 ⟨a1,a2,a3,a4,k1,k2,k3,k4⟩ HB10.out (HIx.out.below D5_10.out) HCCx.out);dsimp only [pmV] at CX';rw [HV_x.out] at CX';go_wp2_with (first|refine wpl_loadv 31 (.tmp 14) _ _ v_x HV_x.out rfl rfl rfl Tryd.underlying31 rfl xk P_x.out ?_)
     go_wp2_with fail
     refine (CX'.out).mono ?_;rintro e w11 ⟨rfl,hb11⟩;replace P_m:=pbb hb11 P_m Z_m;replace Z_m:=blt hb11 Z_m;replace P_x:=pbb hb11 P_x Z_x;replace Z_x:=blt hb11 Z_x;replace P_y:=pbb hb11 P_y Z_y;replace Z_y:=blt hb11 Z_y;have hz_w11:=hb11.size;have HB11:=xv hb11 HB10;have D5_11:=xv hb11 D5_10;have D7_11:=xv hb11 D7_10;clear D5_10 D7_10;clear hb11;clear CX CX';as_aux_lemma=>
     have TX':=hid (TX.out w11 ⟨a1,a2,a3,a4,k1,k2,k3,k4⟩ HB11.out (HIx.out.below D5_11.out) HCCx.out);dsimp only [pmV] at TX';rw [HV_x.out] at TX';go_wp2_with (first|refine wpl_loadv 31 (.tmp 14) _ _ v_x HV_x.out rfl rfl rfl Tryd.underlying31 rfl xk P_x.out ?_)
     go_wp2_with fail
     refine (TX'.out).mono ?_;rintro e w12 ⟨rfl,hb12⟩;replace P_m:=pbb hb12 P_m Z_m;replace Z_m:=blt hb12 Z_m;replace P_x:=pbb hb12 P_x Z_x;replace Z_x:=blt hb12 Z_x;replace P_y:=pbb hb12 P_y Z_y;replace Z_y:=blt hb12 Z_y;have hz_w12:=hb12.size;have HB12:=xv hb12 HB11;have D5_12:=xv hb12 D5_11;have D7_12:=xv hb12 D7_11;clear D5_11 D7_11;clear hb12;clear TX TX';as_aux_lemma=>
     have SX':=hid (SX.out w12 ⟨a1,a2,a3,a4,k1,k2,k3,k4⟩ HB12.out (HIx.out.below D5_12.out) HCCx.out);dsimp only [pmV] at SX';rw [HV_x.out] at SX';go_wp2_with (first|refine wpl_loadv 31 (.tmp 14) _ _ v_x HV_x.out rfl rfl rfl Tryd.underlying31 rfl xk P_x.out ?_)
     go_wp2_with fail
     refine (SX'.out).mono ?_;rintro e w13 ⟨rfl,hb13⟩;replace P_m:=pbb hb13 P_m Z_m;replace Z_m:=blt hb13 Z_m;replace P_x:=pbb hb13 P_x Z_x;replace Z_x:=blt hb13 Z_x;replace P_y:=pbb hb13 P_y Z_y;replace Z_y:=blt hb13 Z_y;have hz_w13:=hb13.size;have HB13:=xv hb13 HB12;have D5_13:=xv hb13 D5_12;have D7_13:=xv hb13 D7_12;clear D5_12 D7_12;clear hb13;clear SX SX';as_aux_lemma=>
     go_wp2
     go_ret
     exact ⟨rfl,HB13.out⟩
end
end Go.Proofs.YtmnlagmmbfjbeaaDoor

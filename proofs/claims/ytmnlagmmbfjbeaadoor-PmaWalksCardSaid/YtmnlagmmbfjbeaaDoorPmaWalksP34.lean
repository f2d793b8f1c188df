/- Merged: PmaWalks, DenW, GapRes, PmGtPl. -/
import Derived.Test.YtmnlagmmbfjbeaaDoorPmaWalksP33
import Derived.Test.YtmnlagmmbfjbeaaDoorPmaWalksP31
import Derived.Test.YtmnlagmmbfjbeaaDoorPmaWalksP22
namespace Go.Proofs.YtmnlagmmbfjbeaaDoor
set_option maxRecDepth 100000
set_option maxHeartbeats 40000000
set_option linter.unusedVariables false
set_option linter.unusedSimpArgs false
section
open Go.RowKit Go.Shelf Go.Sort
theorem mul_bd' {step:Int} (hs: -1000≤step∧step≤1000) {i:Nat} (hi:i≤80): -80000≤(i:Int)*step∧(i:Int)*step≤80000:=by
 have h0:(0:Int)≤(i:Int):=Int.natCast_nonneg i;have h1:(i:Int)*step≤(i:Int)*1000:=Int.mul_le_mul_of_nonneg_left hs.2 h0;have h2:(i:Int)*(-1000)≤(i:Int)*step:=Int.mul_le_mul_of_nonneg_left hs.1 h0;omega
theorem PW_in (c fn:Cfg) (sn:SlC) (first step e:Int) (many:Nat) (hnu:U64s sn.ws) (hm8:many≤255) (I:Nat→SlC→Prop) (nx:Nat→SlC→SlC) (hI0:e=0→step≠0→c=fn∧I 0 sn) (hnx:∀i d,I i d→(i:Int)<c.most→I (i+1) (nx i d)) (hIu:∀i d,I i d→U64s d.ws∧(i:Int)≤c.most) (w:World)
    (AL:Hid (∀(W:World),Below w.heap.size w W→Calls Tryd.prog 6 #[] W (AnsB W (.bool true))))
    (NW:Hid (∀(W:World),Below w.heap.size w W→Calls Tryd.prog 16 #[.agg #[.int .u8 c.tag,.int .i64 c.most,.int .i64 c.seg,.int .i64 c.least,.int .i64 c.den,.int .i64 c.ll,.int .i64 c.rl,.int .i64 c.rh,.int .i64 c.lh]] W (FreshPm2 W fn sn (.int .i64 e))))
    (PY:Hid (∀(W:World) (d:SlC) (a:SlA) (i:Nat),Below w.heap.size w W→I i d→SlIn W d a→d.cs.length≤a.cc→i<many→(i:Int)<c.most→Calls Tryd.prog 10 #[pmV c d a,.int .i64 (first+(i:Int)*step),.int .i64 i] W (FreshPm2 W c (nx i d) (.int .i64 0))))
    (PN:Hid (∀(W:World) (d:SlC) (a:SlA) (i:Nat),Below w.heap.size w W→I i d→SlIn W d a→d.cs.length≤a.cc→i<many→c.most≤(i:Int)→Calls Tryd.prog 10 #[pmV c d a,.int .i64 (first+(i:Int)*step),.int .i64 i] W (FreshPm2 W nilF nilC (.int .i64 9))))
    (CX:Hid (∀(W:World) (d:SlC) (a:SlA) (i:Nat),Below w.heap.size w W→I i d→SlIn W d a→d.cs.length≤a.cc→Calls Tryd.prog 13 #[pmV c d a] W (AnsB W (.int .i64 0))))
    (SX:Hid (∀(W:World) (d:SlC) (a:SlA) (i:Nat),Below w.heap.size w W→I i d→SlIn W d a→d.cs.length≤a.cc→Calls Tryd.prog 15 #[pmV c d a,.int .i64 i] W (AnsB W (.bool true))))
    (TX:Hid (∀(W:World) (d:SlC) (a:SlA) (i:Nat) (j:Nat),Below w.heap.size w W→I i d→SlIn W d a→d.cs.length≤a.cc→j<i→Calls Tryd.prog 14 #[pmV c d a,.int .i64 (first+(j:Int)*step),.int .i64 j] W (AnsB W (.bool true)))):
    Calls Tryd.prog 4 #[.agg #[.int .u8 c.tag,.int .i64 c.most,.int .i64 c.seg,.int .i64 c.least,.int .i64 c.den,.int .i64 c.ll,.int .i64 c.rl,.int .i64 c.rh,.int .i64 c.lh],.int .i64 first,.int .i64 step,.int .u8 many] w (AnsB w (.bool true)):=by
 have HU:=hid hnu;have HI0:=hid hI0;have HNX:=hid hnx;have HIU:=hid hIu;have hmw:IntKind.i64.wrap (many:Int)=(many:Int):=IntWalk.i64_in _ xo;clear hnu hI0 hnx hIu;go_enter Tryd.func4,Tryd.ntmps4
 go_upto_region 1 with (fail)
 generalize hw0:w.alloc _=w0;have P_f:Hid (PB w0 (w.heap.size) [.int .u8 c.tag,.int .i64 c.most,.int .i64 c.seg,.int .i64 c.least,.int .i64 c.den,.int .i64 c.ll,.int .i64 c.rl,.int .i64 c.rh,.int .i64 c.lh]):=by rw [←hw0];exact hid (pb_new _ _ _ xsi)
 have Z_f:w.heap.size<w0.heap.size:=by rw [←hw0];simp only [World.size_alloc];omega
 have HB0:Hid (Below w.heap.size w w0):=by rw [←hw0];exact hid (br.alloc (Nat.le_refl _) _)
 have hzp:w.heap.size<w0.heap.size:=Z_f;clear hw0;generalize HVf:Value.agg #[.int .u8 c.tag,.int .i64 c.most,.int .i64 c.seg,.int .i64 c.least,.int .i64 c.den,.int .i64 c.ll,.int .i64 c.rl,.int .i64 c.rh,.int .i64 c.lh]=v_f at NW ⊢;have HV_f:=hid HVf;clear HVf;go_wp2_with fail
 refine (AL.out _ HB0.out).mono ?_;rintro e w1 ⟨rfl,hb1⟩;replace P_f:=pbb hb1 P_f Z_f;replace Z_f:=blt hb1 Z_f;have hz_w1:=hb1.size;have HB1:=xv hb1 HB0;clear hb1;clear AL;as_aux_lemma=>
 go_wp2_with (first|refine wpl_loadv 23 (.tmp 4) _ _ v_f HV_f.out rfl rfl rfl Tryd.underlying23 rfl xk P_f.out ?_)
 go_wp2_with fail
 refine (NW.out _ HB1.out).mono ?_;rintro e w2 ⟨x1,x2,x3,x4,rfl,p1,p2,p3,p4,hb2⟩;replace P_f:=pbb hb2 P_f Z_f;replace Z_f:=blt hb2 Z_f;have hz_w2:=hb2.size;have HB2:=xv hb2 HB1;obtain ⟨a1,k1,rfl,i1,-,-,-,-⟩:=row_of_owns p1;obtain ⟨a2,k2,rfl,i2,-,-,-,-⟩:=row_of_owns p2;obtain ⟨a3,k3,rfl,i3,-,-,-,-⟩:=row_of_owns p3;obtain ⟨a4,k4,rfl,i4,-,-,hcc,-⟩:=row_of_owns p4;have HIm:Hid (SlIn w2 sn ⟨a1,a2,a3,a4,k1,k2,k3,k4⟩):=hid ⟨i1,i2,i3,i4,HU.out⟩;have HCCm:=hid hcc;have HOm:=hid (And.intro p1 (And.intro p2 (And.intro p3 p4)));clear hb2 p1 p2 p3 p4 i1 i2 i3 i4 hcc;clear NW;have PF2:=P_f;have ZF2:=Z_f;as_aux_lemma=>
 go_upto_region 3 with (refine wpl_store_new 31 (.tmp 10) (.tmp 20) _ _ rfl rfl rfl rfl xk rfl (by simp [Value.oneCell']) ?_)
 generalize hw3:w2.alloc _=w3;replace P_f:=pbg hw3 P_f Z_f;replace Z_f:=elt hw3 (auz Z_f);have P_m:Hid (PB w3 (w2.heap.size) [.int .u8 fn.tag,.int .i64 fn.most,.int .i64 fn.seg,.int .i64 fn.least,.int .i64 fn.den,.int .i64 fn.ll,.int .i64 fn.rl,.int .i64 fn.rh,.int .i64 fn.lh,.int .i64 sn.seg,.slice a1 sn.ws.length k1,.slice a2 sn.ks.length k2,.slice a3 sn.vs.length k3,.slice a4 sn.cs.length k4,.int .u64 sn.laid]):=by rw [←hw3];exact hid (pb_new _ _ _ xsi)
 have Z_m:w2.heap.size<w3.heap.size:=by rw [←hw3];simp only [World.size_alloc];omega
 have hb3:Below w2.heap.size w2 w3:=by rw [←hw3];exact br.alloc (Nat.le_refl _) _
 have hz3:w2.heap.size<w3.heap.size:=by rw [←hw3];simp
 have HXm:Hid (BX w3 w2.heap.size 31 [.int .u8 fn.tag,.int .i64 fn.most,.int .i64 fn.seg,.int .i64 fn.least,.int .i64 fn.den,.int .i64 fn.ll,.int .i64 fn.rl,.int .i64 fn.rh,.int .i64 fn.lh,.int .i64 sn.seg,.slice a1 sn.ws.length k1,.slice a2 sn.ks.length k2,.slice a3 sn.vs.length k3,.slice a4 sn.cs.length k4,.int .u64 sn.laid]):=by rw [←hw3];exact hid (bx_new _ _ _)
 have HB3:=xv hb3 HB2;have D2_3:=hid (hb3);clear hw3 hb3;generalize HVm:Value.agg #[.int .u8 fn.tag,.int .i64 fn.most,.int .i64 fn.seg,.int .i64 fn.least,.int .i64 fn.den,.int .i64 fn.ll,.int .i64 fn.rl,.int .i64 fn.rh,.int .i64 fn.lh,.int .i64 sn.seg,.slice a1 sn.ws.length k1,.slice a2 sn.ks.length k2,.slice a3 sn.vs.length k3,.slice a4 sn.cs.length k4,.int .u64 sn.laid]=v_m at ⊢;have HV_m:=hid HVm;clear HVm;as_aux_lemma=>
 have c_f3:=P_f.out 3 _ rfl;by_cases h1:e≠0
 · skip
   have b1:(e != 0)=true:=by simpa using h1
   go_wp2
   go_ret
   exact ⟨rfl,HB3.out⟩
 have b1:(e != 0)=false:=by simpa using h1
 by_cases h2:step=0
 · skip
   have b2:(step==0)=true:=by simpa using h2
   go_wp2
   go_ret
   exact ⟨rfl,HB3.out⟩
 have b2:(step==0)=false:=by simpa using h2
 by_cases h3:1000<step
 · skip
   have b3:decide (1000<step)=true:=by simpa using h3
   go_wp2
   go_ret
   exact ⟨rfl,HB3.out⟩
 have b3:decide (1000<step)=false:=by simpa using h3
 by_cases h4:step < -1000
 · skip
   have b4:decide (step < -1000)=true:=by simpa using h4
   go_wp2
   go_ret
   exact ⟨rfl,HB3.out⟩
 have b4:decide (step < -1000)=false:=by simpa using h4
 by_cases h5:1000<first
 · skip
   have b5:decide (1000<first)=true:=by simpa using h5
   go_wp2
   go_ret
   exact ⟨rfl,HB3.out⟩
 have b5:decide (1000<first)=false:=by simpa using h5
 by_cases h6:first < -1000
 · skip
   have b6:decide (first < -1000)=true:=by simpa using h6
   go_wp2
   go_ret
   exact ⟨rfl,HB3.out⟩
 have b6:decide (first < -1000)=false:=by simpa using h6
 by_cases h7:(80:Int)<(many:Int)
 · skip
   have b7:decide ((80:Int)<(many:Int))=true:=by simpa using h7
   go_wp2
   go_ret
   exact ⟨rfl,HB3.out⟩
 have b7:decide ((80:Int)<(many:Int))=false:=by simpa using h7
 by_cases h8:256<c.least
 · skip
   have b8:decide (256<c.least)=true:=by simpa using h8
   go_wp2
   go_ret
   exact ⟨rfl,HB3.out⟩
 have b8:decide (256<c.least)=false:=by simpa using h8
 obtain rfl:e=0:=xo;obtain ⟨hfn,hi0⟩:=HI0.out rfl h2;subst hfn;have HF:=hid (And.intro h2 (And.intro (show -1000≤step∧step≤1000 by omega) (And.intro (show -1000≤first∧first≤1000 by omega) (show many≤80 by omega))));have HJ0:=hid hi0;clear hi0 HI0;go_upto_region 6 with (fail)
 clear b1 b2 b3 b4 b5 b6 b7 b8 h1 h2 h3 h4 h5 h6 h7 h8 c_f3;have HBm:Hid (Below w2.heap.size w2 w3):=D2_3;as_aux_lemma=>
 go_loopg [12] many (fun gk iv wr=>∃(i:Nat) (d:SlC) (a:SlA),i+gk=many∧iv= .int .i64 i∧Hid (BX wr w2.heap.size 31 [.int .u8 c.tag,.int .i64 c.most,.int .i64 c.seg,.int .i64 c.least,.int .i64 c.den,.int .i64 c.ll,.int .i64 c.rl,.int .i64 c.rh,.int .i64 c.lh,.int .i64 d.seg,.slice a.wa d.ws.length a.wc,.slice a.ka d.ks.length a.kc,.slice a.va d.vs.length a.vc,.slice a.ca d.cs.length a.cc,.int .u64 d.laid])∧Hid (SlIn wr d a)∧Hid (d.cs.length≤a.cc)∧Hid (I i d)∧Hid (Below w2.heap.size w2 wr))
 case atStart=>exact ⟨0,sn,⟨a1,a2,a3,a4,k1,k2,k3,k4⟩,by omega,rfl,HXm,hid (HIm.out.below D2_3.out),HCCm,HJ0,HBm⟩
 case round=>
  clear P_f Z_f P_m Z_m HXm HIm HCCm HJ0 HBm HOm D2_3 HV_m HB3;obtain ⟨i,d,a,hi,rfl,HX,HI,HC,HW,HB⟩:=hrel;have P_m:=hid (bx_pb HX.out);have Z_m:=bx_lt HX.out;have P_f:=hid (pb_below HB.out PF2.out ZF2);have Z_f:=Nat.lt_of_lt_of_le ZF2 HB.out.size;have HBr:=hid (below_via HB.out HB2.out HB2.out.size);have hzm:w2.heap.size<wr.heap.size:=Z_m;obtain ⟨v_m,HVm⟩:∃v,Value.agg #[.int .u8 c.tag,.int .i64 c.most,.int .i64 c.seg,.int .i64 c.least,.int .i64 c.den,.int .i64 c.ll,.int .i64 c.rl,.int .i64 c.rh,.int .i64 c.lh,.int .i64 d.seg,.slice a.wa d.ws.length a.wc,.slice a.ka d.ks.length a.kc,.slice a.va d.vs.length a.vc,.slice a.ca d.cs.length a.cc,.int .u64 d.laid]=v:=⟨_,rfl⟩
  have HV_m:=hid HVm;clear HVm;by_cases hlt:i<many
  · have hw1:IntKind.i64.wrap ((i:Int)*step)=(i:Int)*step:=IntWalk.i64_in _ (by have:=mul_bd' HF.out.2.1 (show i≤80 by have:=HF.out.2.2.2;omega);omega);have hw2:IntKind.i64.wrap (first+(i:Int)*step)=first+(i:Int)*step:=IntWalk.i64_in _ (by have:=mul_bd' HF.out.2.1 (show i≤80 by have:=HF.out.2.2.2;omega);have:=HF.out.2.2.1;omega)
    have hw3:IntKind.i64.wrap ((i:Int)+1)=(i:Int)+1:=IntWalk.i64_in _ xo;have hd:decide ((i:Int)<(many:Int))=true:=by simpa using hlt
    by_cases hmo:(i:Int)<c.most
    · skip
      have PY':=hid (PY.out wr d a i HBr.out HW.out HI.out HC.out hlt hmo);dsimp only [pmV] at PY';rw [HV_m.out] at PY';have g1:decide (c.most≤(i:Int))=false:=by simpa using hmo
      have HN:=hid (HNX.out i d HW.out hmo);have HNU:=hid (HIU.out _ _ HN.out).1;clear hmo;go_wp2_with (first|refine wpl_loadv 31 (.tmp 10) _ _ v_m HV_m.out rfl rfl rfl Tryd.underlying31 rfl xk P_m.out ?_)
      refine PY'.out.mono ?_;rintro e w4 ⟨x1,x2,x3,x4,rfl,p1,p2,p3,p4,hb4⟩;replace P_m:=pbb hb4 P_m Z_m;replace Z_m:=blt hb4 Z_m;replace P_f:=pbb hb4 P_f Z_f;replace Z_f:=blt hb4 Z_f;have hz_w4:=hb4.size;try simp only [World.size_alloc,World.size_setCell] at hz_w4
      replace HX:=hid (bx_below hb4 HX.out (bx_lt HX.out));have HB4:=xv hb4 HBr;have HC4:=xv hb4 HB;obtain ⟨b1,j1,rfl,i1,-,-,-,-⟩:=row_of_owns p1;obtain ⟨b2,j2,rfl,i2,-,-,-,-⟩:=row_of_owns p2;obtain ⟨b3,j3,rfl,i3,-,-,-,-⟩:=row_of_owns p3;obtain ⟨b4,j4,rfl,i4,-,-,hcc,-⟩:=row_of_owns p4;have HIx:Hid (SlIn w4 (nx i d) ⟨b1,b2,b3,b4,j1,j2,j3,j4⟩):=hid ⟨i1,i2,i3,i4,HNU.out⟩;have HCCx:=hid hcc;have HOx:=hid (And.intro p1 (And.intro p2 (And.intro p3 p4)));have hz4:w2.heap.size<wr.heap.size:=hzm;clear hb4 p1 p2 p3 p4 i1 i2 i3 i4 hcc PY' HI HC HW;as_aux_lemma=>
      go_upto_region 9 with (refine wpl_store_new 31 (.tmp 13) (.tmp 73) _ _ rfl rfl rfl rfl xk rfl (by simp [Value.oneCell']) ?_)
      generalize hw5:w4.alloc _=w5;replace P_m:=pbg hw5 P_m Z_m;replace Z_m:=elt hw5 (auz Z_m);replace P_f:=pbg hw5 P_f Z_f;replace Z_f:=elt hw5 (auz Z_f);have P_x:Hid (PB w5 (w4.heap.size) [.int .u8 c.tag,.int .i64 c.most,.int .i64 c.seg,.int .i64 c.least,.int .i64 c.den,.int .i64 c.ll,.int .i64 c.rl,.int .i64 c.rh,.int .i64 c.lh,.int .i64 (nx i d).seg,.slice b1 (nx i d).ws.length j1,.slice b2 (nx i d).ks.length j2,.slice b3 (nx i d).vs.length j3,.slice b4 (nx i d).cs.length j4,.int .u64 (nx i d).laid]):=by rw [←hw5];exact hid (pb_new _ _ _ xsi)
      have Z_x:w4.heap.size<w5.heap.size:=by rw [←hw5];simp only [World.size_alloc];omega
      have hb5:Below w4.heap.size w4 w5:=by rw [←hw5];exact br.alloc (Nat.le_refl _) _
      have hz5:w4.heap.size<w5.heap.size:=by rw [←hw5];simp
      replace HX:=hid (bx_below hb5 HX.out (bx_lt HX.out));have HB5:=xv hb5 HB4;have HC5:=xv hb5 HC4;have HI5:=hid (HIx.out.below hb5);replace HOx:=hid (And.intro (owns_below HOx.out.1 hb5) (And.intro (owns_below HOx.out.2.1 hb5) (And.intro (owns_below HOx.out.2.2.1 hb5) (owns_below HOx.out.2.2.2 hb5))));clear hw5 hb5 HIx;generalize HVx:Value.agg #[.int .u8 c.tag,.int .i64 c.most,.int .i64 c.seg,.int .i64 c.least,.int .i64 c.den,.int .i64 c.ll,.int .i64 c.rl,.int .i64 c.rh,.int .i64 c.lh,.int .i64 (nx i d).seg,.slice b1 (nx i d).ws.length j1,.slice b2 (nx i d).ks.length j2,.slice b3 (nx i d).vs.length j3,.slice b4 (nx i d).cs.length j4,.int .u64 (nx i d).laid]=v_x at ⊢;have HV_x:=hid HVx;clear HVx;as_aux_lemma=>
      have CX':=hid (CX.out w5 (nx i d) ⟨b1,b2,b3,b4,j1,j2,j3,j4⟩ (i+1) HB5.out HN.out HI5.out HCCx.out);dsimp only [pmV] at CX';rw [HV_x.out] at CX';have c_f1:=P_f.out 1 _ rfl;go_wp2_with (first|refine wpl_loadv 31 (.tmp 13) _ _ v_x HV_x.out rfl rfl rfl Tryd.underlying31 rfl xk P_x.out ?_)
      refine CX'.out.mono ?_;rintro e w6 ⟨rfl,hb6⟩;replace P_m:=pbb hb6 P_m Z_m;replace Z_m:=blt hb6 Z_m;replace P_f:=pbb hb6 P_f Z_f;replace Z_f:=blt hb6 Z_f;replace P_x:=pbb hb6 P_x Z_x;replace Z_x:=blt hb6 Z_x;have hz_w6:=hb6.size;replace HX:=hid (bx_below hb6 HX.out (bx_lt HX.out));have HB6:=xv hb6 HB5;have HC6:=xv hb6 HC5;have HI6:=hid (HI5.out.below hb6);replace HOx:=hid (And.intro (owns_below HOx.out.1 hb6) (And.intro (owns_below HOx.out.2.1 hb6) (And.intro (owns_below HOx.out.2.2.1 hb6) (owns_below HOx.out.2.2.2 hb6))));clear hb6 c_f1 CX';as_aux_lemma=>
      go_wp2_with (first|refine wpl_loadv 31 (.tmp 13) _ _ v_x HV_x.out rfl rfl rfl Tryd.underlying31 rfl xk P_x.out ?_|(refine wpl_store_row 31 (.tmp 10) (.tmp 97) (w2.heap.size) [.int .u8 c.tag,.int .i64 c.most,.int .i64 c.seg,.int .i64 c.least,.int .i64 c.den,.int .i64 c.ll,.int .i64 c.rl,.int .i64 c.rh,.int .i64 c.lh,.int .i64 d.seg,.slice a.wa d.ws.length a.wc,.slice a.ka d.ks.length a.kc,.slice a.va d.vs.length a.vc,.slice a.ca d.cs.length a.cc,.int .u64 d.laid] [.int .u8 c.tag,.int .i64 c.most,.int .i64 c.seg,.int .i64 c.least,.int .i64 c.den,.int .i64 c.ll,.int .i64 c.rl,.int .i64 c.rh,.int .i64 c.lh,.int .i64 (nx i d).seg,.slice b1 (nx i d).ws.length j1,.slice b2 (nx i d).ks.length j2,.slice b3 (nx i d).vs.length j3,.slice b4 (nx i d).cs.length j4,.int .u64 (nx i d).laid] rfl rfl rfl HV_x.out.symm xk rfl (by simp [Value.oneCell']) HX.out ?_;intro w7 hs7 hx7))
      have HS:=hid hs7;have HX7:=hid hx7;have HC7:=hid (HC6.out.trans (hs7.bel _ (Nat.le_refl _)));have q1:=owns_heap HOx.out.1 fun t ht=>HS.out.other t (by have:=(HOx.out.1.lt t ht).1;omega)
      obtain ⟨y1,n1,hy,i1,-⟩:=row_of_owns q1;cases hy;have q2:=owns_heap HOx.out.2.1 fun t ht=>HS.out.other t (by have:=(HOx.out.2.1.lt t ht).1;omega)
      obtain ⟨y2,n2,hy,i2,-⟩:=row_of_owns q2;cases hy;have q3:=owns_heap HOx.out.2.2.1 fun t ht=>HS.out.other t (by have:=(HOx.out.2.2.1.lt t ht).1;omega)
      obtain ⟨y3,n3,hy,i3,-⟩:=row_of_owns q3;cases hy;have q4:=owns_heap HOx.out.2.2.2 fun t ht=>HS.out.other t (by have:=(HOx.out.2.2.2.lt t ht).1;omega)
      obtain ⟨y4,n4,hy,i4,-⟩:=row_of_owns q4;cases hy;have HI7:Hid (SlIn w7 (nx i d) ⟨b1,b2,b3,b4,j1,j2,j3,j4⟩):=hid ⟨i1,i2,i3,i4,HNU.out⟩;clear q1 q2 q3 q4 i1 i2 i3 i4 hs7 hx7 P_m P_x P_f;go_roundg (gk-1)
      case measure=>omega
      case rel=>exact ⟨i+1,nx i d,⟨b1,b2,b3,b4,j1,j2,j3,j4⟩,by omega,by go_num,HX7,HI7,HCCx,HN,HC7⟩
    · skip
      have PN':=hid (PN.out wr d a i HBr.out HW.out HI.out HC.out hlt xo);dsimp only [pmV] at PN';rw [HV_m.out] at PN';have g1:decide (c.most≤(i:Int))=true:=decide_eq_true xo;have ei:(i:Int)=c.most:=by have:=(HIU.out i d HW.out).2;omega
      have HE:=hid ei;clear ei hmo;go_wp2_with (first|refine wpl_loadv 31 (.tmp 10) _ _ v_m HV_m.out rfl rfl rfl Tryd.underlying31 rfl xk P_m.out ?_)
      refine PN'.out.mono ?_;rintro e w4 ⟨x1,x2,x3,x4,rfl,p1,p2,p3,p4,hb4⟩;replace P_m:=pbb hb4 P_m Z_m;replace Z_m:=blt hb4 Z_m;replace P_f:=pbb hb4 P_f Z_f;replace Z_f:=blt hb4 Z_f;have hz_w4:=hb4.size;try simp only [World.size_alloc,World.size_setCell] at hz_w4
      have HB4:=xv hb4 HBr;have HI4:=hid (HI.out.below hb4);obtain ⟨b1,j1,rfl,-,-,-,-,-⟩:=row_of_owns p1;obtain ⟨b2,j2,rfl,-,-,-,-,-⟩:=row_of_owns p2;obtain ⟨b3,j3,rfl,-,-,-,-,-⟩:=row_of_owns p3;obtain ⟨b4,j4,rfl,-,-,-,-,-⟩:=row_of_owns p4;clear hb4 p1 p2 p3 p4 PN' HI HX;as_aux_lemma=>
      go_upto_region 9 with (refine wpl_store_new 31 (.tmp 13) (.tmp 73) _ _ rfl rfl rfl rfl xk rfl (by simp [Value.oneCell']) ?_)
      generalize hw5:w4.alloc _=w5;replace P_m:=pbg hw5 P_m Z_m;replace Z_m:=elt hw5 (auz Z_m);replace P_f:=pbg hw5 P_f Z_f;replace Z_f:=elt hw5 (auz Z_f);have P_x:Hid (PB w5 (w4.heap.size) [.int .u8 nilF.tag,.int .i64 nilF.most,.int .i64 nilF.seg,.int .i64 nilF.least,.int .i64 nilF.den,.int .i64 nilF.ll,.int .i64 nilF.rl,.int .i64 nilF.rh,.int .i64 nilF.lh,.int .i64 nilC.seg,.slice b1 nilC.ws.length j1,.slice b2 nilC.ks.length j2,.slice b3 nilC.vs.length j3,.slice b4 nilC.cs.length j4,.int .u64 nilC.laid]):=by rw [←hw5];exact hid (pb_new _ _ _ xsi)
      have Z_x:w4.heap.size<w5.heap.size:=by rw [←hw5];simp only [World.size_alloc];omega
      have hb5:Below w4.heap.size w4 w5:=by rw [←hw5];exact br.alloc (Nat.le_refl _) _
      have HB5:=xv hb5 HB4;have HI5:=hid (HI4.out.below hb5);clear hw5 hb5;generalize HVx:Value.agg #[.int .u8 nilF.tag,.int .i64 nilF.most,.int .i64 nilF.seg,.int .i64 nilF.least,.int .i64 nilF.den,.int .i64 nilF.ll,.int .i64 nilF.rl,.int .i64 nilF.rh,.int .i64 nilF.lh,.int .i64 nilC.seg,.slice b1 nilC.ws.length j1,.slice b2 nilC.ks.length j2,.slice b3 nilC.vs.length j3,.slice b4 nilC.cs.length j4,.int .u64 nilC.laid]=v_x at ⊢;have HV_x:=hid HVx;clear HVx;as_aux_lemma=>
      have SX':=hid (SX.out w5 d a i HB5.out HW.out HI5.out HC.out);dsimp only [pmV] at SX';rw [HV_m.out,HE.out] at SX';have c_f1:=P_f.out 1 _ rfl;go_wp2_with (first|refine wpl_loadv 31 (.tmp 10) _ _ v_m HV_m.out rfl rfl rfl Tryd.underlying31 rfl xk P_m.out ?_)
      refine SX'.out.mono ?_;rintro e w6 ⟨rfl,hb6⟩;have HB6:=xv hb6 HB5;clear hb6 c_f1;go_wp2
      go_ret
      exact ⟨rfl,HB6.out⟩
  · skip
    obtain rfl:i=many:=xo;have hd:decide ((i:Int)<(i:Int))=false:=by simp
    clear hi hlt;obtain ⟨wo,rfl⟩:∃wo,wo=wr:=⟨_,rfl⟩
    go_wp2
    go_upto_region 15 with (fail)
    as_aux_lemma=>
    go_loopg [15] i (fun gk2 jv wr2=>∃j:Nat,j+gk2=i∧jv= .int .i64 j∧Hid (Below wo.heap.size wo wr2))
    case atStart=>exact ⟨0,by omega,rfl,hid br⟩
    case round=>
     obtain ⟨j,hj,rfl,HD⟩:=hrel;have hbd:=HD.out;replace P_m:=pbb hbd P_m Z_m;replace Z_m:=blt hbd Z_m;replace P_f:=pbb hbd P_f Z_f;replace Z_f:=blt hbd Z_f;have hz_wr:=hbd.size;try simp only [World.size_alloc,World.size_setCell] at hz_wr
     have HB4:=xv hbd HBr;have HI4:=hid (HI.out.below hbd);clear hbd;by_cases hlt2:j<i
     · have hw1:IntKind.i64.wrap ((j:Int)*step)=(j:Int)*step:=IntWalk.i64_in _ (by have:=mul_bd' HF.out.2.1 (show j≤80 by have:=HF.out.2.2.2;omega);omega);have hw2:IntKind.i64.wrap (first+(j:Int)*step)=first+(j:Int)*step:=IntWalk.i64_in _ (by have:=mul_bd' HF.out.2.1 (show j≤80 by have:=HF.out.2.2.2;omega);have:=HF.out.2.2.1;omega)
       have hw3:IntKind.i64.wrap ((j:Int)+1)=(j:Int)+1:=IntWalk.i64_in _ xo;have hd2:decide ((j:Int)<(i:Int))=true:=by simpa using hlt2
       have TX':=hid (TX.out wr d a i j HB4.out HW.out HI4.out HC.out hlt2);dsimp only [pmV] at TX';rw [HV_m.out] at TX';go_wp2_with (first|refine wpl_loadv 31 (.tmp 10) _ _ v_m HV_m.out rfl rfl rfl Tryd.underlying31 rfl xk P_m.out ?_)
       refine TX'.out.mono ?_;rintro e w6 ⟨rfl,hb6⟩;have HD6:=xv hb6 HD;clear hb6 TX';go_wp2
       go_roundg (gk-1)
       case measure=>omega
       case rel=>exact ⟨j+1,by omega,by go_num,HD6⟩
     · obtain rfl:j=i:=xo;have SX':=hid (SX.out wr d a j HB4.out HW.out HI4.out HC.out);dsimp only [pmV] at SX';rw [HV_m.out] at SX';clear hj hlt2;go_wp2_with (first|refine wpl_loadv 31 (.tmp 10) _ _ v_m HV_m.out rfl rfl rfl Tryd.underlying31 rfl xk P_m.out ?_)
       refine SX'.out.mono ?_;rintro e w6 ⟨rfl,hb6⟩;have HB6:=xv hb6 HB4;clear hb6;go_wp2
       go_ret
       exact ⟨rfl,HB6.out⟩
end
section
open Go.RowKit
theorem wide_den {c:Cfg} {n a H:Nat} (k:CapC c n a H) (laid:Int) {L:List (Int×Int)} (hL:L.length≤n) (hmost:(L.length:Int)≤c.most) (ok:okW c n H H (L.length:Int)):gapE c (wideC (2^a) (2^H) laid L)=0:=by
 unfold wideC;have hn:n=2^a*2^H:=by have:=k.all;omega
 have ha4:2^2≤2^a:=Nat.pow_le_pow_right xo k.a2;have ha6:2^a≤2^6:=Nat.pow_le_pow_right xo k.a6;have g:=emptyL_gd (S:=2^a) (M:=2^H) xo xo (Nat.two_pow_pos H) k.big laid;subst hn;have hall:=cnt_all g (Nat.zero_le _) (Nat.le_refl _) (L:=L) xo;refine gapE_den k (g.sp (Nat.zero_le _) (Nat.le_refl _) xo) ?_ fun j hj i hi=> ?_
 · rw [hall];exact hmost
 · unfold cntH;have e:2^a*2^H=2^(H-j)*2^(a+j):=by rw [←Nat.pow_add,←Nat.pow_add];congr 1;omega
   rcases Nat.eq_or_lt_of_le hj with q|q
   · subst q;have:i=0:=by rw [Nat.sub_self] at hi;simpa using hi
     subst this;rw [Nat.zero_mul,Nat.zero_add,Nat.one_mul,Nat.pow_add];rw [hall];exact ok
   · obtain ⟨x,ex,x1,x2⟩:=cnt_part (lo:=0) (w:=2^(a+j)) (P:=2^(H-j)) (q:=i) g (by rw [Nat.zero_add,←e];exact Nat.le_refl _) (by rw [←e];exact hL) (Nat.two_pow_pos _) (Nat.two_pow_pos _) hi;simp only [Nat.zero_add] at ex;rw [←e] at ex;rw [ex];exact ok_share k q (Nat.le_refl _) ok x1 x2
theorem CapC.wtop {c:Cfg} {size:Int} {a H:Nat} (k:CapC c size a H):wdC c H=size:=by rw [wdC,k.seg,k.all];push_cast;rfl
theorem ful_top {c:Cfg} {size:Int} {a H:Nat} (k:CapC c size a H) {m:Int} (h:m*c.den≤c.rh*size):fulB c H H m=true:=by
 unfold fulB;rw [k.wtop];split
 · rw [decide_eq_true_eq,Int.mul_comm size];exact h
 · rw [decide_eq_true_eq,Int.sub_self,Int.mul_zero,Int.zero_add,Int.mul_right_comm,←Int.mul_assoc,Int.mul_comm size];exact Int.mul_le_mul_of_nonneg_right h xo
theorem spr_top {c:Cfg} {size:Int} {a H:Nat} (k:CapC c size a H) {m:Int} (h:size=c.least∨size*c.rl≤(m+1)*c.den):sprB c size H H m=true:=by
 rw [sprB_or];rcases h with h|h
 · exact .inl h
 · right;unfold sprN;rw [k.wtop,Int.sub_self,Int.mul_zero,Int.zero_add,Int.mul_right_comm,←Int.mul_assoc];exact Int.mul_le_mul_of_nonneg_right h xo
theorem takF_min (c:Cfg) (n:Int):∀(k:Nat) (size:Int),0≤size→takF c n k size=size∨∃t,takF c n k size=2*t∧0≤t∧c.rh*t<n*c.den
  | 0,size,_=> .inl rfl
  | k+1,size,h0=>by
   rw [takF];split
   · rename_i h
     rcases takF_min c n k (2*size) xo with e | ⟨t,e,h1,h2⟩
     · exact .inr ⟨size,e,h0,h⟩
     · exact .inr ⟨t,e,h1,h2⟩
   · exact .inl rfl
theorem takF_mono {c:Cfg} {n m:Int} (hd:0≤c.den) (hnm:n≤m):∀(k:Nat) (size:Int),0≤size→takF c n k size≤takF c m k size
  | 0,size,_=>Int.le_refl _
  | k+1,size,h0=>by
   have h1:=Int.mul_le_mul_of_nonneg_right hnm hd;have hb:=(takF_bd (c:=c) (n:=m) (k+1) size h0).1;rw [takF];split
   · rename_i h
     rw [takF,if_pos xo];exact takF_mono hd hnm k (2*size) xo
   · exact hb
theorem cap_taks {c:Cfg} {a:Nat} (hm:cfMay c=true) (hs:c.seg=((2^a:Nat):Int)) {n:Nat} (hn:(n:Int)≤c.most):∃H,CapC c (taks c n) a H∧okW c (taks c n) H H n∧(n:Int)≤taks c n:=by
 have hd:=cfMay_head hm;obtain ⟨d0,d1,d2,d3,d4,d5,d6,d7,d8,d9,d10,d11,d12,d13,d14,d15,d16,d17⟩:=cfHead_num hd;obtain ⟨H',e,hb,hle⟩:=cap_nat hd hs (n:=(n:Int)) xo xo;have tb:=taks_bd hd (n:=(n:Int)) xo xo;have hp:powB (taks c n) c.least (taks c c.most)=true:=by
  refine powB_iff.2 ⟨tb.2.2,takF_mono xo hn 20 c.least xo,?_⟩;rw [e,←Nat.pow_add];exact pwB_two _
 obtain ⟨a',H,k⟩:=capC_of hm hp;have haa:a'=a:=by
  have h1:=k.seg;rw [hs] at h1;have h2:2^a=2^a':=xo;exact Nat.le_antisymm ((Nat.pow_le_pow_iff_right (a:=2) xo).1 xo) ((Nat.pow_le_pow_iff_right (a:=2) xo).1 xo)
 subst haa;refine ⟨H,k,⟨ful_top k ?_,spr_top k ?_⟩,hle⟩
 · exact takF_takes (c:=c) (n:=(n:Int)) xo 20 c.least xo (tak_start xo xo xo d8 d9).1
 · rcases takF_min c n 20 c.least xo with q | ⟨t,q,h1,h2⟩
   · exact .inl q
   · right;have e1:taks c n=2*t:=q;rw [e1];have h3:4*c.rl≤c.rh:=xo;have h4:=Int.mul_le_mul_of_nonneg_right h3 h1;have h5:2*t*c.rl≤4*c.rl*t:=by
      have:0≤c.rl*t:=Int.mul_nonneg xo h1;have e2:2*t*c.rl=2*(c.rl*t):=by rw [Int.mul_assoc,Int.mul_comm t]
      have e3:4*c.rl*t=4*(c.rl*t):=Int.mul_assoc ..;omega
     have h6:(n:Int)*c.den≤((n:Int)+1)*c.den:=Int.mul_le_mul_of_nonneg_right xo xo;omega
theorem capM_pow {c:Cfg} {a H:Nat} {n:Nat} (k:CapC c (taks c n) a H):capM c n=2^H:=by
 rw [capM,k.all,k.seg,Int.toNat_natCast,Int.toNat_natCast,Nat.mul_div_cancel_left _ (Nat.two_pow_pos a)]
theorem cap_den {c:Cfg} {a:Nat} (hm:cfMay c=true) (hs:c.seg=((2^a:Nat):Int)) (laid:Int) {L:List (Int×Int)} (hn:(L.length:Int)≤c.most):gapE c (wideC (2^a) (capM c L.length) laid L)=0:=by
 obtain ⟨H,k,ok,hle⟩:=cap_taks hm hs hn;rw [capM_pow k];have e:=k.all;generalize taks c L.length=size at *;subst e;exact wide_den k laid xo hn ok
end
section
open Go.RowKit
theorem wide_prs {S M:Nat} (h4:4≤S) (h6:S≤64) (hM:1≤M) (hm:S*M≤65536) (laid:Int) {L:List (Int×Int)} (hL:L.length≤S*M):(wideC S M laid L).ks.length=S*M∧prs (wideC S M laid L) 0 (S*M)=L:=by
 have g:=emptyL_gd h4 h6 hM hm laid;exact ⟨(g.sp (Nat.zero_le _) (Nat.le_refl _) xo).elk,sp_in g (Nat.zero_le _) (Nat.le_refl _) xo⟩
theorem put_res {c:Cfg} {s:SlC} (hu:U64s s.ws) {k:Int} (p:Int×Int) (h:putE c s k=0):
    gapE c (putC c s k p)=0∧prs (putC c s k p) 0 (putC c s k p).ks.length=insL (prs s 0 s.ks.length) k.toNat p:=by
 obtain ⟨h0,k0,k1,k2⟩:=put_zero h;obtain ⟨hc,a,H,kn,hs,hmost,hden⟩:=gap_zero h0;rw [sum_many kn hu] at hmost;have hlt:(manyC s:Int)<c.most:=xo;obtain ⟨g,hlw⟩:=gapN_gd kn hu;obtain ⟨p1,p2,p3,p4,p5,p6⟩:=kn.pows;obtain ⟨n,rfl⟩:∃n:Nat,k=n:=⟨k.toNat,by omega⟩
 have hn:n≤manyC s:=xo;have hat:=homeC_lt p5 n;rw [putC,if_pos h,sgL_eq kn.cap.seg,kn.cap.hgt,Int.toNat_natCast];unfold putN;by_cases ht:topI (ovB c s a H (homeC s n)) (H+1)=H
 · rw [if_pos ht];have hLn:(prs s 0 s.ks.length).length=manyC s:=prs_length _ _ _;have hil:(insL (prs s 0 s.ks.length) n p).length=manyC s+1:=by rw [insL_length (by rw [hLn];exact hn),hLn]
   have hcap:=cap_facts kn (n:=manyC s+1) xo;have hd:=cap_den hc kn.cap.seg s.laid (L:=insL (prs s 0 s.ks.length) n p) (by rw [hil];omega);rw [hil] at hd;obtain ⟨w1,w2⟩:=wide_prs p1 p2 hcap.2.2.1 hcap.2.2.2.1 s.laid (L:=insL (prs s 0 s.ks.length) n p) (by rw [hil];exact hcap.2.2.2.2.1);exact ⟨hd,by rw [w1];exact w2⟩
 · rw [if_neg ht];obtain ⟨h',eh,hh,hroom⟩:=put_room kn hu hat ht;have hht:(topI (ovB c s a H (homeC s n)) (H+1)+1).toNat=h':=xo;simp only [hht];have b:=wnd_bd (a:=a) (at_:=homeC s n) hh (by rw [←kn.nk];exact hat);have hhi:(wnd a h' (homeC s n)+1)*2^(a+h')≤s.ks.length:=by rw [kn.nk];exact b.2.2.2
   obtain ⟨q1,q2⟩:=home_in p5 hn b.2.1 b.2.2.1 hhi;have hil:=insL_length q2 p;have hpl:=prs_length s (wnd a h' (homeC s n)*2^(a+h')) ((wnd a h' (homeC s n)+1)*2^(a+h'));have eww:(wnd a h' (homeC s n)+1)*2^(a+h')=wnd a h' (homeC s n)*2^(a+h')+2^(a+h'):=Nat.succ_mul _ _;have hlh:wnd a h' (homeC s n)*2^(a+h')≤(wnd a h' (homeC s n)+1)*2^(a+h'):=xo;have hd:=put_den kn hu hden hlt hat eh hh (L:=insL (prs s (wnd a h' (homeC s n)*2^(a+h')) ((wnd a h' (homeC s n)+1)*2^(a+h'))) (n-cntW s.ws 0 (wnd a h' (homeC s n)*2^(a+h'))) p) (by rw [hil,hpl];rfl) (by rw [hil,hpl];exact hroom);refine ⟨hd,?_⟩;generalize wnd a h' (homeC s n)*2^(a+h')=lo at *;generalize (wnd a h' (homeC s n)+1)*2^(a+h')=hi at *;have hL:(insL (prs s lo hi) (n-cntW s.ws 0 lo) p).length≤hi-lo:=by rw [hil,hpl];omega
   rw [(g.sp hlh hhi hL).elk,prs_sp g hlh hhi hL,prs_app s (Nat.zero_le lo) (Nat.le_trans hlh hhi),prs_app s hlh hhi,←List.append_assoc];have e0:=prs_length s 0 lo;rw [insL_mid (A:=prs s 0 lo) (B:=prs s lo hi) (C:=prs s hi s.ks.length) (by rw [e0];exact q1) (by rw [e0];exact q2),e0]
end
section
open Go.RowKit
theorem ris_split {l:List (Int×Int)} (h:Ris l) (key:Int):(∀p ∈ l.take (belL l key),p.1<key)∧∀p ∈ l.drop (belL l key),key≤p.1:=by
 induction l with
 | nil=>exact ⟨fun p hp=>by simp at hp,fun p hp=>by simp at hp⟩
 | cons q t ih=>
  obtain ⟨h1,h2⟩:=List.pairwise_cons.1 h;obtain ⟨a,b⟩:=ih h2;by_cases hq:q.1<key
  · have e:belL (q::t) key=belL t key+1:=by rw [belL,List.countP_cons_of_pos (by simpa using hq)];rfl
    rw [e,List.take_succ_cons,List.drop_succ_cons];refine ⟨fun p hp=> ?_,b⟩;rcases List.mem_cons.1 hp with rfl|hp
    · exact hq
    · exact a p hp
  · have e:belL (q::t) key=0:=by
      rw [belL,List.countP_eq_zero];intro p hp;rcases List.mem_cons.1 hp with rfl|hp
      · simpa using hq
      · have:=h1 p hp;simp;omega
    rw [e,List.take_zero,List.drop_zero];refine ⟨fun p hp=>by simp at hp,fun p hp=> ?_⟩;rcases List.mem_cons.1 hp with rfl|hp
    · omega
    · have:=h1 p hp;omega
theorem fnd_none {l:List (Int×Int)} {key:Int} (h:∀p ∈ l,p.1≠key):fndL l key=none:=by
 rw [fndL,List.find?_eq_none];intro p hp;simpa using h p hp
theorem fnd_none_iff {l:List (Int×Int)} {key:Int} (h:fndL l key=none):∀p ∈ l,p.1≠key:=by
 rw [fndL,List.find?_eq_none] at h;intro p hp;simpa using h p hp
theorem mid_res {A B:List (Int×Int)} {key val:Int} (hr:Ris (A++B)) (ha:∀p ∈ A,p.1<key) (hb:∀p ∈ B,key<p.1):
    Ris (A++(key,val)::B)∧fndL (A++(key,val)::B) key=some (key,val)∧fndL (A++B) key=none∧∀o,o≠key→fndL (A++(key,val)::B) o=fndL (A++B) o:=by
 obtain ⟨r1,r2,r3⟩:=Ris.apart hr;have hA:fndL A key=none:=fnd_none fun p hp e=>by have:=ha p hp;omega
 have hB:fndL B key=none:=fnd_none fun p hp e=>by have:=hb p hp;omega
 refine ⟨List.pairwise_append.2 ⟨r1,List.pairwise_cons.2 ⟨fun q hq=>hb q hq,r2⟩,fun p hp q hq=> ?_⟩,?_,?_,fun o ho=> ?_⟩
 · rcases List.mem_cons.1 hq with rfl|hq
   · exact ha p hp
   · exact r3 p hp q hq
 · rw [fndL] at hA ⊢;rw [List.find?_append,hA];simp
 · rw [fndL] at hA hB ⊢;rw [List.find?_append,hA,hB];rfl
 · rw [fndL,List.find?_append,List.find?_cons_of_neg (by simpa using fun e=>ho e.symm),fndL,List.find?_append]
theorem ris_B {l:List (Int×Int)} (h:Ris l):risB l=true:=by
 rw [risB,List.all_eq_true];intro i hi;rw [List.mem_range] at hi;rw [risAt];rcases Nat.eq_zero_or_pos i with rfl|h0
 · simp
 · have:=List.pairwise_iff_getElem.1 h (i-1) i xo hi xo;simp [List.getD_eq_getElem?_getD,List.getElem?_eq_getElem hi,List.getElem?_eq_getElem (show i-1<l.length by omega),this]
theorem pmE_mk {c:Cfg} {d:SlC} (h:gapE c d=0) (hr:Ris (prs d 0 d.ks.length)):pmE c d=0:=by
 obtain ⟨hc,a,H,kn,hs,hmost,hden⟩:=gap_zero h;rw [pmE,if_pos h,seekE,if_pos kn.may,if_pos (ris_B hr)]
theorem prs_rank {s:SlC} {key:Int} (h:seekE s=0):∃A B,prs s 0 s.ks.length=A++B∧A.length=rnkC s key∧(∀p ∈ A,p.1<key)∧∀p ∈ B,key≤p.1:=by
 have hb:=bel_rank h key;obtain ⟨h1,h2⟩:=ris_split (seek_ris h) key;refine ⟨(prs s 0 s.ks.length).take (rnkC s key),(prs s 0 s.ks.length).drop (rnkC s key),(List.take_append_drop _ _).symm,?_,by rw [←hb];exact h1,by rw [←hb];exact h2⟩;have:=rnk_le s key;have e:=prs_length s 0 s.ks.length;unfold manyC at this;rw [List.length_take];omega
theorem lay_gap {c:Cfg} {s:SlC} {i:Nat} (hu:U64s s.ws) (h:gapE c s=0) (hi:i<s.ks.length) (hb:bitW s.ws i=true) (x y:Int):gapE c (lyC s i x y)=0∧(lyC s i x y).ks.length=s.ks.length∧U64s (lyC s i x y).ws∧prs (lyC s i x y) 0 s.ks.length=prs s 0 i++(x,y)::prs s (i+1) s.ks.length∧prs s 0 s.ks.length=prs s 0 i++(s.ks.getD i 0,s.vs.getD i 0)::prs s (i+1) s.ks.length:=by
 obtain ⟨hc,a,H,kn,hs,hmost,hden⟩:=gap_zero h;rw [sum_many kn hu] at hmost;obtain ⟨g,hlw⟩:=gapN_gd kn hu;have g2:=g.ly hi x y;have hbit:∀j,bitW (lyC s i x y).ws j=bitW s.ws j:=fun j=>by
  rw [ly_bit g hi];by_cases hj:j=i
  · rw [hj,hb];rfl
  · simp [hj]
 have hcw:∀u v,cntW (lyC s i x y).ws u v=cntW s.ws u v:=fun u v=>cntW_congr fun j _ _=>hbit j
 have hg:gapE c (lyC s i x y)=0:=by
  refine gapE_den kn.cap g2 (by rw [hcw];exact hmost) fun h hh j hj=> ?_
  have:=(denB_iff g).1 hden h hh j hj;unfold cntH at this ⊢;rw [hcw];exact this
 have hp:=(prs_tk_all g hi hb).2;refine ⟨hg,g2.elk,g2.u,?_,hp⟩;have out:∀j,j≠i→bitW (lyC s i x y).ws j=bitW s.ws j∧(lyC s i x y).ks.getD j 0=s.ks.getD j 0∧(lyC s i x y).vs.getD j 0=s.vs.getD j 0:=fun j hj=>⟨hbit j,(ly_out (fun e=>hj e.symm) x y).1,(ly_out (fun e=>hj e.symm) x y).2⟩
 obtain ⟨a1,a2⟩:=ly_at (c:=s) hi (by rw [kn.nv,←kn.nk];exact hi) x y;rw [prs_app _ (Nat.zero_le i) (Nat.le_of_lt hi),prs_app _ (Nat.le_succ i) hi,prs_one,if_pos (by rw [hbit];exact hb),a1,a2,prs_same (d:=s) (a:=0) (b:=i) fun j _ hj=>out j xo,prs_same (d:=s) (a:=i+1) fun j hj _=>out j xo];rfl
theorem pput_res {c:Cfg} {s:SlC} {key val:Int} (hu:U64s s.ws) (h:pPutE c s key=0):
    pmE c (pPutC c s key val)=0∧fndL (prs (pPutC c s key val) 0 (pPutC c s key val).ks.length) key=some (key,val)∧(∀o,o≠key→fndL (prs (pPutC c s key val) 0 (pPutC c s key val).ks.length) o=fndL (prs s 0 s.ks.length) o)∧(prs (pPutC c s key val) 0 (pPutC c s key val).ks.length).length=(prs s 0 s.ks.length).length+if hasB s key=true then 0 else 1:=by
 have h0:pmE c s=0:=by
  unfold pPutE at h;split at h
  · assumption
  · exact absurd h (by assumption)
 obtain ⟨hg,hs⟩:=pm_zero h0;have hr:=seek_ris hs;rw [pPutC,if_pos h];cases hb:hasB s key with
 | true=>
  obtain ⟨-,h1,h2,h3,-⟩:=has_yes hs hb;obtain ⟨e1,e2,-,e3,e4⟩:=lay_gap hu hg h1 h2 key val;rw [h3] at e4;rw [e4] at hr;obtain ⟨r1,r2,r3⟩:=Ris.apart hr;obtain ⟨r4,r5⟩:=List.pairwise_cons.1 r2;have hAB:Ris (prs s 0 (posC s key)++prs s (posC s key+1) s.ks.length):=List.pairwise_append.2 ⟨r1,r5,fun p hp q hq=>r3 p hp q (List.mem_cons_of_mem _ hq)⟩;have ha:∀p ∈ prs s 0 (posC s key),p.1<key:=fun p hp=>r3 p hp _ (List.mem_cons_self ..)
  obtain ⟨m1,m2,-,m4⟩:=mid_res (val:=val) hAB ha r4;obtain ⟨-,-,-,n4⟩:=mid_res (val:=s.vs.getD (posC s key) 0) hAB ha r4;rw [if_pos rfl,e2,e3];refine ⟨pmE_mk e1 (by rw [e2,e3];exact m1),m2,fun o ho=>by rw [m4 o ho,e4,n4 o ho],by rw [e4];simp⟩
 | false=>
  have hp0:putE c s (rnkC s key)=0:=by
   rw [pmput_e h0];unfold pPutE at h;rw [if_pos h0,hb] at h;simpa using h
  obtain ⟨e1,e2⟩:=put_res hu (key,val) hp0;obtain ⟨A,B,q1,q2,q3,q4⟩:=prs_rank (key:=key) hs;have hn:=fnd_none_iff (has_no hs hb).2;rw [q1] at hr hn;obtain ⟨m1,m2,-,m4⟩:=mid_res (val:=val) hr q3 fun p hp=>by
   have:=q4 p hp;have:=hn p (List.mem_append_right _ hp);omega
  have e3:insL (prs s 0 s.ks.length) (rnkC s key) (key,val)=A++(key,val)::B:=by
   rw [q1,insL,←q2,List.take_left,List.drop_left]
  rw [Int.toNat_natCast,e3] at e2;rw [if_neg xsi,e2];exact ⟨pmE_mk e1 (by rw [e2];exact m1),m2,fun o ho=>by rw [m4 o ho,q1],by rw [q1];simp;omega⟩
end
end Go.Proofs.YtmnlagmmbfjbeaaDoor

/- Merged: PmTwR, PmNw, Ref9P, Ref9Ok, PmTuJn, PmaTurns, GapNm, PmNums, PmSe, PmTuWalk, Open, OpenIx. -/
import Derived.Test.YtmnlagmmbfjbeaaGreatDoorPmaTurnsP16
import Derived.Test.YtmnlagmmbfjbeaaGreatDoorPmaTurnsP6
import Derived.Test.YtmnlagmmbfjbeaaGreatDoorPmaTurnsP11
import Derived.Test.YtmnlagmmbfjbeaaGreatDoorPmaTurnsP3
import Derived.Test.YtmnlagmmbfjbeaaGreatDoorPmaTurnsP15
import Derived.Test.YtmnlagmmbfjbeaaGreatDoorPmaTurnsP7
import Derived.Test.YtmnlagmmbfjbeaaGreatDoorPmaTurnsP9
import Derived.Test.YtmnlagmmbfjbeaaGreatDoorPmaTurnsP24
import Derived.Test.YtmnlagmmbfjbeaaGreatDoorPmaTurnsP10
import Derived.Test.YtmnlagmmbfjbeaaGreatDoorPmaTurnsP25
import Derived.Test.YtmnlagmmbfjbeaaGreatDoorPmaTurnsP18
import Derived.Test.YtmnlagmmbfjbeaaGreatDoorPmaTurnsP17
import Derived.Test.YtmnlagmmbfjbeaaGreatDoorPmaTurnsP19
import Derived.Test.YtmnlagmmbfjbeaaGreatDoorPmaTurnsP22
import Derived.Test.YtmnlagmmbfjbeaaGreatDoorPmaTurnsP1
import Derived.Test.YtmnlagmmbfjbeaaGreatDoorPmaTurnsP5
import Derived.ProofKit
import Derived.OpenShut
import Derived.ShutString
import Derived.ChangeOld
import Derived.Below
import Derived.Lib.SmallJoins
namespace Go.Proofs.YtmnlagmmbfjbeaaGreatDoor
set_option maxRecDepth 100000
set_option maxHeartbeats 40000000
set_option linter.unusedVariables false
set_option linter.unusedSimpArgs false
section
open Go.RowKit Go.Shelf
attribute [local go_sem] Oper.semAt_some
theorem Twin11_ok (c:Cfg) (s:SlC) (wa ka va ca:Option Addr) (wc kc vc cc:Nat) (w:World) (TW:Hid (∀W,Below w.heap.size w W→Calls Tryz.prog 24 #[.agg #[.int .i64 s.seg,.slice wa s.ws.length wc,.slice ka s.ks.length kc,.slice va s.vs.length vc,.slice ca s.cs.length cc,.int .u64 s.laid]] W (FreshSl W s))):
    Calls Tryz.prog 6 #[.agg #[.int .u8 c.tag,.int .i64 c.most,.int .i64 c.seg,.int .i64 c.least,.int .i64 c.den,.int .i64 c.ll,.int .i64 c.rl,.int .i64 c.rh,.int .i64 c.lh,.int .i64 s.seg,.slice wa s.ws.length wc,.slice ka s.ks.length kc,.slice va s.vs.length vc,.slice ca s.cs.length cc,.int .u64 s.laid]] w (FreshPm w c s):=by
 go_enter Tryz.func6,Tryz.ntmps6
 go_upto_region 1 with (fail)
 generalize hwz:((w.alloc _).alloc _)=wz;have hh:=ec15 hwz (au15 (al15 (b:=w.heap.size) xsi));obtain ⟨c_t0,c_t1,c_t2,c_t3,c_t4,c_t5,c_t6,c_t7,c_t8,c_t9,c_t10,c_t11,c_t12,c_t13,c_t14⟩:=hh;have z_t:=elt hwz (auz (alz (b:=w.heap.size) xsi));have hh:=ec15 hwz (al15 (b:=w.heap.size+1) xsi);obtain ⟨c_r0,c_r1,c_r2,c_r3,c_r4,c_r5,c_r6,c_r7,c_r8,c_r9,c_r10,c_r11,c_r12,c_r13,c_r14⟩:=hh;have hh:=ef15 hwz (alf15 (b:=w.heap.size+1) xsi);obtain ⟨f_r0,f_r1,f_r2,f_r3,f_r4,f_r5,f_r6,f_r7,f_r8,f_r9,f_r10,f_r11,f_r12,f_r13,f_r14⟩:=hh;have z_r:=elt hwz (alz (b:=w.heap.size+1) xsi);have HS:Hid (Below w.heap.size w wz):=by rw [←hwz];exact hid ((br.alloc (Nat.le_refl _) _).alloc xsi _)
 have hzz:w.heap.size+2=wz.heap.size:=by rw [←hwz];simp
 clear hwz;refine wp_region_late 5 xk (N:=9) rfl xk xk xdd (fun w'=>Below wz.heap.size wz w') RB (factRAt [.is (.pointer (some ⟨w.heap.size,0,none⟩)),.is (.agg #[.int .u8 c.tag,.int .i64 c.most,.int .i64 c.seg,.int .i64 c.least,.int .i64 c.den,.int .i64 c.ll,.int .i64 c.rl,.int .i64 c.rh,.int .i64 c.lh]),.is (.pointer (some ⟨w.heap.size,9,none⟩)),.is (.agg #[.int .i64 s.seg,.slice wa s.ws.length wc,.slice ka s.ks.length kc,.slice va s.vs.length vc,.slice ca s.cs.length cc,.int .u64 s.laid]),.sl wz.heap.size s]) (factRAt_stays _) br.drew ?steps ?fin
 case steps=>
  refine ⟨?o0,?o1,?o2,?o3,?o4,trivial⟩
  case o0=>
   intro u a w' ev hJ hd K hK;have e1:tg a 1= .pointer (some ⟨w.heap.size,0,none⟩):=ev 1 xdd;have HK:=hid hK;clear hK ev hd;go_simp;exact HK.out _ _ xzc hJ rfl br
  case o1=>
   intro u a w' ev hJ hd K hK;have e3:tg a 3= .pointer (some ⟨w.heap.size,0,none⟩):=(ev 3 xdd).trans (hd 0 _ xk rfl);have g0:=xjc hJ c_t0;have g1:=xjc hJ c_t1;have g2:=xjc hJ c_t2;have g3:=xjc hJ c_t3;have g4:=xjc hJ c_t4;have g5:=xjc hJ c_t5;have g6:=xjc hJ c_t6;have g7:=xjc hJ c_t7;have g8:=xjc hJ c_t8;have HK:=hid hK;clear hK ev hd;go_simp;exact HK.out _ _ xzc hJ rfl br
  case o2=>
   intro u a w' ev hJ hd K hK;have e1:tg a 1= .pointer (some ⟨w.heap.size,0,none⟩):=ev 1 xdd;have HK:=hid hK;clear hK ev hd;go_simp;exact HK.out _ _ xzc hJ rfl br
  case o3=>
   intro u a w' ev hJ hd K hK;have e5:tg a 5= .pointer (some ⟨w.heap.size,9,none⟩):=(ev 5 xdd).trans (hd 2 _ xk rfl);have g9:=xjc hJ c_t9;have g10:=xjc hJ c_t10;have g11:=xjc hJ c_t11;have g12:=xjc hJ c_t12;have g13:=xjc hJ c_t13;have g14:=xjc hJ c_t14;have HK:=hid hK;clear hK ev hd;go_simp;exact HK.out _ _ xzc hJ rfl br
  case o4=>
   intro u a w' ev hJ hd K hK;have e6:tg a 6= .agg #[.int .i64 s.seg,.slice wa s.ws.length wc,.slice ka s.ks.length kc,.slice va s.vs.length vc,.slice ca s.cs.length cc,.int .u64 s.laid]:=(ev 6 xdd).trans (hd 3 _ xk rfl);have HK:=hid hK;have HC:=hid (TW.out w' (below_via hJ HS.out HS.out.size));have hzJ:=hJ.size;have HJ:=hid hJ;clear hK ev hd hJ;go_simp;refine HC.out.mono ?_;rintro e w'' ⟨v1,v2,v3,v4,rfl,o1,o2,o3,o4,hb⟩;exact HK.out _ _ xzc (HJ.out.trans (hb.mono hzJ)) ⟨v1,v2,v3,v4,rfl,owns_base o1 hzJ,owns_base o2 hzJ,owns_base o3 hzJ,owns_base o4 hzJ⟩ hb
 case fin=>
  intro u w2 hJ hG;have h4:u 4= .agg #[.int .u8 c.tag,.int .i64 c.most,.int .i64 c.seg,.int .i64 c.least,.int .i64 c.den,.int .i64 c.ll,.int .i64 c.rl,.int .i64 c.rh,.int .i64 c.lh]:=hG 1 _ rfl;obtain ⟨v1,v2,v3,v4,h7,p1,p2,p3,p4⟩:(FactR.sl wz.heap.size s).holds (u 7) w2:=hG 4 _ rfl;obtain ⟨a1,k1,rfl,-⟩:=owns_news p1;obtain ⟨a2,k2,rfl,-⟩:=owns_news p2;obtain ⟨a3,k3,rfl,-⟩:=owns_news p3;obtain ⟨a4,k4,rfl,-⟩:=owns_news p4;have hz_w2:=hJ.size;simp (disch:=omega) only [xcl hJ,xfr hJ] at *;replace z_t:=blt hJ z_t;replace z_r:=blt hJ z_r;have hB2:Below w.heap.size w w2:=below_via hJ HS.out xo;have HP:=hid (And.intro p1 (And.intro p2 (And.intro p3 p4)));clear hG hJ p1 p2 p3 p4;simp only [mixFrame,mixL,dstsOf,List.take_succ_cons,List.take_zero,List.filterMap_cons,List.filterMap_nil,List.contains_cons,List.contains_nil,Nat.reduceBEq,Bool.or_false,Bool.false_or,Bool.or_true,Bool.true_or,if_true,if_false,Bool.false_eq_true,Nat.reduceAdd,Nat.zero_add,List.drop_succ_cons,List.drop_zero,h4,h7];go_wp2
  have hz1:w.heap.size+1<wz.heap.size:=xo;have HC:=hid (fifteen_some ⟨c_r0,c_r1,c_r2,c_r3,c_r4,c_r5,c_r6,c_r7,c_r8,c_r9,c_r10,c_r11,c_r12,c_r13,c_r14⟩);exact end_row (W:=w2) (b:=w.heap.size+1) [.int .u8 c.tag,.int .i64 c.most,.int .i64 c.seg,.int .i64 c.least,.int .i64 c.den,.int .i64 c.ll,.int .i64 c.rl,.int .i64 c.rh,.int .i64 c.lh,.int .i64 s.seg,.slice a1 s.ws.length k1,.slice a2 s.ks.length k2,.slice a3 s.vs.length k3,.slice a4 s.cs.length k4,.int .u64 s.laid] HC rfl rfl (fun _ h=>results_c rfl rfl (run_loadVar_many _ Tryz.underlying31 rfl xk h)) fun _ s=>⟨_,_,_,_,rfl,s.ow hz1 HP.out.1,s.ow hz1 HP.out.2.1,s.ow hz1 HP.out.2.2.1,s.ow hz1 HP.out.2.2.2,s.be hB2⟩
end
section
open Go.RowKit
end
section
open Go.RowKit Go.Shelf Go.Sort
attribute [local go_sem] Oper.semAt_some
end
section
open Go.RowKit
theorem Gone09_ok {c:Cfg} {s:SlC} {a H:Nat} (kn:GapN c s a H) (hc:cfMay c=true) (hs:s.seg=c.seg) (sa:SlA) (hz:CapsZ sa) (n:Nat) (hn:n<manyC s) (w:World) (hin:SlIn w s sa):
    Calls Tryz.prog 89 #[.agg #[.int .u8 c.tag,.int .i64 c.most,.int .i64 c.seg,.int .i64 c.least,.int .i64 c.den,.int .i64 c.ll,.int .i64 c.rl,.int .i64 c.rh,.int .i64 c.lh],slV s sa,.int .i64 n] w (FreshSl w (takN c s a H n)):=by
 obtain ⟨p1,p2,p3,p4,p5,p6⟩:=kn.pows;obtain ⟨g,hlw⟩:=gapN_gd kn hin.u;have hcf:=cfHead_num (cfMay_head hc);have hwn:=g.wn;have hew:=g.elw;have hvk:s.vs.length=s.ks.length:=g.elv;have hcl:s.cs.length=2^H:=g.elc;have hpH:=Nat.two_pow_pos H;have hcseg:c.seg=((2^a:Nat):Int):=kn.cap.seg;have hlen:(plsW s.ws 0 s.ks.length).length=manyC s:=plsW_length _ _ _;have hn':n<(plsW s.ws 0 s.ks.length).length:=xo;obtain ⟨-,hbit,hat⟩:=pls_rank hn';have PL:Hid (∀W,Below w.heap.size w W→Calls Tryz.prog 133 #[slV s sa,.int .i64 n] W (AnsB W (.int .i64 ((plsW s.ws 0 s.ks.length).getD n 0:Nat)))):=hid fun W hb=>
  Place09_ok s.seg _ _ _ _ _ _ _ _ _ _ _ _ _ n (plsW s.ws 0 s.ks.length) hn' W (hid fun W' hb'=>Places02_ok sa.wa sa.wc s.ws hin.u 0 s.ks.length xo xo xo W' ((hin.below hb).below hb').w)
 unfold takN;generalize (plsW s.ws 0 s.ks.length).getD n 0=at_ at *;obtain ⟨kz,gz,zl,-,-,hzm⟩:=take_in kn hin.u hat hbit;have hzu:=gz.u;have EM:Hid (∀W,Below w.heap.size w W→Calls Tryz.prog 122 #[slV s sa,.int .i64 at_] W (FreshSl W (tkC s at_))):=hid fun W hb=>by
  have TW:∀W',Below W.heap.size W W'→Calls Tryz.prog 24 #[slV s sa] W' (FreshSlN W' s):=fun W' hb'=>Twin04N_ok s sa W' ((hin.below hb).below hb') xo xo xo xo hz.1 hz.2.1 hz.2.2.1 hz.2.2.2
  have g2:SlGd s (2^a) s.ws.length s.ks.length s.cs.length:=by rw [g.elw,g.elc];exact g
  unfold slV at TW ⊢;rw [hvk] at TW ⊢;exact Emptied_core W s.seg sa.wa sa.ka sa.va sa.ca sa.wc sa.kc sa.vc sa.cc s.ws.length s.ks.length s.cs.length s.laid s at_ (2^a) g2 xo xo xo hat hbit (hid TW)
 have hzb:at_<(tkC s at_).ks.length:=xo;have hLn:(prs (tkC s at_) 0 (tkC s at_).ks.length).length=manyC (tkC s at_):=prs_length _ _ _;have UN:Hid (∀W (zb:SlA),Below w.heap.size w W→SlIn W (tkC s at_) zb→Calls Tryz.prog 134 #[.agg #[.int .u8 c.tag,.int .i64 c.most,.int .i64 c.seg,.int .i64 c.least,.int .i64 c.den,.int .i64 c.ll,.int .i64 c.rl,.int .i64 c.rh,.int .i64 c.lh],slV (tkC s at_) zb,.int .i64 at_] W (AnsB W (.int .i64 (topI (unfB c (tkC s at_) a H at_) (H+1))))):=hid fun W zb hb hzi=>by
  refine under09_ok c (tkC s at_).seg _ _ _ _ _ _ _ _ _ _ _ _ _ a H at_ p6 (unfB c (tkC s at_) a H at_) (fun h=>inH (tkC s at_) a h at_) (fun h hh=>by have:=inH_bd kz hzu hh hzb;have:=kz.pows;omega) W (hid fun W' hb'=> ?_) (hid fun h hh W' hb'=>Of06_ok c.seg a h at_ hcseg (by have:=kn.cap.a6;omega) xo W') (hid fun h hh W' hb'=>among9_win kz hzu zb hh hzb W' (hzi.below hb')) (hid fun h hh W' hb'=> ?_)
  · have:=Height05_ok c (tkC s at_).ks.length xo xo xo W';rwa [kz.cap.hgt] at this
  · have b:=inH_bd kz hzu hh hzb;have q:=kz.pows;have:=NotFew05_ok c (tkC s at_).ks.length a H h kz.cap hh (inH (tkC s at_) a h at_) xo xo W';rwa [show sprB c (tkC s at_).ks.length H h (inH (tkC s at_) a h at_)= !unfB c (tkC s at_) a H at_ h by unfold unfB;rw [Bool.not_not]] at this
 dsimp only;generalize tkC s at_=z at *;obtain ⟨z1,z2,z3,z4,z5,z6⟩:=kz.pows;obtain ⟨g',hlw'⟩:=gapN_gd kz hzu;have hzw:=g'.elw;have hzn:=g'.wn;have hzv:z.vs.length=z.ks.length:=g'.elv;have HT:Hid (∀W,Below w.heap.size w W→Calls Tryz.prog 96 #[.agg #[.int .u8 c.tag,.int .i64 c.most,.int .i64 c.seg,.int .i64 c.least,.int .i64 c.den,.int .i64 c.ll,.int .i64 c.rl,.int .i64 c.rh,.int .i64 c.lh],.int .i64 z.ks.length] W (AnsB W (.int .i64 H))):=hid fun W hb=>by
  have:=Height05_ok c z.ks.length xo xo xo W;rwa [kz.cap.hgt] at this
 have htb:=topI_bd (unfB c z a H at_) (H+1);by_cases ht1:topI (unfB c z a H at_) (H+1)= -1
 · rw [if_pos ht1];exact Gone_none c s.seg _ _ _ _ _ _ _ _ _ _ _ _ _ at_ n _ z hzu xo w PL EM UN
 · rw [if_neg ht1];by_cases ht:topI (unfB c z a H at_) (H+1)=H
   · rw [if_pos ht];have hcn:manyC z≤z.ks.length:=by have:=cntW_le z.ws 0 z.ks.length;unfold manyC;omega
     obtain ⟨H',n1,n2,n3,n4⟩:=nar_ok (m:=manyC z) 20 z.ks.length a H kz.cap xo xo;have hnar:narF c (manyC z) 20 z.ks.length=((2^a*2^H':Nat):Int):=n2.all;have hbig:=n2.big;have hdiv:(narF c (manyC z) 20 z.ks.length).toNat/2^a=2^H':=by rw [hnar,Int.toNat_natCast,Nat.mul_div_cancel_left _ xo]
     rw [hdiv];have hle:manyC z≤2^a*2^H':=by rw [hnar] at n3;omega
     refine Gone_wide c s.seg _ _ _ _ _ _ _ _ _ _ _ _ _ a H at_ n (manyC z) _ (prs z 0 z.ks.length) z _ hzu kz.cap hcn ht w PL EM UN HT (hid fun W zb hb hzi=> ?_) (hid fun W zb hb hzi=> ?_) (hid fun la pl W zb hb hzi hla=> ?_)
     · have:=Many09_ok kz zb W hzi;rwa [sum_many kz hzu] at this
     · exact Of04_ok z zb 0 z.ks.length xo xo (Nat.le_refl _) hzv xo W hzi
     · rw [hnar];exact Wide08_ok g' zb (2^H') (Nat.two_pow_pos H') hbig (prs z 0 z.ks.length) (by rw [hLn];exact hle) la pl W hla
   · rw [if_neg ht];obtain ⟨h,eh,hh⟩:∃h:Nat,topI (unfB c z a H at_) (H+1)+1=h∧h≤H:=⟨(topI (unfB c z a H at_) (H+1)+1).toNat,by omega,by omega⟩
     have hht:(topI (unfB c z a H at_) (H+1)+1).toNat=h:=xo;simp only [hht];have b:=wnd_bd (a:=a) (at_:=at_) hh (by rw [←kz.nk];omega);have hhi:(wnd a h at_+1)*2^(a+h)≤z.ks.length:=by rw [kz.nk];exact b.2.2.2
     have hlen2:=prs_length z (wnd a h at_*2^(a+h)) ((wnd a h at_+1)*2^(a+h));have hc2:=cntW_le z.ws (wnd a h at_*2^(a+h)) ((wnd a h at_+1)*2^(a+h));have hlh:wnd a h at_*2^(a+h)≤(wnd a h at_+1)*2^(a+h):=Nat.mul_le_mul_right _ xo;have ehi:((wnd a h at_*2^(a+h):Nat):Int)+((2^(a+h):Nat):Int)=(((wnd a h at_+1)*2^(a+h):Nat):Int):=by rw [←Int.natCast_add,Nat.succ_mul]
     refine Gone_even c s.seg _ _ _ _ _ _ _ _ _ _ _ _ _ H at_ n h _ ((wnd a h at_*2^(a+h):Nat):Int) (((wnd a h at_+1)*2^(a+h):Nat):Int) (prs z (wnd a h at_*2^(a+h)) ((wnd a h at_+1)*2^(a+h))) z _ hzu p6 hh xo xo eh ht w PL EM UN HT (hid fun W hb=> ?_) (hid fun W zb hb hzi=> ?_) (hid fun la pl W zb hb hzi hzc hla=> ?_)
     · rw [←ehi];exact Of06_ok c.seg a h at_ hcseg (by have:=kn.cap.a6;omega) xo W
     · exact Of04_ok z zb _ _ xo xo hhi hzv xo W hzi
     · exact Spread08_ok g' hlw' zb hzc _ _ hlh hhi _ (by rw [hlen2];exact hc2) la pl W hzi hla
end
section
open Go.RowKit
theorem seg_gd {c:Cfg} {s:SlC} {a H:Nat} (kn:GapN c s a H) (hu:U64s s.ws):SlGd s (2^a) s.ws.length s.ks.length s.cs.length:=by
 obtain ⟨g,-⟩:=gapN_gd kn hu;rw [g.elw,g.elc];exact g
theorem pmLay_ok {c:Cfg} {s:SlC} (hg:gapE c s=0) (sa:SlA) (i:Nat) (hi:i<s.ks.length) (x y:Int) (w:World) (hin:SlIn w s sa):
    Calls Tryz.prog 39 #[slV s sa,.int .i64 i,.agg #[.int .i64 x,.int .i64 y]] w (FreshSl2 w (lyC s i x y) (.int .i64 0)):=by
 obtain ⟨hc,a,H,kn,hs,hmost,hden⟩:=gap_zero hg;obtain ⟨g0,hlw⟩:=gapN_gd kn hin.u;obtain ⟨p1,p2,p3,p4,p5,p6⟩:=kn.pows;have g:=seg_gd kn hin.u;have hew:=g0.elw;have hvk:s.vs.length=s.ks.length:=g.elv;have hpH:=Nat.two_pow_pos H;have hcl:s.cs.length=2^H:=g0.elc;have CK:=hid (fun W (hb:Below w.heap.size w W)=>slCheck_ok s sa xo xo W (hin.below hb));have hE:slE s=0:=by rw [slE,if_pos kn.may]
 rw [hE] at CK;have TW:=hid (fun W (hb:Below w.heap.size w W)=>slTwin_ok s sa W (hin.below hb) xo xo xo xo);have hok:=g.ok;have hwn:=g.wn;have hcn:=g.cn;have hsg:=g.seg;dsimp only [slV] at *;rw [hvk] at CK TW ⊢;exact slLayW_core w s.seg sa.wa sa.ka sa.va sa.ca sa.wc sa.kc sa.vc sa.cc s.ws.length s.ks.length s.cs.length s.laid s i (2^a) x y rfl rfl rfl rfl hvk rfl xo xo xo xo xo xo hsg xo hi hwn hcn hok CK TW
theorem pmaPut_ok (c:Cfg) (s:SlC) (sa:SlA) (key val:Int) (hl:s.ws.length≤1000000000000) (hl2:s.ks.length≤1000000000000) (hcc:s.cs.length≤sa.cc) (w:World) (hin:SlIn w s sa) (hT:TabAt w):
    Calls Tryz.prog 19 #[pmV c s sa,.int .i64 key,.int .i64 val] w (FreshPm2 w (pPutF c s key) (pPutC c s key val) (.int .i64 (pPutE c s key))):=by
 have CK:Hid (∀W,Below w.heap.size w W→Calls Tryz.prog 14 #[pmV c s sa] W (AnsB W (.int .i64 (pmE c s)))):=hid fun W hb=>pmaCheck_ok c s sa hl hl2 hcc W (hin.below hb)
 by_cases h0:pmE c s=0
 · obtain ⟨hg,hs⟩:=pm_zero h0;rw [h0] at CK;have FN:Hid (∀W,Below w.heap.size w W→Calls Tryz.prog 30 #[slV s sa,.int .i64 key] W (AnsB W (.tuple #[.int .i64 (findV s key).1,.int .i64 (findV s key).2]))):=hid fun W hb=>seekFind_ok s sa key hl hl2 W (hin.below hb) (hT.below hb)
   cases hb:hasB s key with
   | true=>
    obtain ⟨e1,h1,h2,h3,-⟩:=has_yes hs hb;have e:pPutE c s key=0:=by rw [pPutE,if_pos h0,if_pos hb]
    rw [e1] at FN;rw [pPutF,if_pos e,pPutC,if_pos e,if_pos hb,e];exact pmaPut_lay c s _ sa.wa sa.ka sa.va sa.ca sa.wc sa.kc sa.vc sa.cc key val (posC s key) w CK FN (hid fun W hw=>pmLay_ok hg sa _ h1 key val W (hin.below hw))
   | false=>
    obtain ⟨e1,-⟩:=has_no hs hb;rw [e1] at FN;have RK:Hid (∀W,Below w.heap.size w W→Calls Tryz.prog 40 #[slV s sa,.int .i64 key] W (AnsB W (.tuple #[.int .i64 (rankV s key).1,.int .i64 (rankV s key).2]))):=hid fun W hw=>seekRank_ok s sa key hl hl2 W (hin.below hw) (hT.below hw)
    have er:rankV s key=((rnkC s key:Int),0):=by rw [rankV,if_pos hs];rfl
    rw [er] at RK;have GP:Hid (∀W,Below w.heap.size w W→Calls Tryz.prog 41 #[.agg #[.int .u8 c.tag,.int .i64 c.most,.int .i64 c.seg,.int .i64 c.least,.int .i64 c.den,.int .i64 c.ll,.int .i64 c.rl,.int .i64 c.rh,.int .i64 c.lh],slV s sa,.int .i64 (rnkC s key),.agg #[.int .i64 key,.int .i64 val]] W (FreshSl2 W (putC c s (rnkC s key) (key,val)) (.int .i64 (putE c s (rnkC s key))))):=hid fun W hw=>gapPut_ok c s sa hl hl2 hcc (rnkC s key) key val W (hin.below hw) (hT.below hw)
    have hp:=pmput_e (key:=key) h0;by_cases hm:(manyC s:Int)=c.most
    · have e:pPutE c s key=9:=by rw [pPutE,if_pos h0,hb,if_neg xdd,if_pos hm]
      rw [if_pos hm] at hp;have ec:putC c s (rnkC s key) (key,val)=nilC:=by rw [putC,hp,if_neg xdd]
      rw [ec,hp] at GP;rw [pPutF,pPutC,e,if_neg xdd,if_neg xdd];exact pmaPut_full c s sa.wa sa.ka sa.va sa.ca sa.wc sa.kc sa.vc sa.cc key val 0 6 (rnkC s key) xdd w CK FN RK GP
    · have e:pPutE c s key=0:=by rw [pPutE,if_pos h0,hb,if_neg xdd,if_neg hm]
      rw [if_neg hm] at hp;rw [hp] at GP;rw [pPutF,if_pos e,pPutC,if_pos e,hb,if_neg xdd,e];exact pmaPut_in c s _ sa.wa sa.ka sa.va sa.ca sa.wc sa.kc sa.vc sa.cc key val 0 6 (rnkC s key) xdd w CK FN RK GP
 · have e:pPutE c s key=pmE c s:=by rw [pPutE,if_neg h0]
   rw [pPutF,pPutC,e,if_neg h0,if_neg h0];exact pmaPut_err c s sa.wa sa.ka sa.va sa.ca sa.wc sa.kc sa.vc sa.cc key val _ h0 w CK
theorem pmaDel_ok (c:Cfg) (s:SlC) (sa:SlA) (key:Int) (hl:s.ws.length≤1000000000000) (hl2:s.ks.length≤1000000000000) (hcc:s.cs.length≤sa.cc) (w:World) (hin:SlIn w s sa) (hT:TabAt w):
    Calls Tryz.prog 21 #[pmV c s sa,.int .i64 key] w (FreshPm2 w (pDelF c s key) (pDelC c s key) (.int .i64 (pDelE c s key))):=by
 have CK:Hid (∀W,Below w.heap.size w W→Calls Tryz.prog 14 #[pmV c s sa] W (AnsB W (.int .i64 (pmE c s)))):=hid fun W hb=>pmaCheck_ok c s sa hl hl2 hcc W (hin.below hb)
 by_cases h0:pmE c s=0
 · obtain ⟨hg,hs⟩:=pm_zero h0;rw [h0] at CK;have FN:Hid (∀W,Below w.heap.size w W→Calls Tryz.prog 30 #[slV s sa,.int .i64 key] W (AnsB W (.tuple #[.int .i64 (findV s key).1,.int .i64 (findV s key).2]))):=hid fun W hb=>seekFind_ok s sa key hl hl2 W (hin.below hb) (hT.below hb)
   cases hb:hasB s key with
   | true=>
    obtain ⟨e1,h1,h2,h3,-⟩:=has_yes hs hb;have e:pDelE c s key=0:=by rw [pDelE,if_pos h0,if_pos hb]
    rw [e1] at FN;have RK:Hid (∀W,Below w.heap.size w W→Calls Tryz.prog 40 #[slV s sa,.int .i64 key] W (AnsB W (.tuple #[.int .i64 (rankV s key).1,.int .i64 (rankV s key).2]))):=hid fun W hw=>seekRank_ok s sa key hl hl2 W (hin.below hw) (hT.below hw)
    have er:rankV s key=((rnkC s key:Int),0):=by rw [rankV,if_pos hs];rfl
    rw [er] at RK;have GP:Hid (∀W,Below w.heap.size w W→Calls Tryz.prog 43 #[.agg #[.int .u8 c.tag,.int .i64 c.most,.int .i64 c.seg,.int .i64 c.least,.int .i64 c.den,.int .i64 c.ll,.int .i64 c.rl,.int .i64 c.rh,.int .i64 c.lh],slV s sa,.int .i64 (rnkC s key)] W (FreshSl2 W (takC c s (rnkC s key)) (.int .i64 (takE c s (rnkC s key))))):=hid fun W hw=>gapTake_ok c s sa hl hl2 hcc (rnkC s key) W (hin.below hw) (hT.below hw)
    rw [pmtak_e h0 hb] at GP;rw [pDelF,if_pos e,pDelC,if_pos e,e];exact pmaDel_in c s _ sa.wa sa.ka sa.va sa.ca sa.wc sa.kc sa.vc sa.cc key (posC s key) (rnkC s key) w CK FN RK GP
   | false=>
    obtain ⟨e1,-⟩:=has_no hs hb;have e:pDelE c s key=6:=by rw [pDelE,if_pos h0,hb,if_neg xdd]
    rw [e1] at FN;rw [pDelF,pDelC,e,if_neg xdd,if_neg xdd];exact pmaDel_none c s sa.wa sa.ka sa.va sa.ca sa.wc sa.kc sa.vc sa.cc key 0 6 xdd w CK FN
 · have e:pDelE c s key=pmE c s:=by rw [pDelE,if_neg h0]
   rw [pDelF,pDelC,e,if_neg h0,if_neg h0];exact pmaDel_err c s sa.wa sa.ka sa.va sa.ca sa.wc sa.kc sa.vc sa.cc key _ h0 w CK
theorem val_yes {s:SlC} {key:Int} (h:seekE s=0) (hb:hasB s key=true):∃v,valV (prs s 0 s.ks.length) key=(v,true):=by
 obtain ⟨-,-,-,-,v,hv⟩:=has_yes h hb;exact ⟨v,by rw [valV,hv]⟩
theorem val_no {s:SlC} {key:Int} (h:seekE s=0) (hb:hasB s key=false):valV (prs s 0 s.ks.length) key=(0,false):=by
 rw [valV,(has_no h hb).2]
theorem Put11_ok (c:Cfg) (s:SlC) (sa:SlA) (hz:CapsZ sa) (key val:Int) (hl:s.ws.length≤1000000000000) (hl2:s.ks.length≤1000000000000) (w:World) (hin:SlIn w s sa):
    Calls Tryz.prog 20 #[pmV c s sa,.int .i64 key,.int .i64 val] w (FreshPm2 w (pPutF c s key) (pPutC c s key val) (.int .i64 (pPutE c s key))):=by
 have CK:Hid (∀W,Below w.heap.size w W→Calls Tryz.prog 15 #[pmV c s sa] W (AnsB W (.int .i64 (pmE c s)))):=hid fun W hb=>Check11_ok c s sa hl hl2 W (hin.below hb)
 by_cases h0:pmE c s=0
 · obtain ⟨hg,hs⟩:=pm_zero h0;rw [h0] at CK;refine Put11_in c (pPutF c s key) s (pPutC c s key val) sa.wa sa.ka sa.va sa.ca sa.wc sa.kc sa.vc sa.cc key val (pPutE c s key) w CK (hid fun W hb0=> ?_);replace hin:=hin.below hb0;clear CK hb0;obtain ⟨hc,a,H,kn,hsg,hmost,hden⟩:=gap_zero hg;rw [sum_many kn hin.u] at hmost;obtain ⟨g0,hlw⟩:=gapN_gd kn hin.u;obtain ⟨p1,p2,p3,p4,p5,p6⟩:=kn.pows;have g:=seg_gd kn hin.u;have hew:=g0.elw;have hvk:s.vs.length=s.ks.length:=g.elv;have hpH:=Nat.two_pow_pos H;have hcl:s.cs.length=2^H:=g0.elc;have hLn:(prs s 0 s.ks.length).length=manyC s:=prs_length _ _ _;have hmn:manyC s≤s.ks.length:=by have:=cntW_le s.ws 0 s.ks.length;unfold manyC;omega
   have PR:Hid (∀W',Below W.heap.size W W'→Calls Tryz.prog 29 #[pmV c s sa] W' (FreshPr W' (prs s 0 s.ks.length))):=hid fun W' hb=>Prs11_ok h0 sa W' (hin.below hb)
   have VL:Hid (∀W',Below W.heap.size W W'→Calls Tryz.prog 31 #[pmV c s sa,.int .i64 key] W' (AnsB W' (.tuple #[.int .i64 (valV (prs s 0 s.ks.length) key).1,.bool (valV (prs s 0 s.ks.length) key).2]))):=hid fun W' hb=>Val11_ok h0 sa key W' (hin.below hb)
   have RK:Hid (∀W',Below W.heap.size W W'→Calls Tryz.prog 80 #[pmV c s sa,.int .i64 key] W' (AnsB W' (.int .i64 (belL (prs s 0 s.ks.length) key)))):=hid fun W' hb=>Rank11_ok c s sa.wa sa.ka sa.va sa.ca sa.wc sa.kc sa.vc sa.cc (prs s 0 s.ks.length) key xo W' (hid fun W2 hb2=>PR.out W2 (below_via hb2 hb hb.size))
   rw [bel_rank hs key] at RK;cases hb:hasB s key with
   | true=>
    obtain ⟨e1,h1,h2,h3,-⟩:=has_yes hs hb;have e:pPutE c s key=0:=by rw [pPutE,if_pos h0,if_pos hb]
    obtain ⟨v,hv⟩:=val_yes hs hb;rw [hv] at VL;rw [pPutF,if_pos e,pPutC,if_pos e,if_pos hb,e];have hpl:=take_pls hs hb;have hk:rnkC s key<(plsW s.ws 0 s.ks.length).length:=by rw [plsW_length];exact rnk_lt hs hb
    have EM:Hid (∀W',Below W.heap.size W W'→Calls Tryz.prog 122 #[.agg #[.int .i64 s.seg,.slice sa.wa s.ws.length sa.wc,.slice sa.ka s.ks.length sa.kc,.slice sa.va s.ks.length sa.vc,.slice sa.ca s.cs.length sa.cc,.int .u64 s.laid],.int .i64 (posC s key)] W' (FreshSlN W' (tkC s (posC s key)))):=hid fun W' hb'=>by
     have TW:∀W2,Below W'.heap.size W' W2→Calls Tryz.prog 24 #[slV s sa] W2 (FreshSlN W2 s):=fun W2 hb2=>Twin04N_ok s sa W2 ((hin.below hb').below hb2) xo xo xo xo hz.1 hz.2.1 hz.2.2.1 hz.2.2.2
     unfold slV at TW;rw [hvk] at TW;exact Emptied_coreN W' s.seg sa.wa sa.ka sa.va sa.ca sa.wc sa.kc sa.vc sa.cc s.ws.length s.ks.length s.cs.length s.laid s (posC s key) (2^a) g xo xo xo h1 h2 (hid TW)
    refine Laid11_yes c s (lyC s (posC s key) key val) sa.wa sa.ka sa.va sa.ca sa.wc sa.kc sa.vc sa.cc key val v (prs s 0 s.ks.length) (plsW s.ws 0 s.ks.length) (rnkC s key) (posC s key) hk (by rw [List.getD_eq_getElem?_getD,hpl];rfl) W PR VL RK (hid fun W' hb'=>Places02_ok sa.wa sa.wc s.ws hin.u 0 s.ks.length xo xo xo W' (hin.below hb').w) (hid fun W' hb'=> ?_);have hbf:bitW (tkC s (posC s key)).ws (posC s key)=false:=by
     have:=tk_bit g h1 (posC s key);rw [this];simp
    have:=With4_core W' s.seg sa.wa sa.ka sa.va sa.ca sa.wc sa.kc sa.vc sa.cc s.ws.length s.ks.length s.cs.length s.laid (tkC s (posC s key)) (posC s key) (2^a) key val (g.tk h1) xo xo xo h1 hbf (hid fun W2 hb2=>EM.out W2 (below_via hb2 hb' hb'.size));dsimp only [slV];rw [hvk];exact this
   | false=>
    rw [val_no hs hb] at VL;by_cases hm:(manyC s:Int)=c.most
    · have e:pPutE c s key=9:=by rw [pPutE,if_pos h0,hb,if_neg xdd,if_pos hm]
      rw [pPutF,pPutC,e,if_neg xdd,if_neg xdd];exact Laid11_full c s sa.wa sa.ka sa.va sa.ca sa.wc sa.kc sa.vc sa.cc key val 0 (prs s 0 s.ks.length) (rnkC s key) (by rw [hLn];exact hm) W PR VL RK
    · have e:pPutE c s key=0:=by rw [pPutE,if_pos h0,hb,if_neg xdd,if_neg hm]
      have hp:=pmput_e (key:=key) h0;rw [if_neg hm] at hp;have hr:=rnk_le s key;rw [pPutF,if_pos e,pPutC,if_pos e,hb,if_neg xdd,e,putC,if_pos hp,sgL_eq kn.cap.seg,kn.cap.hgt,Int.toNat_natCast];exact Laid11_add c s _ sa.wa sa.ka sa.va sa.ca sa.wc sa.kc sa.vc sa.cc key val 0 (prs s 0 s.ks.length) (rnkC s key) (by rw [hLn];exact hm) W PR VL RK (hid fun W' hb'=>Added09_ok kn hc hsg sa hz (rnkC s key) hr xo key val W' (hin.below hb'))
 · have e:pPutE c s key=pmE c s:=by rw [pPutE,if_neg h0]
   rw [pPutF,pPutC,e,if_neg h0,if_neg h0];exact Put11_err c s sa.wa sa.ka sa.va sa.ca sa.wc sa.kc sa.vc sa.cc key val _ h0 w CK
theorem Del11_ok (c:Cfg) (s:SlC) (sa:SlA) (hz:CapsZ sa) (key:Int) (hl:s.ws.length≤1000000000000) (hl2:s.ks.length≤1000000000000) (w:World) (hin:SlIn w s sa):
    Calls Tryz.prog 22 #[pmV c s sa,.int .i64 key] w (FreshPm2 w (pDelF c s key) (pDelC c s key) (.int .i64 (pDelE c s key))):=by
 have CK:Hid (∀W,Below w.heap.size w W→Calls Tryz.prog 15 #[pmV c s sa] W (AnsB W (.int .i64 (pmE c s)))):=hid fun W hb=>Check11_ok c s sa hl hl2 W (hin.below hb)
 by_cases h0:pmE c s=0
 · obtain ⟨hg,hs⟩:=pm_zero h0;rw [h0] at CK;refine Del11_in c (pDelF c s key) s (pDelC c s key) sa.wa sa.ka sa.va sa.ca sa.wc sa.kc sa.vc sa.cc key (pDelE c s key) w CK (hid fun W hb0=> ?_);replace hin:=hin.below hb0;clear CK hb0;obtain ⟨hc,a,H,kn,hsg,hmost,hden⟩:=gap_zero hg;obtain ⟨p1,p2,p3,p4,p5,p6⟩:=kn.pows;have hLn:(prs s 0 s.ks.length).length=manyC s:=prs_length _ _ _;have hmn:manyC s≤s.ks.length:=by have:=cntW_le s.ws 0 s.ks.length;unfold manyC;omega
   have PR:Hid (∀W',Below W.heap.size W W'→Calls Tryz.prog 29 #[pmV c s sa] W' (FreshPr W' (prs s 0 s.ks.length))):=hid fun W' hb=>Prs11_ok h0 sa W' (hin.below hb)
   have VL:Hid (∀W',Below W.heap.size W W'→Calls Tryz.prog 31 #[pmV c s sa,.int .i64 key] W' (AnsB W' (.tuple #[.int .i64 (valV (prs s 0 s.ks.length) key).1,.bool (valV (prs s 0 s.ks.length) key).2]))):=hid fun W' hb=>Val11_ok h0 sa key W' (hin.below hb)
   have RK:Hid (∀W',Below W.heap.size W W'→Calls Tryz.prog 80 #[pmV c s sa,.int .i64 key] W' (AnsB W' (.int .i64 (belL (prs s 0 s.ks.length) key)))):=hid fun W' hb=>Rank11_ok c s sa.wa sa.ka sa.va sa.ca sa.wc sa.kc sa.vc sa.cc (prs s 0 s.ks.length) key xo W' (hid fun W2 hb2=>PR.out W2 (below_via hb2 hb hb.size))
   rw [bel_rank hs key] at RK;cases hb:hasB s key with
   | true=>
    have e:pDelE c s key=0:=by rw [pDelE,if_pos h0,if_pos hb]
    obtain ⟨v,hv⟩:=val_yes hs hb;rw [hv] at VL;rw [pDelF,if_pos e,pDelC,if_pos e,e,takC,if_pos (pmtak_e h0 hb),sgL_eq kn.cap.seg,kn.cap.hgt,Int.toNat_natCast];exact Gone11_in c s _ sa.wa sa.ka sa.va sa.ca sa.wc sa.kc sa.vc sa.cc key v (rnkC s key) W VL RK (hid fun W' hb'=>Gone09_ok kn hc hsg sa hz (rnkC s key) (rnk_lt hs hb) W' (hin.below hb'))
   | false=>
    rw [val_no hs hb] at VL;have e:pDelE c s key=6:=by rw [pDelE,if_pos h0,hb,if_neg xdd]
    rw [pDelF,pDelC,e,if_neg xdd,if_neg xdd];exact Gone11_no c s sa.wa sa.ka sa.va sa.ca sa.wc sa.kc sa.vc sa.cc key 0 W VL
 · have e:pDelE c s key=pmE c s:=by rw [pDelE,if_neg h0]
   rw [pDelF,pDelC,e,if_neg h0,if_neg h0];exact Del11_err c s sa.wa sa.ka sa.va sa.ca sa.wc sa.kc sa.vc sa.cc key _ h0 w CK
end
section
open Go.RowKit Go.Shelf Go.Sort
theorem owns_kk {k:IntKind} {e:TypeId} {B:Nat} {ao:Option Addr} {n c:Nat} {w:World} {xs:List Int} (h:w.ownsRow B e 1 (.slice ao n c) n (xs.map (Value.int k))):OwnK k e B ao n c w:=⟨xs,own_len h,h⟩
theorem PU_great (c:Cfg) (s:SlC) (wa ka va ca:Option Addr) (wc kc vc cc:Nat) (key val:Int) (h:gr4 600 s.ks.length s.vs.length s.ws.length s.cs.length=true) (w:World):
    Calls Tryz.prog 4 #[pmV c s ⟨wa,ka,va,ca,wc,kc,vc,cc⟩,.int .i64 key,.int .i64 val] w (AnsB w (.bool true)):=by
 have G1:=hid (fun W=>Great11_ok c s ⟨wa,ka,va,ca,wc,kc,vc,cc⟩ 600 W);rw [h] at G1;dsimp only [pmV] at G1 ⊢;clear h;go_enter Tryz.func4,Tryz.ntmps4
 go_upto_region 1 with (fail)
 generalize hw0:w.alloc _=w0;have P_m:Hid (PB w0 (w.heap.size) [.int .u8 c.tag,.int .i64 c.most,.int .i64 c.seg,.int .i64 c.least,.int .i64 c.den,.int .i64 c.ll,.int .i64 c.rl,.int .i64 c.rh,.int .i64 c.lh,.int .i64 s.seg,.slice wa s.ws.length wc,.slice ka s.ks.length kc,.slice va s.vs.length vc,.slice ca s.cs.length cc,.int .u64 s.laid]):=by rw [←hw0];exact hid (pb_new _ _ _ xsi)
 have Z_m:w.heap.size<w0.heap.size:=by rw [←hw0];simp only [World.size_alloc];omega
 have HB0:Hid (Below w.heap.size w w0):=by rw [←hw0];exact hid (br.alloc (Nat.le_refl _) _)
 clear hw0;generalize HVm:Value.agg #[.int .u8 c.tag,.int .i64 c.most,.int .i64 c.seg,.int .i64 c.least,.int .i64 c.den,.int .i64 c.ll,.int .i64 c.rl,.int .i64 c.rh,.int .i64 c.lh,.int .i64 s.seg,.slice wa s.ws.length wc,.slice ka s.ks.length kc,.slice va s.vs.length vc,.slice ca s.cs.length cc,.int .u64 s.laid]=v_m at G1 ⊢;have HV_m:=hid HVm;clear HVm;go_wp2_with (first|refine wpl_loadv 31 (.tmp 3) _ _ v_m HV_m.out rfl rfl rfl Tryz.underlying31 rfl xk P_m.out ?_)
 go_wp2_with fail
 refine (G1.out _).mono ?_;rintro e w1 ⟨rfl,hb1⟩;replace P_m:=pbb hb1 P_m Z_m;replace Z_m:=blt hb1 Z_m;have hz_w1:=hb1.size;have HB1:=xv hb1 HB0;clear hb1;go_wp2
 go_ret
 exact ⟨rfl,HB1.out⟩
theorem PU_in (c fc fd:Cfg) (s pc tc:SlC) (wa ka va ca:Option Addr) (wc kc vc cc:Nat) (key val pe te:Int) (h:gr4 600 s.ks.length s.vs.length s.ws.length s.cs.length=false) (hu:U64s s.ws) (hpu:U64s pc.ws) (htu:U64s tc.ws) (hpl:pc.ws.length≤1000000∧pc.ks.length≤1000000∧pc.vs.length≤1000000∧pc.cs.length≤1000000) (htl:tc.ws.length≤1000000∧tc.ks.length≤1000000∧tc.vs.length≤1000000∧tc.cs.length≤1000000) (w:World)
    (TW:Hid (∀(W:World),Below w.heap.size w W→Calls Tryz.prog 6 #[pmV c s ⟨wa,ka,va,ca,wc,kc,vc,cc⟩] W (FreshPm W c s)))
    (PU:Hid (∀(W:World) (a2:SlA),Below w.heap.size w W→SlIn W s a2→s.cs.length≤a2.cc→Calls Tryz.prog 19 #[pmV c s a2,.int .i64 key,.int .i64 val] W (FreshPm2 W fc pc (.int .i64 pe))))
    (PR:Hid (∀(W:World),Below w.heap.size w W→Calls Tryz.prog 20 #[pmV c s ⟨wa,ka,va,ca,wc,kc,vc,cc⟩,.int .i64 key,.int .i64 val] W (FreshPm2 W fc pc (.int .i64 pe))))
    (TK:Hid (∀(W:World) (a2:SlA),Below w.heap.size w W→SlIn W s a2→s.cs.length≤a2.cc→Calls Tryz.prog 21 #[pmV c s a2,.int .i64 key] W (FreshPm2 W fd tc (.int .i64 te))))
    (TR:Hid (∀(W:World),Below w.heap.size w W→Calls Tryz.prog 22 #[pmV c s ⟨wa,ka,va,ca,wc,kc,vc,cc⟩,.int .i64 key] W (FreshPm2 W fd tc (.int .i64 te))))
    (S1:Hid (∀(W:World) (a2 a3:SlA),SlIn W pc a2→SlIn W pc a3→Calls Tryz.prog 17 #[pmV fc pc a2,pmV fc pc a3] W (AnsB W (.bool true))))
    (S2:Hid (∀(W:World) (a2 a3:SlA),SlIn W tc a2→SlIn W tc a3→Calls Tryz.prog 17 #[pmV fd tc a2,pmV fd tc a3] W (AnsB W (.bool true))))
    (SS:Hid (∀(W:World) (a2:SlA),Below w.heap.size w W→SlIn W s a2→Calls Tryz.prog 17 #[pmV c s a2,pmV c s ⟨wa,ka,va,ca,wc,kc,vc,cc⟩] W (AnsB W (.bool true)))):
    Calls Tryz.prog 4 #[pmV c s ⟨wa,ka,va,ca,wc,kc,vc,cc⟩,.int .i64 key,.int .i64 val] w (AnsB w (.bool true)):=by
 have G1:=hid (fun W=>Great11_ok c s ⟨wa,ka,va,ca,wc,kc,vc,cc⟩ 600 W);rw [h] at G1;dsimp only [pmV] at G1 TW PR TR ⊢;have HU:=hid (And.intro hu (And.intro hpu htu));have HPL:=hid hpl;have HTL:=hid htl;have eq0:(pe==pe)=true:=by simp
 have eq1:(te==te)=true:=by simp
 clear h hu hpu htu hpl htl;go_enter Tryz.func4,Tryz.ntmps4
 go_upto_region 1 with (fail)
 generalize hw0:w.alloc _=w0;have P_m:Hid (PB w0 (w.heap.size) [.int .u8 c.tag,.int .i64 c.most,.int .i64 c.seg,.int .i64 c.least,.int .i64 c.den,.int .i64 c.ll,.int .i64 c.rl,.int .i64 c.rh,.int .i64 c.lh,.int .i64 s.seg,.slice wa s.ws.length wc,.slice ka s.ks.length kc,.slice va s.vs.length vc,.slice ca s.cs.length cc,.int .u64 s.laid]):=by rw [←hw0];exact hid (pb_new _ _ _ xsi)
 have Z_m:w.heap.size<w0.heap.size:=by rw [←hw0];simp only [World.size_alloc];omega
 have HB0:Hid (Below w.heap.size w w0):=by rw [←hw0];exact hid (br.alloc (Nat.le_refl _) _)
 clear hw0;generalize HVm:Value.agg #[.int .u8 c.tag,.int .i64 c.most,.int .i64 c.seg,.int .i64 c.least,.int .i64 c.den,.int .i64 c.ll,.int .i64 c.rl,.int .i64 c.rh,.int .i64 c.lh,.int .i64 s.seg,.slice wa s.ws.length wc,.slice ka s.ks.length kc,.slice va s.vs.length vc,.slice ca s.cs.length cc,.int .u64 s.laid]=v_m at G1 TW PR TR ⊢;have HV_m:=hid HVm;clear HVm;have hzp:w.heap.size<w0.heap.size:=Z_m;go_wp2_with (first|refine wpl_loadv 31 (.tmp 3) _ _ v_m HV_m.out rfl rfl rfl Tryz.underlying31 rfl xk P_m.out ?_)
 go_wp2_with fail
 refine (G1.out _).mono ?_;rintro e w1 ⟨rfl,hb1⟩;replace P_m:=pbb hb1 P_m Z_m;replace Z_m:=blt hb1 Z_m;have hz_w1:=hb1.size;have HB1:=xv hb1 HB0;clear hb1 G1;as_aux_lemma=>
 go_wp2_with (first|refine wpl_loadv 31 (.tmp 3) _ _ v_m HV_m.out rfl rfl rfl Tryz.underlying31 rfl xk P_m.out ?_)
 go_wp2_with fail
 refine (TW.out _ HB1.out).mono ?_;rintro e w2 ⟨x1,x2,x3,x4,rfl,p1,p2,p3,p4,hb2⟩;replace P_m:=pbb hb2 P_m Z_m;replace Z_m:=blt hb2 Z_m;have hz_w2:=hb2.size;have HB2:=xv hb2 HB1;obtain ⟨a1,k1,rfl,i1,-,-,-,-⟩:=row_of_owns p1;obtain ⟨a2,k2,rfl,i2,-,-,-,-⟩:=row_of_owns p2;obtain ⟨a3,k3,rfl,i3,-,-,-,-⟩:=row_of_owns p3;obtain ⟨a4,k4,rfl,i4,-,-,hcc,-⟩:=row_of_owns p4;have HIo:Hid (SlIn w2 s ⟨a1,a2,a3,a4,k1,k2,k3,k4⟩):=hid ⟨i1,i2,i3,i4,HU.out.1⟩;have HCC:=hid hcc;clear hcc;clear hb2 p1 p2 p3 p4 i1 i2 i3 i4;as_aux_lemma=>
 go_upto_region 4 with (refine wpl_store_new 31 (.tmp 7) (.tmp 20) _ _ rfl rfl rfl rfl xk rfl (by simp [Value.oneCell']) ?_)
 generalize hw3:w2.alloc _=w3;replace P_m:=pbg hw3 P_m Z_m;replace Z_m:=elt hw3 (auz Z_m);have P_o:Hid (PB w3 (w2.heap.size) [.int .u8 c.tag,.int .i64 c.most,.int .i64 c.seg,.int .i64 c.least,.int .i64 c.den,.int .i64 c.ll,.int .i64 c.rl,.int .i64 c.rh,.int .i64 c.lh,.int .i64 s.seg,.slice a1 s.ws.length k1,.slice a2 s.ks.length k2,.slice a3 s.vs.length k3,.slice a4 s.cs.length k4,.int .u64 s.laid]):=by rw [←hw3];exact hid (pb_new _ _ _ xsi)
 have Z_o:w2.heap.size<w3.heap.size:=by rw [←hw3];simp only [World.size_alloc];omega
 have hb3:Below w2.heap.size w2 w3:=by rw [←hw3];exact br.alloc (Nat.le_refl _) _
 have hz3:w2.heap.size<w3.heap.size:=by rw [←hw3];simp
 have HB3:=xv hb3 HB2;have D2_3:=hid (hb3);clear hw3 hb3;generalize HVo:Value.agg #[.int .u8 c.tag,.int .i64 c.most,.int .i64 c.seg,.int .i64 c.least,.int .i64 c.den,.int .i64 c.ll,.int .i64 c.rl,.int .i64 c.rh,.int .i64 c.lh,.int .i64 s.seg,.slice a1 s.ws.length k1,.slice a2 s.ks.length k2,.slice a3 s.vs.length k3,.slice a4 s.cs.length k4,.int .u64 s.laid]=v_o at ⊢;have HV_o:=hid HVo;clear HVo;have HI3:=hid (HIo.out.below D2_3.out);clear HIo D2_3;as_aux_lemma=>
 have PU3:=hid (PU.out w3 ⟨a1,a2,a3,a4,k1,k2,k3,k4⟩ HB3.out HI3.out HCC.out);dsimp only [pmV] at PU3;rw [HV_o.out] at PU3;go_wp2_with (first|refine wpl_loadv 31 (.tmp 7) _ _ v_o HV_o.out rfl rfl rfl Tryz.underlying31 rfl xk P_o.out ?_)
 go_wp2_with fail
 refine (PU3.out).mono ?_;rintro e w4 ⟨x1,x2,x3,x4,rfl,p1,p2,p3,p4,hb4⟩;replace P_m:=pbb hb4 P_m Z_m;replace Z_m:=blt hb4 Z_m;replace P_o:=pbb hb4 P_o Z_o;replace Z_o:=blt hb4 Z_o;have hz_w4:=hb4.size;have HB4:=xv hb4 HB3;have D3_4:=hid (hb4);obtain ⟨f1,g1,rfl,i1,-,-,-,-⟩:=row_of_owns p1;obtain ⟨f2,g2,rfl,i2,-,-,-,-⟩:=row_of_owns p2;obtain ⟨f3,g3,rfl,i3,-,-,-,-⟩:=row_of_owns p3;obtain ⟨f4,g4,rfl,i4,-,-,-,-⟩:=row_of_owns p4;have HIx:Hid (SlIn w4 pc ⟨f1,f2,f3,f4,g1,g2,g3,g4⟩):=hid ⟨i1,i2,i3,i4,HU.out.2.1⟩;have HOx:=hid (And.intro p1 (And.intro p2 (And.intro p3 p4)));clear hb4 p1 p2 p3 p4 i1 i2 i3 i4;as_aux_lemma=>
 go_upto_region 5 with (refine wpl_store_new 31 (.tmp 8) (.tmp 26) _ _ rfl rfl rfl rfl xk rfl (by simp [Value.oneCell']) ?_)
 generalize hw5:w4.alloc _=w5;replace P_m:=pbg hw5 P_m Z_m;replace Z_m:=elt hw5 (auz Z_m);replace P_o:=pbg hw5 P_o Z_o;replace Z_o:=elt hw5 (auz Z_o);have P_x:Hid (PB w5 (w4.heap.size) [.int .u8 fc.tag,.int .i64 fc.most,.int .i64 fc.seg,.int .i64 fc.least,.int .i64 fc.den,.int .i64 fc.ll,.int .i64 fc.rl,.int .i64 fc.rh,.int .i64 fc.lh,.int .i64 pc.seg,.slice f1 pc.ws.length g1,.slice f2 pc.ks.length g2,.slice f3 pc.vs.length g3,.slice f4 pc.cs.length g4,.int .u64 pc.laid]):=by rw [←hw5];exact hid (pb_new _ _ _ xsi)
 have Z_x:w4.heap.size<w5.heap.size:=by rw [←hw5];simp only [World.size_alloc];omega
 have hb5:Below w4.heap.size w4 w5:=by rw [←hw5];exact br.alloc (Nat.le_refl _) _
 have hz5:w4.heap.size<w5.heap.size:=by rw [←hw5];simp
 have HB5:=xv hb5 HB4;have D3_5:=xv hb5 D3_4;have D4_5:=hid (hb5);clear D3_4;clear hw5 hb5;generalize HVx:Value.agg #[.int .u8 fc.tag,.int .i64 fc.most,.int .i64 fc.seg,.int .i64 fc.least,.int .i64 fc.den,.int .i64 fc.ll,.int .i64 fc.rl,.int .i64 fc.rh,.int .i64 fc.lh,.int .i64 pc.seg,.slice f1 pc.ws.length g1,.slice f2 pc.ks.length g2,.slice f3 pc.vs.length g3,.slice f4 pc.cs.length g4,.int .u64 pc.laid]=v_x at ⊢;have HV_x:=hid HVx;clear HVx;as_aux_lemma=>
 clear PU3;go_wp2_with (first|refine wpl_loadv 31 (.tmp 3) _ _ v_m HV_m.out rfl rfl rfl Tryz.underlying31 rfl xk P_m.out ?_)
 go_wp2_with fail
 refine (PR.out _ HB5.out).mono ?_;rintro e w6 ⟨x1,x2,x3,x4,rfl,p1,p2,p3,p4,hb6⟩;replace P_m:=pbb hb6 P_m Z_m;replace Z_m:=blt hb6 Z_m;replace P_o:=pbb hb6 P_o Z_o;replace Z_o:=blt hb6 Z_o;replace P_x:=pbb hb6 P_x Z_x;replace Z_x:=blt hb6 Z_x;have hz_w6:=hb6.size;have HB6:=xv hb6 HB5;have D3_6:=xv hb6 D3_5;have D4_6:=xv hb6 D4_5;clear D3_5 D4_5;obtain ⟨m1,n1,rfl,i1,-,-,-,-⟩:=row_of_owns p1;obtain ⟨m2,n2,rfl,i2,-,-,-,-⟩:=row_of_owns p2;obtain ⟨m3,n3,rfl,i3,-,-,-,-⟩:=row_of_owns p3;obtain ⟨m4,n4,rfl,i4,-,-,-,-⟩:=row_of_owns p4;have HIy:Hid (SlIn w6 pc ⟨m1,m2,m3,m4,n1,n2,n3,n4⟩):=hid ⟨i1,i2,i3,i4,HU.out.2.1⟩;clear hb6 p1 p2 p3 p4 i1 i2 i3 i4;as_aux_lemma=>
 go_upto_region 6 with (refine wpl_store_new 31 (.tmp 10) (.tmp 33) _ _ rfl rfl rfl rfl xk rfl (by simp [Value.oneCell']) ?_)
 generalize hw7:w6.alloc _=w7;replace P_m:=pbg hw7 P_m Z_m;replace Z_m:=elt hw7 (auz Z_m);replace P_o:=pbg hw7 P_o Z_o;replace Z_o:=elt hw7 (auz Z_o);replace P_x:=pbg hw7 P_x Z_x;replace Z_x:=elt hw7 (auz Z_x);have P_y:Hid (PB w7 (w6.heap.size) [.int .u8 fc.tag,.int .i64 fc.most,.int .i64 fc.seg,.int .i64 fc.least,.int .i64 fc.den,.int .i64 fc.ll,.int .i64 fc.rl,.int .i64 fc.rh,.int .i64 fc.lh,.int .i64 pc.seg,.slice m1 pc.ws.length n1,.slice m2 pc.ks.length n2,.slice m3 pc.vs.length n3,.slice m4 pc.cs.length n4,.int .u64 pc.laid]):=by rw [←hw7];exact hid (pb_new _ _ _ xsi)
 have Z_y:w6.heap.size<w7.heap.size:=by rw [←hw7];simp only [World.size_alloc];omega
 have hb7:Below w6.heap.size w6 w7:=by rw [←hw7];exact br.alloc (Nat.le_refl _) _
 have hz7:w6.heap.size<w7.heap.size:=by rw [←hw7];simp
 have HB7:=xv hb7 HB6;have D3_7:=xv hb7 D3_6;have D4_7:=xv hb7 D4_6;have D6_7:=hid (hb7);clear D3_6 D4_6;clear hw7 hb7;generalize HVy:Value.agg #[.int .u8 fc.tag,.int .i64 fc.most,.int .i64 fc.seg,.int .i64 fc.least,.int .i64 fc.den,.int .i64 fc.ll,.int .i64 fc.rl,.int .i64 fc.rh,.int .i64 fc.lh,.int .i64 pc.seg,.slice m1 pc.ws.length n1,.slice m2 pc.ks.length n2,.slice m3 pc.vs.length n3,.slice m4 pc.cs.length n4,.int .u64 pc.laid]=v_y at ⊢;have HV_y:=hid HVy;clear HVy;as_aux_lemma=>
 have TK7:=hid (TK.out w7 ⟨a1,a2,a3,a4,k1,k2,k3,k4⟩ HB7.out (HI3.out.below D3_7.out) HCC.out);dsimp only [pmV] at TK7;rw [HV_o.out] at TK7;go_wp2_with (first|refine wpl_loadv 31 (.tmp 7) _ _ v_o HV_o.out rfl rfl rfl Tryz.underlying31 rfl xk P_o.out ?_)
 go_wp2_with fail
 refine (TK7.out).mono ?_;rintro e w8 ⟨x1,x2,x3,x4,rfl,p1,p2,p3,p4,hb8⟩;replace P_m:=pbb hb8 P_m Z_m;replace Z_m:=blt hb8 Z_m;replace P_o:=pbb hb8 P_o Z_o;replace Z_o:=blt hb8 Z_o;replace P_x:=pbb hb8 P_x Z_x;replace Z_x:=blt hb8 Z_x;replace P_y:=pbb hb8 P_y Z_y;replace Z_y:=blt hb8 Z_y;have hz_w8:=hb8.size;have HB8:=xv hb8 HB7;have D3_8:=xv hb8 D3_7;have D4_8:=xv hb8 D4_7;have D6_8:=xv hb8 D6_7;clear D3_7 D4_7 D6_7;obtain ⟨q1,r1,rfl,i1,-,-,-,-⟩:=row_of_owns p1;obtain ⟨q2,r2,rfl,i2,-,-,-,-⟩:=row_of_owns p2;obtain ⟨q3,r3,rfl,i3,-,-,-,-⟩:=row_of_owns p3;obtain ⟨q4,r4,rfl,i4,-,-,-,-⟩:=row_of_owns p4;have HIz:Hid (SlIn w8 tc ⟨q1,q2,q3,q4,r1,r2,r3,r4⟩):=hid ⟨i1,i2,i3,i4,HU.out.2.2⟩;have HOz:=hid (And.intro p1 (And.intro p2 (And.intro p3 p4)));clear hb8 p1 p2 p3 p4 i1 i2 i3 i4;as_aux_lemma=>
 go_upto_region 7 with (refine wpl_store_new 31 (.tmp 12) (.tmp 39) _ _ rfl rfl rfl rfl xk rfl (by simp [Value.oneCell']) ?_)
 generalize hw9:w8.alloc _=w9;replace P_m:=pbg hw9 P_m Z_m;replace Z_m:=elt hw9 (auz Z_m);replace P_o:=pbg hw9 P_o Z_o;replace Z_o:=elt hw9 (auz Z_o);replace P_x:=pbg hw9 P_x Z_x;replace Z_x:=elt hw9 (auz Z_x);replace P_y:=pbg hw9 P_y Z_y;replace Z_y:=elt hw9 (auz Z_y);have P_z:Hid (PB w9 (w8.heap.size) [.int .u8 fd.tag,.int .i64 fd.most,.int .i64 fd.seg,.int .i64 fd.least,.int .i64 fd.den,.int .i64 fd.ll,.int .i64 fd.rl,.int .i64 fd.rh,.int .i64 fd.lh,.int .i64 tc.seg,.slice q1 tc.ws.length r1,.slice q2 tc.ks.length r2,.slice q3 tc.vs.length r3,.slice q4 tc.cs.length r4,.int .u64 tc.laid]):=by rw [←hw9];exact hid (pb_new _ _ _ xsi)
 have Z_z:w8.heap.size<w9.heap.size:=by rw [←hw9];simp only [World.size_alloc];omega
 have hb9:Below w8.heap.size w8 w9:=by rw [←hw9];exact br.alloc (Nat.le_refl _) _
 have hz9:w8.heap.size<w9.heap.size:=by rw [←hw9];simp
 have HB9:=xv hb9 HB8;have D3_9:=xv hb9 D3_8;have D4_9:=xv hb9 D4_8;have D6_9:=xv hb9 D6_8;have D8_9:=hid (hb9);clear D3_8 D4_8 D6_8;clear hw9 hb9;generalize HVz:Value.agg #[.int .u8 fd.tag,.int .i64 fd.most,.int .i64 fd.seg,.int .i64 fd.least,.int .i64 fd.den,.int .i64 fd.ll,.int .i64 fd.rl,.int .i64 fd.rh,.int .i64 fd.lh,.int .i64 tc.seg,.slice q1 tc.ws.length r1,.slice q2 tc.ks.length r2,.slice q3 tc.vs.length r3,.slice q4 tc.cs.length r4,.int .u64 tc.laid]=v_z at ⊢;have HV_z:=hid HVz;clear HVz;as_aux_lemma=>
 clear TK7;go_wp2_with (first|refine wpl_loadv 31 (.tmp 3) _ _ v_m HV_m.out rfl rfl rfl Tryz.underlying31 rfl xk P_m.out ?_)
 go_wp2_with fail
 refine (TR.out _ HB9.out).mono ?_;rintro e w10 ⟨x1,x2,x3,x4,rfl,p1,p2,p3,p4,hb10⟩;replace P_m:=pbb hb10 P_m Z_m;replace Z_m:=blt hb10 Z_m;replace P_o:=pbb hb10 P_o Z_o;replace Z_o:=blt hb10 Z_o;replace P_x:=pbb hb10 P_x Z_x;replace Z_x:=blt hb10 Z_x;replace P_y:=pbb hb10 P_y Z_y;replace Z_y:=blt hb10 Z_y;replace P_z:=pbb hb10 P_z Z_z;replace Z_z:=blt hb10 Z_z;have hz_w10:=hb10.size;have HB10:=xv hb10 HB9;have D3_10:=xv hb10 D3_9;have D4_10:=xv hb10 D4_9;have D6_10:=xv hb10 D6_9;have D8_10:=xv hb10 D8_9;clear D3_9 D4_9 D6_9 D8_9;obtain ⟨t1,u1,rfl,i1,-,-,-,-⟩:=row_of_owns p1;obtain ⟨t2,u2,rfl,i2,-,-,-,-⟩:=row_of_owns p2;obtain ⟨t3,u3,rfl,i3,-,-,-,-⟩:=row_of_owns p3;obtain ⟨t4,u4,rfl,i4,-,-,-,-⟩:=row_of_owns p4;have HIv:Hid (SlIn w10 tc ⟨t1,t2,t3,t4,u1,u2,u3,u4⟩):=hid ⟨i1,i2,i3,i4,HU.out.2.2⟩;clear hb10 p1 p2 p3 p4 i1 i2 i3 i4;as_aux_lemma=>
 go_upto_region 8 with (refine wpl_store_new 31 (.tmp 14) (.tmp 45) _ _ rfl rfl rfl rfl xk rfl (by simp [Value.oneCell']) ?_)
 generalize hw11:w10.alloc _=w11;replace P_m:=pbg hw11 P_m Z_m;replace Z_m:=elt hw11 (auz Z_m);replace P_o:=pbg hw11 P_o Z_o;replace Z_o:=elt hw11 (auz Z_o);replace P_x:=pbg hw11 P_x Z_x;replace Z_x:=elt hw11 (auz Z_x);replace P_y:=pbg hw11 P_y Z_y;replace Z_y:=elt hw11 (auz Z_y);replace P_z:=pbg hw11 P_z Z_z;replace Z_z:=elt hw11 (auz Z_z);have P_v:Hid (PB w11 (w10.heap.size) [.int .u8 fd.tag,.int .i64 fd.most,.int .i64 fd.seg,.int .i64 fd.least,.int .i64 fd.den,.int .i64 fd.ll,.int .i64 fd.rl,.int .i64 fd.rh,.int .i64 fd.lh,.int .i64 tc.seg,.slice t1 tc.ws.length u1,.slice t2 tc.ks.length u2,.slice t3 tc.vs.length u3,.slice t4 tc.cs.length u4,.int .u64 tc.laid]):=by rw [←hw11];exact hid (pb_new _ _ _ xsi)
 have Z_v:w10.heap.size<w11.heap.size:=by rw [←hw11];simp only [World.size_alloc];omega
 have hb11:Below w10.heap.size w10 w11:=by rw [←hw11];exact br.alloc (Nat.le_refl _) _
 have hz11:w10.heap.size<w11.heap.size:=by rw [←hw11];simp
 have HB11:=xv hb11 HB10;have D3_11:=xv hb11 D3_10;have D4_11:=xv hb11 D4_10;have D6_11:=xv hb11 D6_10;have D8_11:=xv hb11 D8_10;have D10_11:=hid (hb11);clear D3_10 D4_10 D6_10 D8_10;clear hw11 hb11;generalize HVv:Value.agg #[.int .u8 fd.tag,.int .i64 fd.most,.int .i64 fd.seg,.int .i64 fd.least,.int .i64 fd.den,.int .i64 fd.ll,.int .i64 fd.rl,.int .i64 fd.rh,.int .i64 fd.lh,.int .i64 tc.seg,.slice t1 tc.ws.length u1,.slice t2 tc.ks.length u2,.slice t3 tc.vs.length u3,.slice t4 tc.cs.length u4,.int .u64 tc.laid]=v_v at ⊢;have HV_v:=hid HVv;clear HVv;clear PU PR TK TR TW;as_aux_lemma=>
 have S1':=hid (S1.out w11 ⟨f1,f2,f3,f4,g1,g2,g3,g4⟩ ⟨m1,m2,m3,m4,n1,n2,n3,n4⟩ (HIx.out.below D4_11.out) (HIy.out.below D6_11.out));dsimp only [pmV] at S1';rw [HV_x.out,HV_y.out] at S1';clear S1 HIx HIy;go_wp2_with (first|refine wpl_loadv 31 (.tmp 8) _ _ v_x HV_x.out rfl rfl rfl Tryz.underlying31 rfl xk P_x.out ?_|refine wpl_loadv 31 (.tmp 10) _ _ v_y HV_y.out rfl rfl rfl Tryz.underlying31 rfl xk P_y.out ?_)
 go_wp2_with fail
 refine (S1'.out).mono ?_;rintro e w12 ⟨rfl,hb12⟩;replace P_m:=pbb hb12 P_m Z_m;replace Z_m:=blt hb12 Z_m;replace P_o:=pbb hb12 P_o Z_o;replace Z_o:=blt hb12 Z_o;replace P_x:=pbb hb12 P_x Z_x;replace Z_x:=blt hb12 Z_x;replace P_y:=pbb hb12 P_y Z_y;replace Z_y:=blt hb12 Z_y;replace P_z:=pbb hb12 P_z Z_z;replace Z_z:=blt hb12 Z_z;replace P_v:=pbb hb12 P_v Z_v;replace Z_v:=blt hb12 Z_v;have hz_w12:=hb12.size;have HB12:=xv hb12 HB11;have D3_12:=xv hb12 D3_11;have D4_12:=xv hb12 D4_11;have D6_12:=xv hb12 D6_11;have D8_12:=xv hb12 D8_11;have D10_12:=xv hb12 D10_11;clear D3_11 D4_11 D6_11 D8_11 D10_11;clear hb12 S1';as_aux_lemma=>
 have S2':=hid (S2.out w12 ⟨q1,q2,q3,q4,r1,r2,r3,r4⟩ ⟨t1,t2,t3,t4,u1,u2,u3,u4⟩ (HIz.out.below D8_12.out) (HIv.out.below D10_12.out));dsimp only [pmV] at S2';rw [HV_z.out,HV_v.out] at S2';clear S2 HIz HIv;go_wp2_with (first|refine wpl_loadv 31 (.tmp 12) _ _ v_z HV_z.out rfl rfl rfl Tryz.underlying31 rfl xk P_z.out ?_|refine wpl_loadv 31 (.tmp 14) _ _ v_v HV_v.out rfl rfl rfl Tryz.underlying31 rfl xk P_v.out ?_)
 go_wp2_with fail
 refine (S2'.out).mono ?_;rintro e w13 ⟨rfl,hb13⟩;replace P_m:=pbb hb13 P_m Z_m;replace Z_m:=blt hb13 Z_m;replace P_o:=pbb hb13 P_o Z_o;replace Z_o:=blt hb13 Z_o;replace P_x:=pbb hb13 P_x Z_x;replace Z_x:=blt hb13 Z_x;replace P_z:=pbb hb13 P_z Z_z;replace Z_z:=blt hb13 Z_z;replace P_v:=pbb hb13 P_v Z_v;replace Z_v:=blt hb13 Z_v;have hz_w13:=hb13.size;have HB13:=xv hb13 HB12;have D3_13:=xv hb13 D3_12;have D4_13:=xv hb13 D4_12;have D6_13:=xv hb13 D6_12;have D8_13:=xv hb13 D8_12;have D10_13:=xv hb13 D10_12;clear D3_12 D4_12 D6_12 D8_12 D10_12;clear hb13 S2';as_aux_lemma=>
 have OX1:Hid (OwnK .u64 27 w3.heap.size f1 pc.ws.length g1 w4):=hid (owns_kk HOx.out.1);have OY1:Hid (OwnK .u64 27 w3.heap.size f1 pc.ws.length g1 w13):=hid (owns_kk (owns_below HOx.out.1 D4_13.out));have OZ1:Hid (OwnK .u64 27 w7.heap.size q1 tc.ws.length r1 w13):=hid (owns_kk (owns_below HOz.out.1 D8_13.out));have OX2:Hid (OwnK .i64 2 w3.heap.size f2 pc.ks.length g2 w4):=hid (owns_kk HOx.out.2.1);have OY2:Hid (OwnK .i64 2 w3.heap.size f2 pc.ks.length g2 w13):=hid (owns_kk (owns_below HOx.out.2.1 D4_13.out));have OZ2:Hid (OwnK .i64 2 w7.heap.size q2 tc.ks.length r2 w13):=hid (owns_kk (owns_below HOz.out.2.1 D8_13.out));have OX3:Hid (OwnK .i64 2 w3.heap.size f3 pc.vs.length g3 w4):=hid (owns_kk HOx.out.2.2.1);have OY3:Hid (OwnK .i64 2 w3.heap.size f3 pc.vs.length g3 w13):=hid (owns_kk (owns_below HOx.out.2.2.1 D4_13.out));have OZ3:Hid (OwnK .i64 2 w7.heap.size q3 tc.vs.length r3 w13):=hid (owns_kk (owns_below HOz.out.2.2.1 D8_13.out));have OX4:Hid (OwnK .i64 3 w3.heap.size f4 pc.cs.length g4 w4):=hid (owns_kk HOx.out.2.2.2);have OY4:Hid (OwnK .i64 3 w3.heap.size f4 pc.cs.length g4 w13):=hid (owns_kk (owns_below HOx.out.2.2.2 D4_13.out));have OZ4:Hid (OwnK .i64 3 w7.heap.size q4 tc.cs.length r4 w13):=hid (owns_kk (owns_below HOz.out.2.2.2 D8_13.out));have SPX:=hid (spoil11_kp (fun q=>q<w3.heap.size∨(w4.heap.size≤q∧q<w13.heap.size)) fc pc.seg pc.laid w3.heap.size f1 f2 f3 f4 g1 g2 g3 g4 pc.ws.length pc.ks.length pc.vs.length pc.cs.length w13
   OY1.out OY2.out OY3.out OY4.out xo
   (by have:=HPL.out;omega) (by have:=HPL.out;omega) (by have:=HPL.out;omega) (by have:=HPL.out;omega) (fun q hq=>by rcases hq with hq|hq<;>omega)
   (OX2.out.not fun q h1 h2 hs=>by rcases hs with hs|hs<;>omega) (OX3.out.not fun q h1 h2 hs=>by rcases hs with hs|hs<;>omega) (OX1.out.not fun q h1 h2 hs=>by rcases hs with hs|hs<;>omega) (OX4.out.not fun q h1 h2 hs=>by rcases hs with hs|hs<;>omega))
 rw [HV_x.out] at SPX;as_aux_lemma=>
 go_wp2_with (first|refine wpl_loadv 31 (.tmp 8) _ _ v_x HV_x.out rfl rfl rfl Tryz.underlying31 rfl xk P_x.out ?_)
 refine SPX.out.mono ?_;rintro e' w14 ⟨⟨vv,rfl⟩,hb14,hk14⟩;replace P_m:=hid (pb_kp hk14 P_m.out (.inl xo));replace P_o:=hid (pb_kp hk14 P_o.out (.inl xo));replace P_z:=hid (pb_kp hk14 P_z.out (.inr ⟨by omega,by omega⟩));have E14:=hid (D3_13.out.trans hb14);have OW1:=hid ((OZ1.out.kp hk14 fun q h1 h2=> .inr ⟨by omega,by omega⟩).base (show w3.heap.size≤w7.heap.size by omega));have OW2:=hid ((OZ2.out.kp hk14 fun q h1 h2=> .inr ⟨by omega,by omega⟩).base (show w3.heap.size≤w7.heap.size by omega));have OW3:=hid ((OZ3.out.kp hk14 fun q h1 h2=> .inr ⟨by omega,by omega⟩).base (show w3.heap.size≤w7.heap.size by omega));have OW4:=hid ((OZ4.out.kp hk14 fun q h1 h2=> .inr ⟨by omega,by omega⟩).base (show w3.heap.size≤w7.heap.size by omega));have SPZ:=hid (spoil11_kp (fun _=>False) fd tc.seg tc.laid w3.heap.size q1 q2 q3 q4 r1 r2 r3 r4 tc.ws.length tc.ks.length tc.vs.length tc.cs.length w14 OW1.out OW2.out OW3.out OW4.out E14.out.size (by have:=HTL.out;omega) (by have:=HTL.out;omega) (by have:=HTL.out;omega) (by have:=HTL.out;omega) (fun q h=>h.elim) (fun p h hs=>hs) (fun p h hs=>hs) (fun p h hs=>hs) (fun p h hs=>hs));rw [HV_z.out] at SPZ;clear hb14 hk14 OX1 OX2 OX3 OX4 OY1 OY2 OY3 OY4 OZ1 OZ2 OZ3 OZ4 OW1 OW2 OW3 OW4 SPX HOx HOz;as_aux_lemma=>
 go_wp2_with (first|refine wpl_loadv 31 (.tmp 12) _ _ v_z HV_z.out rfl rfl rfl Tryz.underlying31 rfl xk P_z.out ?_)
 refine SPZ.out.mono ?_;rintro e' w15 ⟨⟨vv2,rfl⟩,hb15,hk15⟩;clear hk15;replace P_m:=hid (pb_via (M:=w3.heap.size) (fun p v hp hc=>(hb15.cell hp).trans hc) P_m.out xo);replace P_o:=hid (pb_via (M:=w3.heap.size) (fun p v hp hc=>(hb15.cell hp).trans hc) P_o.out xo);have E15:=hid (E14.out.trans hb15);have HB15:=hid (below_via E15.out HB3.out HB3.out.size);have SA:=hid (SS.out w15 ⟨a1,a2,a3,a4,k1,k2,k3,k4⟩ HB15.out (HI3.out.below E15.out));dsimp only [pmV] at SA;rw [HV_o.out,HV_m.out] at SA;clear hb15 SPZ;as_aux_lemma=>
 go_wp2_with (first|refine wpl_loadv 31 (.tmp 7) _ _ v_o HV_o.out rfl rfl rfl Tryz.underlying31 rfl xk P_o.out ?_|refine wpl_loadv 31 (.tmp 3) _ _ v_m HV_m.out rfl rfl rfl Tryz.underlying31 rfl xk P_m.out ?_)
 refine SA.out.mono ?_;rintro e' w16 ⟨rfl,hb16⟩;have HB16:=xv hb16 HB15;clear hb16;as_aux_lemma=>
 go_wp2
 go_ret
 exact ⟨rfl,HB16.out⟩
end
section
open Go.RowKit
theorem put_zero {c:Cfg} {s:SlC} {k:Int} (h:putE c s k=0):gapE c s=0∧0≤k∧k≤manyC s∧(manyC s:Int)≠c.most:=by
 unfold putE at h;by_cases h0:gapE c s=0
 · rw [if_pos h0] at h;by_cases h1:k<0∨(manyC s:Int)<k
   · rw [if_pos h1] at h;omega
   · rw [if_neg h1] at h;by_cases h2:(manyC s:Int)=c.most
     · rw [if_pos h2] at h;omega
     · exact ⟨h0,by omega,by omega,h2⟩
 · rw [if_neg h0] at h;exact absurd h h0
theorem take_zero {c:Cfg} {s:SlC} {k:Int} (h:takE c s k=0):gapE c s=0∧0≤k∧k<manyC s:=by
 unfold takE at h;by_cases h0:gapE c s=0
 · rw [if_pos h0] at h;by_cases h1:k<0∨(manyC s:Int)≤k
   · rw [if_pos h1] at h;omega
   · exact ⟨h0,by omega,by omega⟩
 · rw [if_neg h0] at h;exact absurd h h0
theorem gd_nums {d:SlC} {S n lc:Nat} (g:SlGd d S ((n+63)/64) n lc):d.ws.length≤1000000∧d.ks.length≤1000000∧d.vs.length≤1000000∧d.cs.length≤1000000∧U64s d.ws:=by
 have h1:=g.elw;have h2:=g.elk;have h3:=g.elv;have h4:=g.elc;have h5:=g.cn;have h6:=g.s4;have h7:=g.nm;have h9:1*lc≤S*lc:=Nat.mul_le_mul_right _ xo;exact ⟨by omega,by omega,by omega,by omega,g.u⟩
theorem nil_nums:nilC.ws.length≤1000000∧nilC.ks.length≤1000000∧nilC.vs.length≤1000000∧nilC.cs.length≤1000000∧U64s nilC.ws:=
  ⟨Nat.zero_le _,Nat.zero_le _,Nat.zero_le _,Nat.zero_le _,fun x hx=>by cases hx⟩
theorem put_gd {c:Cfg} {s:SlC} (hu:U64s s.ws) {k:Int} (p:Int×Int) (h:putE c s k=0):∃S n lc,SlGd (putC c s k p) S ((n+63)/64) n lc:=by
 obtain ⟨h0,k0,k1,k2⟩:=put_zero h;obtain ⟨hc,a,H,kn,hs,hmost,hden⟩:=gap_zero h0;rw [sum_many kn hu] at hmost;obtain ⟨g,hlw⟩:=gapN_gd kn hu;obtain ⟨p1,p2,p3,p4,p5,p6⟩:=kn.pows;obtain ⟨n,rfl⟩:∃n:Nat,k=n:=⟨k.toNat,by omega⟩
 have hn:n≤manyC s:=xo;have hat:=homeC_lt p5 n;rw [putC,if_pos h,sgL_eq kn.cap.seg,kn.cap.hgt,Int.toNat_natCast];unfold putN;by_cases ht:topI (ovB c s a H (homeC s n)) (H+1)=H
 · rw [if_pos ht];have hLn:(prs s 0 s.ks.length).length=manyC s:=prs_length _ _ _;have hil:(insL (prs s 0 s.ks.length) n p).length=manyC s+1:=by rw [insL_length (by rw [hLn];exact hn),hLn]
   have hcap:=cap_facts kn (n:=manyC s+1) xo;exact ⟨_,_,_,(emptyL_gd p1 p2 hcap.2.2.1 hcap.2.2.2.1 s.laid).sp (Nat.zero_le _) (Nat.le_refl _) (by rw [hil];have:=hcap.2.2.2.2.1;omega)⟩
 · rw [if_neg ht];obtain ⟨h',eh,hh,hroom⟩:=put_room kn hu hat ht;have hht:(topI (ovB c s a H (homeC s n)) (H+1)+1).toNat=h':=xo;simp only [hht];have b:=wnd_bd (a:=a) (at_:=homeC s n) hh (by rw [←kn.nk];exact hat);have hhi:(wnd a h' (homeC s n)+1)*2^(a+h')≤s.ks.length:=by rw [kn.nk];exact b.2.2.2
   obtain ⟨q1,q2⟩:=home_in p5 hn b.2.1 b.2.2.1 hhi;have hil:=insL_length q2 p;have hpl:=prs_length s (wnd a h' (homeC s n)*2^(a+h')) ((wnd a h' (homeC s n)+1)*2^(a+h'));have eww:(wnd a h' (homeC s n)+1)*2^(a+h')=wnd a h' (homeC s n)*2^(a+h')+2^(a+h'):=Nat.succ_mul _ _;exact ⟨_,_,_,g.sp xo hhi (by rw [hil,hpl];omega)⟩
theorem put_nums (c:Cfg) (s:SlC) (hu:U64s s.ws) (k:Int) (p:Int×Int):(putC c s k p).ws.length≤1000000∧(putC c s k p).ks.length≤1000000∧(putC c s k p).vs.length≤1000000∧(putC c s k p).cs.length≤1000000∧U64s (putC c s k p).ws:=by
 by_cases h:putE c s k=0
 · obtain ⟨_,_,_,g⟩:=put_gd hu p h;exact gd_nums g
 · rw [putC,if_neg h];exact nil_nums
theorem take_gd {c:Cfg} {s:SlC} (hu:U64s s.ws) {k:Int} (h:takE c s k=0):∃S n lc,SlGd (takC c s k) S ((n+63)/64) n lc:=by
 obtain ⟨h0,k0,k1⟩:=take_zero h;obtain ⟨hc,a,H,kn,hs,hmost,hden⟩:=gap_zero h0;obtain ⟨n,rfl⟩:∃n:Nat,k=n:=⟨k.toNat,by omega⟩
 have hn:n<(plsW s.ws 0 s.ks.length).length:=by rw [plsW_length];unfold manyC at k1;omega
 obtain ⟨hr,hbit,hat⟩:=pls_rank hn;rw [takC,if_pos h,sgL_eq kn.cap.seg,kn.cap.hgt,Int.toNat_natCast];unfold takN;generalize (plsW s.ws 0 s.ks.length).getD n 0=at_ at *;obtain ⟨kz,gz,zl,t1,t2,hzm⟩:=take_in kn hu hat hbit;dsimp only;generalize tkC s at_=z at *;obtain ⟨z1,z2,z3,z4,z5,z6⟩:=kz.pows;by_cases ht1:topI (unfB c z a H at_) (H+1)= -1
 · rw [if_pos ht1];exact ⟨_,_,_,gz⟩
 · rw [if_neg ht1];by_cases ht:topI (unfB c z a H at_) (H+1)=H
   · rw [if_pos ht];have hLn:(prs z 0 z.ks.length).length=manyC z:=prs_length _ _ _;have hcn:manyC z≤z.ks.length:=by have:=cntW_le z.ws 0 z.ks.length;unfold manyC;omega
     obtain ⟨H',n1,n2,n3,n4⟩:=nar_ok (m:=manyC z) 20 z.ks.length a H kz.cap xo xo;have hnar:narF c (manyC z) 20 z.ks.length=((2^a*2^H':Nat):Int):=n2.all;have hbig:=n2.big;have hdiv:(narF c (manyC z) 20 z.ks.length).toNat/2^a=2^H':=by rw [hnar,Int.toNat_natCast,Nat.mul_div_cancel_left _ xo]
     rw [hdiv];have hle:manyC z≤2^a*2^H':=by rw [hnar] at n3;omega
     exact ⟨_,_,_,(emptyL_gd z1 z2 (Nat.two_pow_pos H') hbig z.laid).sp (Nat.zero_le _) (Nat.le_refl _) (by rw [hLn];omega)⟩
   · rw [if_neg ht];obtain ⟨h',eh,hh⟩:∃h':Nat,topI (unfB c z a H at_) (H+1)+1=h'∧h'≤H:=by
      have:=topI_bd (unfB c z a H at_) (H+1);exact ⟨(topI (unfB c z a H at_) (H+1)+1).toNat,by omega,by omega⟩
     have hht:(topI (unfB c z a H at_) (H+1)+1).toNat=h':=xo;simp only [hht];have b:=wnd_bd (a:=a) (at_:=at_) hh (by rw [←kz.nk];omega);have hhi:(wnd a h' at_+1)*2^(a+h')≤s.ks.length:=by rw [←zl,kz.nk];exact b.2.2.2
     have eww:(wnd a h' at_+1)*2^(a+h')=wnd a h' at_*2^(a+h')+2^(a+h'):=Nat.succ_mul _ _;have hpl:=prs_length z (wnd a h' at_*2^(a+h')) ((wnd a h' at_+1)*2^(a+h'));have hc2:=cntW_le z.ws (wnd a h' at_*2^(a+h')) ((wnd a h' at_+1)*2^(a+h'));exact ⟨_,_,_,gz.sp xo hhi (by rw [hpl];exact hc2)⟩
theorem take_nums (c:Cfg) (s:SlC) (hu:U64s s.ws) (k:Int):(takC c s k).ws.length≤1000000∧(takC c s k).ks.length≤1000000∧(takC c s k).vs.length≤1000000∧(takC c s k).cs.length≤1000000∧U64s (takC c s k).ws:=by
 by_cases h:takE c s k=0
 · obtain ⟨_,_,_,g⟩:=take_gd hu h;exact gd_nums g
 · rw [takC,if_neg h];exact nil_nums
end
section
open Go.RowKit
theorem gr4_le {n lk lv lw lc:Nat} (h:gr4 n lk lv lw lc=false):lk≤n∧lv≤n∧lw≤n∧lc≤n:=by
 simp only [gr4,Bool.or_eq_false_iff,decide_eq_false_iff_not] at h;omega
theorem pput_nums (c:Cfg) (s:SlC) (hu:U64s s.ws) (key val:Int):(pPutC c s key val).ws.length≤1000000∧(pPutC c s key val).ks.length≤1000000∧(pPutC c s key val).vs.length≤1000000∧(pPutC c s key val).cs.length≤1000000∧U64s (pPutC c s key val).ws:=by
 by_cases h:pPutE c s key=0
 · rw [pPutC,if_pos h];cases hb:hasB s key with
   | true=>
    rw [if_pos rfl];have h0:pmE c s=0:=by
     by_cases h0:pmE c s=0
     · exact h0
     · rw [pPutE,if_neg h0] at h;exact h
    obtain ⟨hg,hs⟩:=pm_zero h0;obtain ⟨hc,a,H,kn,hsg,hmost,hden⟩:=gap_zero hg;obtain ⟨g,-⟩:=gapN_gd kn hu;exact gd_nums (g.ly (has_yes hs hb).2.1 key val)
   | false=>rw [if_neg xdd];exact put_nums c s hu _ _
 · rw [pPutC,if_neg h];exact nil_nums
theorem pdel_nums (c:Cfg) (s:SlC) (hu:U64s s.ws) (key:Int):(pDelC c s key).ws.length≤1000000∧(pDelC c s key).ks.length≤1000000∧(pDelC c s key).vs.length≤1000000∧(pDelC c s key).cs.length≤1000000∧U64s (pDelC c s key).ws:=by
 by_cases h:pDelE c s key=0
 · rw [pDelC,if_pos h];exact take_nums c s hu _
 · rw [pDelC,if_neg h];exact nil_nums
end
section
open Go.RowKit Go.Shelf Go.Sort
theorem Sm11_e0 (c:Cfg) (s:SlC) (wa ka va ca:Option Addr) (wc kc vc cc:Nat) (wa' ka' va' ca':Option Addr) (wc' kc' vc' cc':Nat) (w:World) (SM:Hid (∀W,Below w.heap.size w W→Calls Tryz.prog 37 #[slV s ⟨wa,ka,va,ca,wc,kc,vc,cc⟩,slV s ⟨wa',ka',va',ca',wc',kc',vc',cc'⟩] W (AnsB W (.bool true)))):
    Calls Tryz.prog 17 #[pmV c s ⟨wa,ka,va,ca,wc,kc,vc,cc⟩,pmV c s ⟨wa',ka',va',ca',wc',kc',vc',cc'⟩] w (AnsB w (.bool true)):=by
 dsimp only [pmV,slV] at *;have g0:(c.tag==c.tag)=true:=by simp
 have g1:(c.most==c.most)=true:=by simp
 have g2:(c.seg==c.seg)=true:=by simp
 have g3:(c.least==c.least)=true:=by simp
 have g4:(c.den==c.den)=true:=by simp
 have g5:(c.ll==c.ll)=true:=by simp
 have g6:(c.rl==c.rl)=true:=by simp
 have g7:(c.rh==c.rh)=true:=by simp
 have g8:(c.lh==c.lh)=true:=by simp
 go_enter Tryz.func17,Tryz.ntmps17
 go_wp2_with fail
 refine (SM.out _ xbel).mono ?_;rintro e w1 ⟨rfl,hb1⟩;have hz_w1:=hb1.size;try simp only [World.size_alloc,World.size_setCell] at hz_w1
 have hh:=bc15 hb1 (au15 (al15 (b:=w.heap.size) xsi));obtain ⟨c_t0,c_t1,c_t2,c_t3,c_t4,c_t5,c_t6,c_t7,c_t8,c_t9,c_t10,c_t11,c_t12,c_t13,c_t14⟩:=hh;have z_t:=blt hb1 (auz (alz (b:=w.heap.size) xsi));have hh:=bc15 hb1 (al15 (b:=w.heap.size+1) xsi);obtain ⟨c_o0,c_o1,c_o2,c_o3,c_o4,c_o5,c_o6,c_o7,c_o8,c_o9,c_o10,c_o11,c_o12,c_o13,c_o14⟩:=hh;have z_o:=blt hb1 (alz (b:=w.heap.size+1) xsi);have hB1:Below w.heap.size w w1:=xbel;go_wp2
 go_ret
 exact ⟨rfl,hB1⟩
theorem Sm11_eq (c:Cfg) (s:SlC) (a a':SlA) (w:World) (hin:SlIn w s a) (hin':SlIn w s a') (hl1:s.ws.length≤1000000000) (hl2:s.ks.length≤1000000000) (hl3:s.vs.length≤1000000000) (hl4:s.cs.length≤1000000000):
    Calls Tryz.prog 17 #[pmV c s a,pmV c s a'] w (AnsB w (.bool true)):=
  Sm11_e0 c s a.wa a.ka a.va a.ca a.wc a.kc a.vc a.cc a'.wa a'.ka a'.va a'.ca a'.wc a'.kc a'.vc a'.cc w (hid fun W hb=>Same04_eq s a a' W (hin.below hb) (hin'.below hb) xo xo xo xo)
end
section
open Go.RowKit
theorem PmaTurns_walk (w:World) (c:Cfg) (s:SlC) (sa:SlA) (hin:SlIn w s sa) (z1:sa.wa=none→sa.wc=0) (z2:sa.ka=none→sa.kc=0) (z3:sa.va=none→sa.vc=0) (z4:sa.ca=none→sa.cc=0) (key val:Int) (hT:TabAt w):
    Calls Tryz.prog 4 #[pmV c s sa,.int .i64 key,.int .i64 val] w (AnsB w (.bool true)):=by
 cases hgr:gr4 600 s.ks.length s.vs.length s.ws.length s.cs.length with
 | true=>exact PU_great c s _ _ _ _ _ _ _ _ key val hgr w
 | false=>
  have g:=gr4_le hgr;have n2:=pput_nums c s hin.u key val;have n3:=pdel_nums c s hin.u key;exact PU_in c (pPutF c s key) (pDelF c s key) s (pPutC c s key val) (pDelC c s key) sa.wa sa.ka sa.va sa.ca sa.wc sa.kc sa.vc sa.cc key val (pPutE c s key) (pDelE c s key) hgr hin.u n2.2.2.2.2 n3.2.2.2.2 ⟨n2.1,n2.2.1,n2.2.2.1,n2.2.2.2.1⟩ ⟨n3.1,n3.2.1,n3.2.2.1,n3.2.2.2.1⟩ w
    (hid fun W hb=>Twin11_ok c s sa.wa sa.ka sa.va sa.ca sa.wc sa.kc sa.vc sa.cc W (hid fun W' hb'=>Twin04_ok s sa W' ((hin.below hb).below hb') xo xo xo xo z1 z2 z3 z4))
    (hid fun W a2 hb hi hc=>pmaPut_ok c s a2 key val xo xo hc W hi (hT.below hb))
    (hid fun W hb=>Put11_ok c s sa ⟨z1,z2,z3,z4⟩ key val xo xo W (hin.below hb))
    (hid fun W a2 hb hi hc=>pmaDel_ok c s a2 key xo xo hc W hi (hT.below hb))
    (hid fun W hb=>Del11_ok c s sa ⟨z1,z2,z3,z4⟩ key xo xo W (hin.below hb))
    (hid fun W a2 a3 h2 h3=>Sm11_eq (pPutF c s key) (pPutC c s key val) a2 a3 W h2 h3 xo xo xo xo)
    (hid fun W a2 a3 h2 h3=>Sm11_eq (pDelF c s key) (pDelC c s key) a2 a3 W h2 h3 xo xo xo xo)
    (hid fun W a2 hb hi=>Sm11_eq c s a2 sa W hi (hin.below hb) xo xo xo xo)
end
section
open Go.ChangeShapes Go.WideShapes Go.ChangeAt Go.RowKit Go.Joins
end
section
open Go.ChangeShapes Go.WideShapes Go.ChangeAt Go.RowKit Go.Joins
theorem open_rowK {H:Type} {enc:TypeId×Value→H} {w:World} {fuel:Nat} {base:Nat} {spare:Nat→Bool} {held:Bool} {t e:TypeId} {k:IntKind} {cs:List Value} {x:DataW H×List MemPlace}
    (ht:Tryz.prog.underlying t=some (.slice e)) (he:Tryz.prog.underlying e=some (.int k)) (hc:Tryz.prog.cellsOf e=1) (h:DataW.trod enc Tryz.prog w base spare held fuel t cs=some x):
    ∃(ao:Option Addr) (xs:List Int) (cap:Nat),cs=[.slice ao xs.length cap]∧IsRow k w ao xs∧(ao=none→cap=0)∧xs.length≤maxLen∧(∀n ∈ xs,(Lit.int k n).wf=true):=by
 rcases open_ints ht he hc h with ⟨rfl,rfl⟩ | ⟨a,len,cap,zs,rfl,hb,hl,hm,hz,rfl,hc,hw⟩
 · exact ⟨none,[],0,rfl,fun i hi=>by simp at hi,fun _=>rfl,by simp,by simp⟩
 · have hlen:len≤zs.length:=by rw [hz];split<;>omega
   refine ⟨some a,zs.take len,cap,by simp [hlen],?_,fun h=>(by cases h),by simp;omega,fun n hn=>hw n (List.mem_of_mem_take hn)⟩;intro i hi;have hi':i<len:=by simp at hi;omega
   obtain ⟨b,off,sp⟩:=a;have h0:=hc 0 xo;obtain rfl:sp=none:=by simpa [Addr.add] using World.cell?_spot h0
   refine ⟨b,off,rfl,?_,fun j hj=> ?_⟩
   · have:=World.block_lt_of_cell? w _ h0;simpa [Addr.add] using this
   · have hj':j<len:=by simp at hj;omega
     have:=hc j xo;rw [Addr.add_lit] at this;rw [this];simp [List.getD_eq_getElem?_getD,List.getElem?_take,hj']
end
end Go.Proofs.YtmnlagmmbfjbeaaGreatDoor

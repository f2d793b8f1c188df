/- Merged: Ref09, Ref09C, GapLd. -/
import Derived.Test.YtookgoidlnlckaaGreatDoorGapTellsP11
import Derived.Test.YtookgoidlnlckaaGreatDoorGapTellsP24
import Derived.Test.YtookgoidlnlckaaGreatDoorGapTellsP10
import Derived.Test.YtookgoidlnlckaaGreatDoorGapTellsP23
namespace Go.Proofs.YtookgoidlnlckaaGreatDoor
set_option maxRecDepth 100000
set_option maxHeartbeats 40000000
set_option linter.unusedVariables false
set_option linter.unusedSimpArgs false
section
open Go.RowKit Go.Shelf Go.Sort
theorem Among09_core (w:World) (seg:Int) (wa ka va ca:Option Addr) (wc kc vc cc lw n lv lc:Nat) (laid:Int) (cs:List Int) (A B:Int) (S lo hi:Nat) (hseg:seg=S) (hS:4≤S) (hS2:S≤64) (hA:A=((lo*S:Nat):Int)) (hB:B=((hi*S:Nat):Int)) (h1:lo≤hi) (h2:hi≤lc) (hlc:lc≤65536) (hlen:cs.length=lc) (hcs:CntB cs S) (hcn:IsRow .i64 w ca cs):
    Calls Tryz.prog 60 #[.agg #[.int .i64 seg,.slice wa lw wc,.slice ka n kc,.slice va lv vc,.slice ca lc cc,.int .u64 laid],.int .i64 A,.int .i64 B] w (AnsB w (.int .i64 (sumC cs lo hi))):=by
 have tA:A.tdiv seg=lo:=by
  rw [hA,hseg,Int.tdiv_eq_ediv_of_nonneg xo,←Int.natCast_ediv,Nat.mul_div_cancel _ xo]
 have tB:B.tdiv seg=hi:=by
  rw [hB,hseg,Int.tdiv_eq_ediv_of_nonneg xo,←Int.natCast_ediv,Nat.mul_div_cancel _ xo]
 have hs0:(seg==0)=false:=by simp;omega
 have hs1:¬seg=0:=xo;have wlo:IntKind.i64.wrap (lo:Int)=lo:=IntWalk.i64_in _ xo;have whi:IntKind.i64.wrap (hi:Int)=hi:=IntWalk.i64_in _ xo;have HN:=hid (hcn.below ((Below.refl _ _).alloc (Nat.le_refl _) (.cells #[.int .i64 seg,.slice wa lw wc,.slice ka n kc,.slice va lv vc,.slice ca lc cc,.int .u64 laid] 29)));have HL:=hid hlen;have HC:=hid hcs;have HSS:=hid (And.intro hS hS2);clear hA hB hseg hcn hlen hcs hS hS2;go_enter Tryz.func60,Tryz.ntmps60
 go_upto_region 1 with (fail)
 generalize hwz:w.alloc (.cells #[.int .i64 seg,.slice wa lw wc,.slice ka n kc,.slice va lv vc,.slice ca lc cc,.int .u64 laid] 29)=wz;have hh:=ec6 hwz (al6 (b:=w.heap.size) (by simp));obtain ⟨c_t0,c_t1,c_t2,c_t3,c_t4,c_t5⟩:=hh;have z_t:=elt hwz (alz (b:=w.heap.size) (by simp));have HS:Hid (Below w.heap.size w wz):=by rw [←hwz];exact hid ((Below.refl _ _).alloc (Nat.le_refl _) _)
 rw [hwz] at HN;clear hwz;go_wp2
 go_loopg [7,8] (hi-lo) (fun gk sv iv wr=>∃i:Nat,i+gk=hi∧lo≤i∧iv= .int .i64 i∧sv= .int .i64 (sumC cs lo i)∧wz=wr)
 case atStart=>exact ⟨lo,by omega,Nat.le_refl _,rfl,by rw [sumC_nil],rfl⟩
 case round=>
  obtain ⟨i,hi2,hli,rfl,rfl,rfl⟩:=hrel;by_cases hlt:i<hi
  · obtain ⟨b,off,x,rfl,hxx,hc,-⟩:=HN.out.get (i:=i) (by rw [HL.out];omega);have hsb:=sumC_bd2 HC.out lo i;have hx2:=HC.out i;have hsu:=sumC_succ cs (a:=lo) (b:=i) hli;rw [hxx.out] at hsu hx2;have hsn:S*(i-lo)≤64*65536:=Nat.mul_le_mul HSS.out.2 xo;have hS64:=HSS.out.2;generalize sumC cs lo i=s0 at *;have hw1:IntKind.i64.wrap (s0+x)=s0+x:=IntWalk.i64_in _ xo;have HSU:=hid hsu;clear hxx hsu hx2 hsb;go_wp2
    go_roundg (gk-1)
    case measure=>omega
    case rel=>exact ⟨i+1,by omega,by omega,by go_num,by rw [HSU.out],rfl⟩
  · have him:i=hi:=xo;subst him;go_wp2
    go_ret
    exact ⟨rfl,HS.out⟩
theorem Many09_core (w:World) (seg:Int) (wa ka va ca:Option Addr) (wc kc vc cc lw n lv lc:Nat) (laid:Int) (many:Int)
    (AM:Hid (∀W,Below w.heap.size w W→Calls Tryz.prog 60 #[.agg #[.int .i64 seg,.slice wa lw wc,.slice ka n kc,.slice va lv vc,.slice ca lc cc,.int .u64 laid],.int .i64 0,.int .i64 n] W (AnsB W (.int .i64 many)))):
    Calls Tryz.prog 29 #[.agg #[.int .i64 seg,.slice wa lw wc,.slice ka n kc,.slice va lv vc,.slice ca lc cc,.int .u64 laid]] w (AnsB w (.int .i64 many)):=by
 go_enter Tryz.func29,Tryz.ntmps29
 go_wp2_with fail
 refine (AM.out _ ((Below.refl _ _).alloc (Nat.le_refl _) _)).mono ?_;rintro e w1 ⟨rfl,hb1⟩;have hz_w1:=hb1.size;try simp only [World.size_alloc,World.size_setCell] at hz_w1
 have hh:=bc6 hb1 (al6 (b:=w.heap.size) (by simp));obtain ⟨c_t0,c_t1,c_t2,c_t3,c_t4,c_t5⟩:=hh;have z_t:=blt hb1 (alz (b:=w.heap.size) (by simp));have hB1:Below w.heap.size w w1:=xbel;go_wp2
 go_ret
 exact ⟨rfl,hB1⟩
theorem dense_core (c:Cfg) (s:SlC) (seg:Int) (wa ka va ca:Option Addr) (wc kc vc cc lw n lv lc:Nat) (laid:Int) (a H:Nat) (k:CapC c n a H) (hlc:s.cs.length=2^H) (hnk:s.ks.length=n) (hcb:CntB s.cs (2^a)) (z:Bool) (hz:denB c s H=z) (w:World)
    (AW:Hid (∀h i,h≤H→i<2^(H-h)→∀W,Below w.heap.size w W→Calls Tryz.prog 60 #[.agg #[.int .i64 seg,.slice wa lw wc,.slice ka n kc,.slice va lv vc,.slice ca lc cc,.int .u64 laid],.int .i64 ((i*(2^a*2^h):Nat):Int),.int .i64 (((i*(2^a*2^h):Nat):Int)+((2^a*2^h:Nat):Int))] W (AnsB W (.int .i64 (sumC s.cs (i*2^h) ((i+1)*2^h)))))):
    Calls Tryz.prog 84 #[.agg #[.int .u8 c.tag,.int .i64 c.most,.int .i64 c.seg,.int .i64 c.least,.int .i64 c.den,.int .i64 c.ll,.int .i64 c.rl,.int .i64 c.rh,.int .i64 c.lh],.agg #[.int .i64 seg,.slice wa lw wc,.slice ka n kc,.slice va lv vc,.slice ca lc cc,.int .u64 laid]] w (AnsB w (.bool z)):=by
 have hH:=k.h14;have hd:=cfHead_num (cfMay_head k.may);have hzb:=k.big;have hza:=k.all;have HT:=hid (fun W=>Height05_ok c n xo xo xo W);rw [k.hgt] at HT;have WD:=hid (fun h (hh:h≤H) W=>Wide05_ok c h xo xo xo W);have FU:=hid (fun h (hh:h≤H) x h0 h1 W=>NotMany05_ok c n a H h k hh x h0 h1 W);have SP:=hid (fun h (hh:h≤H) x h0 h1 W=>NotFew05_ok c n a H h k hh x h0 h1 W);have HZ:=hid hz;have HLC:=hid hlc;have HNK:=hid hnk;have hsum:∀h i,h≤H→0≤sumC s.cs (i*2^h) ((i+1)*2^h)∧sumC s.cs (i*2^h) ((i+1)*2^h)≤65536:=by
  intro h i hh;obtain ⟨e,-,e2,-⟩:=k.wd hh;have:=sumC_bd2 hcb (i*2^h) ((i+1)*2^h);rw [win_wd] at this;omega
 have HSM:=hid hsum;have HWD:=hid (fun h (hh:h≤H)=>k.wd hh);have HNL:=hid (show n≤65536 by omega);have HNW:=hid (fun h (hh:h≤H)=>show n=2^a*2^h*2^(H-h) by
  have:=k.all;rw [Nat.mul_assoc,←Nat.pow_add 2 h (H-h),Nat.add_sub_cancel' hh];omega)
 clear hz hlc hnk hcb hsum k hd hzb hza;go_enter Tryz.func84,Tryz.ntmps84
 go_upto_region 1 with (fail)
 generalize hwx:(w.alloc (.cells #[.int .u8 c.tag,.int .i64 c.most,.int .i64 c.seg,.int .i64 c.least,.int .i64 c.den,.int .i64 c.ll,.int .i64 c.rl,.int .i64 c.rh,.int .i64 c.lh] 23)).alloc (.cells #[.int .i64 seg,.slice wa lw wc,.slice ka n kc,.slice va lv vc,.slice ca lc cc,.int .u64 laid] 29)=wx;have hh:=ec9 hwx (au9 (al9 (b:=w.heap.size) (by simp)));obtain ⟨c_t0,c_t1,c_t2,c_t3,c_t4,c_t5,c_t6,c_t7,c_t8⟩:=hh;have z_t:=elt hwx (auz (alz (b:=w.heap.size) (by simp)));have hh:=ec6 hwx (al6 (b:=w.heap.size+1) (by simp));obtain ⟨c_s0,c_s1,c_s2,c_s3,c_s4,c_s5⟩:=hh;have z_s:=elt hwx (alz (b:=w.heap.size+1) (by simp));have HB3:Hid (Below w.heap.size w wx):=by rw [←hwx];exact hid xbel
 clear hwx;go_wp2
 go_loopg [6] (H+1) (fun gk iv wr=>∃h:Nat,h+gk=H+1∧iv= .int .i64 h∧Hid (∀h',h'<h→rowB c s H h'=true)∧Hid (Below wx.heap.size wx wr))
 case atStart=>exact ⟨0,by omega,rfl,hid fun h' q=>by omega,hid (Below.refl _ _)⟩
 case round=>
  obtain ⟨h,hk,rfl,HD,HB⟩:=hrel;have hbr:=HB.out;have hz_wr:=hbr.size;simp (disch:=omega) only [xcl hbr] at c_t0 c_t1 c_t2 c_t3 c_t4 c_t5 c_t6 c_t7 c_t8 c_s0 c_s1 c_s2 c_s3 c_s4 c_s5;replace z_t:=blt hbr z_t;replace z_s:=blt hbr z_s;have HB4:=xv hbr HB3;have hz4:=HB4.out.size;clear hbr;go_wp2_with fail
  refine (HT.out _).mono ?_;rintro e w4 ⟨rfl,hb4⟩;have hz_w4:=hb4.size;simp (disch:=omega) only [xcl hb4] at c_t0 c_t1 c_t2 c_t3 c_t4 c_t5 c_t6 c_t7 c_t8 c_s0 c_s1 c_s2 c_s3 c_s4 c_s5;replace z_t:=blt hb4 z_t;replace z_s:=blt hb4 z_s;have HC4:=hid (below_via hb4 HB4.out hz4);have HW4:=xv hb4 HB;clear hb4;by_cases hlt:h<H+1
  · generalize gk=go at *;have HK:=hid hk;clear hk;have hgoh:decide ((h:Int)≤H)=true:=by simp;omega
    go_wp2_with fail
    refine (WD.out h xo _).mono ?_;rintro e w5 ⟨rfl,hb5⟩;have hz_w5:=hb5.size;simp (disch:=omega) only [xcl hb5] at c_t0 c_t1 c_t2 c_t3 c_t4 c_t5 c_t6 c_t7 c_t8 c_s0 c_s1 c_s2 c_s3 c_s4 c_s5;replace z_t:=blt hb5 z_t;replace z_s:=blt hb5 z_s;have HB5:=xv hb5 HC4;have HW5:=xv hb5 HW4;have hz5:=hb5.size;obtain ⟨we,we4,we6,-⟩:=HWD.out h xo;have hnw:=HNW.out h xo;rw [we];have AW2:=hid (fun i hi W hb=>AW.out h i xo hi W hb);have SM2:=hid (fun i=>HSM.out h i xo);have hbad:Hid (∀i,i<2^(H-h)→winB c s H h i=false→z=false):=hid fun i hi hb=>by
     rw [←HZ.out,winB_bad hlt (by rw [HLC.out,Nat.pow_div xo xo];exact hi) hb]
    have hgood:Hid ((∀i,i<2^(H-h)→winB c s H h i=true)→rowB c s H h=true):=hid fun hg=>List.all_eq_true.2 fun i hi=>hg i (by have:=List.mem_range.1 hi;rwa [HLC.out,Nat.pow_div xo xo] at this)
    have hm0:=Nat.two_pow_pos (H-h);generalize 2^(H-h)=m at *;have hWb:4≤2^a*2^h∧2^a*2^h≤65536:=xo;generalize hWW:2^a*2^h=Wd at *;have hn6:n≤65536*m:=by rw [hnw];exact Nat.mul_le_mul_right _ hWb.2
    have HNN:=hid hnw;clear hb5 we we4 we6 hnw;go_wp2
    go_loopg [8] m (fun gk2 iv wr2=>∃i:Nat,i+gk2=m∧iv= .int .i64 ((i*Wd:Nat):Int)∧Hid (∀j,j<i→winB c s H h j=true)∧Hid (Below w5.heap.size w5 wr2))
    case atStart=>exact ⟨0,by omega,by simp,hid fun j q=>by omega,hid (Below.refl _ _)⟩
    case round=>
     obtain ⟨i,hk2,rfl,HD2,HBB⟩:=hrel;have hbr2:=HBB.out;have hz_wr:=hbr2.size;simp (disch:=omega) only [xcl hbr2] at c_t0 c_t1 c_t2 c_t3 c_t4 c_t5 c_t6 c_t7 c_t8 c_s0 c_s1 c_s2 c_s3 c_s4 c_s5;replace z_t:=blt hbr2 z_t;replace z_s:=blt hbr2 z_s;have HB6:=xv hbr2 HB5;have hz6:=HB6.out.size;clear hbr2;by_cases hlt2:i<m
     · have AW3:=hid (fun W hb=>AW2.out i hlt2 W hb);have sb:=SM2.out i;obtain ⟨sb1,sb2⟩:=sb;have HWB:Hid (winB c s H h i=(fulB c H h (sumC s.cs (i*2^h) ((i+1)*2^h))&&sprB c n H h (sumC s.cs (i*2^h) ((i+1)*2^h)))):=hid (by rw [←HNK.out];rfl);generalize sumC s.cs (i*2^h) ((i+1)*2^h)=sm at *;have hiw:(i+1)*Wd≤Wd*m:=by rw [Nat.mul_comm Wd];exact Nat.mul_le_mul_right _ hlt2
       rw [Nat.succ_mul] at hiw;have hgo:decide (((i*Wd:Nat):Int)<(n:Int))=true:=by have:=HNN.out;simp;omega
       have hnl:=HNL.out;have hnx:IntKind.i64.wrap (((i*Wd:Nat):Int)+(Wd:Int))=((i*Wd:Nat):Int)+(Wd:Int):=IntWalk.i64_in _ (by have:=HNN.out;omega);have hnx2:((i*Wd:Nat):Int)+(Wd:Int)=(((i+1)*Wd:Nat):Int):=by rw [Nat.succ_mul];push_cast;rfl
       have HNX:=hid hnx2;clear hiw hnx2;generalize ((i*Wd:Nat):Int)=x0 at *;have FU2:=hid (fun W=>FU.out h xo sm sb1 xo W);have SP2:=hid (fun W=>SP.out h xo sm sb1 xo W);have HK2:=hid hk2;clear hk2;go_wp2_with fail
       refine (AW3.out _ HB6.out).mono ?_;rintro e w7 ⟨rfl,hb7⟩;have hz_w7:=hb7.size;simp (disch:=omega) only [xcl hb7] at c_t0 c_t1 c_t2 c_t3 c_t4 c_t5 c_t6 c_t7 c_t8 c_s0 c_s1 c_s2 c_s3 c_s4 c_s5;replace z_t:=blt hb7 z_t;replace z_s:=blt hb7 z_s;have HB7:=hid (below_via hb7 HB6.out hz6);have HC7:=xv hb7 HBB;clear hb7;go_wp2_with fail
       refine (FU2.out _).mono ?_;rintro e w8 ⟨rfl,hb8⟩;have hz_w8:=hb8.size;simp (disch:=omega) only [xcl hb8] at c_t0 c_t1 c_t2 c_t3 c_t4 c_t5 c_t6 c_t7 c_t8 c_s0 c_s1 c_s2 c_s3 c_s4 c_s5;replace z_t:=blt hb8 z_t;replace z_s:=blt hb8 z_s;have HB8:=xv hb8 HB7;have HC8:=xv hb8 HC7;clear hb8;cases hf:fulB c H h sm with
       | false=>
        have hz8:=hbad.out i hlt2 (by rw [HWB.out,hf];rfl);subst hz8;go_wp2
        go_ret
        exact ⟨rfl,HB8.out⟩
       | true=>
        go_wp2_with fail
        refine (SP2.out _).mono ?_;rintro e w9 ⟨rfl,hb9⟩;have hz_w9:=hb9.size;simp (disch:=omega) only [xcl hb9] at c_t0 c_t1 c_t2 c_t3 c_t4 c_t5 c_t6 c_t7 c_t8 c_s0 c_s1 c_s2 c_s3 c_s4 c_s5;replace z_t:=blt hb9 z_t;replace z_s:=blt hb9 z_s;have HB9:=xv hb9 HB8;have HC9:=xv hb9 HC8;clear hb9;cases hg:sprB c n H h sm with
        | false=>
         have hz8:=hbad.out i hlt2 (by rw [HWB.out,hf,hg];rfl);subst hz8;go_wp2
         go_ret
         exact ⟨rfl,HB9.out⟩
        | true=>
         go_wp2
         go_roundg (gk-1)
         case measure=>have:=HK2.out;omega
         case rel=>
          refine ⟨i+1,by have:=HK2.out;omega,by rw [HNX.out],hid fun j hj=> ?_,HC9⟩;by_cases hji:j=i
          · rw [hji,HWB.out,hf,hg];rfl
          · exact HD2.out j xo
     · have HK2:=hid hk2;have him:i=m:=xo;have hgo:decide (((i*Wd:Nat):Int)<(n:Int))=false:=by have:=HNN.out;rw [him,Nat.mul_comm];simp;omega
       clear hk2;generalize ((i*Wd:Nat):Int)=x0 at *;go_wp2
       go_roundg (go-1)
       case measure=>have:=HK.out;omega
       case rel=>
        refine ⟨h+1,by have:=HK.out;omega,by go_num,hid fun h' hh'=> ?_,hid (below_via HBB.out HW5.out HW5.out.size)⟩;by_cases hji:h'=h
        · rw [hji];exact hgood.out fun j hj=>HD2.out j (by have:=HK2.out;omega)
        · exact HD.out h' xo
  · have hz0:z=true:=by
      rw [←HZ.out];exact List.all_eq_true.2 fun h' hh'=>HD.out h' (by have:=List.mem_range.1 hh';omega)
    subst hz0;have hgoh:decide ((h:Int)≤H)=false:=by simp;omega
    clear hk;go_wp2
    go_ret
    exact ⟨rfl,HC4.out⟩
theorem May09_m0 (c:Cfg) (hc:cfMay c=true) (seg:Int) (wa ka va ca:Option Addr) (wc kc vc cc lw n lv lc:Nat) (laid:Int) (w:World) (SM:Hid (∀W,Below w.heap.size w W→Calls Tryz.prog 82 #[.agg #[.int .i64 seg,.slice wa lw wc,.slice ka n kc,.slice va lv vc,.slice ca lc cc,.int .u64 laid]] W (AnsB W (.bool false)))):
    Calls Tryz.prog 41 #[.agg #[.int .u8 c.tag,.int .i64 c.most,.int .i64 c.seg,.int .i64 c.least,.int .i64 c.den,.int .i64 c.ll,.int .i64 c.rl,.int .i64 c.rh,.int .i64 c.lh],.agg #[.int .i64 seg,.slice wa lw wc,.slice ka n kc,.slice va lv vc,.slice ca lc cc,.int .u64 laid]] w (AnsB w (.bool false)):=by
 go_enter Tryz.func41,Tryz.ntmps41
 go_upto_region 1 with (fail)
 generalize hwx:(w.alloc (.cells #[.int .u8 c.tag,.int .i64 c.most,.int .i64 c.seg,.int .i64 c.least,.int .i64 c.den,.int .i64 c.ll,.int .i64 c.rl,.int .i64 c.rh,.int .i64 c.lh] 23)).alloc (.cells #[.int .i64 seg,.slice wa lw wc,.slice ka n kc,.slice va lv vc,.slice ca lc cc,.int .u64 laid] 29)=wx;have hh:=ec9 hwx (au9 (al9 (b:=w.heap.size) (by simp)));obtain ⟨c_t0,c_t1,c_t2,c_t3,c_t4,c_t5,c_t6,c_t7,c_t8⟩:=hh;have z_t:=elt hwx (auz (alz (b:=w.heap.size) (by simp)));have hh:=ec6 hwx (al6 (b:=w.heap.size+1) (by simp));obtain ⟨c_s0,c_s1,c_s2,c_s3,c_s4,c_s5⟩:=hh;have z_s:=elt hwx (alz (b:=w.heap.size+1) (by simp));have HB2:Hid (Below w.heap.size w wx):=by rw [←hwx];exact hid xbel
 clear hwx;have K0:=hid (fun d os=>Calls.regrown_of (w:=wx) (d:=d) (os:=os) (SM.out (grow (redrawn wx d) os) (below_via (below_regrown _ _ _) HB2.out HB2.out.size)));have q0:=cell_regrown c_t0;have q1:=cell_regrown c_t1;have q2:=cell_regrown c_t2;have q3:=cell_regrown c_t3;have q4:=cell_regrown c_t4;have q5:=cell_regrown c_t5;have q6:=cell_regrown c_t6;have q7:=cell_regrown c_t7;have q8:=cell_regrown c_t8;have q9:=cell_regrown c_s0;have q10:=cell_regrown c_s1;have q11:=cell_regrown c_s2;have q12:=cell_regrown c_s3;have q13:=cell_regrown c_s4;have q14:=cell_regrown c_s5;refine wp_region_quiet_below xk xk ?_;repeat (go_big_quiet_step (first|with_reducible exact K0.out _ _|exact K0.out _ _))
 refine wpQuiet_nil ?_;intro _ hw';obtain ⟨⟨dq,osq⟩,hw''⟩:=hw';subst hw'';have hbq:=below_regrown wx dq osq;clear q0 q1 q2 q3 q4 q5 q6 q7 q8 q9 q10 q11 q12 q13 q14 K0;generalize Sort.grow (redrawn wx dq) osq=wy at *;have HB3:=xv hbq HB2;go_wp2
 go_ret
 exact ⟨rfl,HB3.out⟩
theorem May09_m1 (c:Cfg) (hc:cfMay c=true) (seg:Int) (wa ka va ca:Option Addr) (wc kc vc cc lw n lv lc:Nat) (laid:Int) (w:World) (hs:seg≠c.seg) (SM:Hid (∀W,Below w.heap.size w W→Calls Tryz.prog 82 #[.agg #[.int .i64 seg,.slice wa lw wc,.slice ka n kc,.slice va lv vc,.slice ca lc cc,.int .u64 laid]] W (AnsB W (.bool true)))):
    Calls Tryz.prog 41 #[.agg #[.int .u8 c.tag,.int .i64 c.most,.int .i64 c.seg,.int .i64 c.least,.int .i64 c.den,.int .i64 c.ll,.int .i64 c.rl,.int .i64 c.rh,.int .i64 c.lh],.agg #[.int .i64 seg,.slice wa lw wc,.slice ka n kc,.slice va lv vc,.slice ca lc cc,.int .u64 laid]] w (AnsB w (.bool false)):=by
 have gs:(seg==c.seg)=false:=by simpa using hs
 clear hs;go_enter Tryz.func41,Tryz.ntmps41
 go_upto_region 1 with (fail)
 generalize hwx:(w.alloc (.cells #[.int .u8 c.tag,.int .i64 c.most,.int .i64 c.seg,.int .i64 c.least,.int .i64 c.den,.int .i64 c.ll,.int .i64 c.rl,.int .i64 c.rh,.int .i64 c.lh] 23)).alloc (.cells #[.int .i64 seg,.slice wa lw wc,.slice ka n kc,.slice va lv vc,.slice ca lc cc,.int .u64 laid] 29)=wx;have hh:=ec9 hwx (au9 (al9 (b:=w.heap.size) (by simp)));obtain ⟨c_t0,c_t1,c_t2,c_t3,c_t4,c_t5,c_t6,c_t7,c_t8⟩:=hh;have z_t:=elt hwx (auz (alz (b:=w.heap.size) (by simp)));have hh:=ec6 hwx (al6 (b:=w.heap.size+1) (by simp));obtain ⟨c_s0,c_s1,c_s2,c_s3,c_s4,c_s5⟩:=hh;have z_s:=elt hwx (alz (b:=w.heap.size+1) (by simp));have HB2:Hid (Below w.heap.size w wx):=by rw [←hwx];exact hid xbel
 clear hwx;have K0:=hid (fun d os=>Calls.regrown_of (w:=wx) (d:=d) (os:=os) (SM.out (grow (redrawn wx d) os) (below_via (below_regrown _ _ _) HB2.out HB2.out.size)));have q0:=cell_regrown c_t0;have q1:=cell_regrown c_t1;have q2:=cell_regrown c_t2;have q3:=cell_regrown c_t3;have q4:=cell_regrown c_t4;have q5:=cell_regrown c_t5;have q6:=cell_regrown c_t6;have q7:=cell_regrown c_t7;have q8:=cell_regrown c_t8;have q9:=cell_regrown c_s0;have q10:=cell_regrown c_s1;have q11:=cell_regrown c_s2;have q12:=cell_regrown c_s3;have q13:=cell_regrown c_s4;have q14:=cell_regrown c_s5;refine wp_region_quiet_below xk xk ?_;repeat (go_big_quiet_step (first|with_reducible exact K0.out _ _|exact K0.out _ _))
 refine wpQuiet_nil ?_;intro _ hw';obtain ⟨⟨dq,osq⟩,hw''⟩:=hw';subst hw'';have hbq:=below_regrown wx dq osq;clear q0 q1 q2 q3 q4 q5 q6 q7 q8 q9 q10 q11 q12 q13 q14 K0;generalize Sort.grow (redrawn wx dq) osq=wy at *;have HB3:=xv hbq HB2;go_wp2
 go_ret
 exact ⟨rfl,HB3.out⟩
theorem May09_m2 (c:Cfg) (hc:cfMay c=true) (seg:Int) (wa ka va ca:Option Addr) (wc kc vc cc lw n lv lc:Nat) (laid:Int) (w:World) (hs:seg=c.seg) (hp:powB n c.least (taks c c.most)=false) (SM:Hid (∀W,Below w.heap.size w W→Calls Tryz.prog 82 #[.agg #[.int .i64 seg,.slice wa lw wc,.slice ka n kc,.slice va lv vc,.slice ca lc cc,.int .u64 laid]] W (AnsB W (.bool true)))):
    Calls Tryz.prog 41 #[.agg #[.int .u8 c.tag,.int .i64 c.most,.int .i64 c.seg,.int .i64 c.least,.int .i64 c.den,.int .i64 c.ll,.int .i64 c.rl,.int .i64 c.rh,.int .i64 c.lh],.agg #[.int .i64 seg,.slice wa lw wc,.slice ka n kc,.slice va lv vc,.slice ca lc cc,.int .u64 laid]] w (AnsB w (.bool false)):=by
 have gs:(seg==c.seg)=true:=by simpa using hs
 clear hs;have IS:=hid (fun W=>Is05_ok c (cfMay_head hc) n W);rw [hp] at IS;go_enter Tryz.func41,Tryz.ntmps41
 go_upto_region 1 with (fail)
 generalize hwx:(w.alloc (.cells #[.int .u8 c.tag,.int .i64 c.most,.int .i64 c.seg,.int .i64 c.least,.int .i64 c.den,.int .i64 c.ll,.int .i64 c.rl,.int .i64 c.rh,.int .i64 c.lh] 23)).alloc (.cells #[.int .i64 seg,.slice wa lw wc,.slice ka n kc,.slice va lv vc,.slice ca lc cc,.int .u64 laid] 29)=wx;have hh:=ec9 hwx (au9 (al9 (b:=w.heap.size) (by simp)));obtain ⟨c_t0,c_t1,c_t2,c_t3,c_t4,c_t5,c_t6,c_t7,c_t8⟩:=hh;have z_t:=elt hwx (auz (alz (b:=w.heap.size) (by simp)));have hh:=ec6 hwx (al6 (b:=w.heap.size+1) (by simp));obtain ⟨c_s0,c_s1,c_s2,c_s3,c_s4,c_s5⟩:=hh;have z_s:=elt hwx (alz (b:=w.heap.size+1) (by simp));have HB2:Hid (Below w.heap.size w wx):=by rw [←hwx];exact hid xbel
 clear hwx;have K0:=hid (fun d os=>Calls.regrown_of (w:=wx) (d:=d) (os:=os) (SM.out (grow (redrawn wx d) os) (below_via (below_regrown _ _ _) HB2.out HB2.out.size)));have K1:=hid (fun d os=>Calls.regrown_of (w:=wx) (d:=d) (os:=os) (IS.out (grow (redrawn wx d) os)));have q0:=cell_regrown c_t0;have q1:=cell_regrown c_t1;have q2:=cell_regrown c_t2;have q3:=cell_regrown c_t3;have q4:=cell_regrown c_t4;have q5:=cell_regrown c_t5;have q6:=cell_regrown c_t6;have q7:=cell_regrown c_t7;have q8:=cell_regrown c_t8;have q9:=cell_regrown c_s0;have q10:=cell_regrown c_s1;have q11:=cell_regrown c_s2;have q12:=cell_regrown c_s3;have q13:=cell_regrown c_s4;have q14:=cell_regrown c_s5;refine wp_region_quiet_below xk xk ?_;repeat (go_big_quiet_step (first|with_reducible exact K0.out _ _|with_reducible exact K1.out _ _|exact K0.out _ _|exact K1.out _ _))
 refine wpQuiet_nil ?_;intro _ hw';obtain ⟨⟨dq,osq⟩,hw''⟩:=hw';subst hw'';have hbq:=below_regrown wx dq osq;clear q0 q1 q2 q3 q4 q5 q6 q7 q8 q9 q10 q11 q12 q13 q14 K0 K1;generalize Sort.grow (redrawn wx dq) osq=wy at *;have HB3:=xv hbq HB2;go_wp2
 go_ret
 exact ⟨rfl,HB3.out⟩
theorem May09_m3 (c:Cfg) (hc:cfMay c=true) (seg:Int) (wa ka va ca:Option Addr) (wc kc vc cc lw n lv lc:Nat) (laid:Int) (w:World) (hs:seg=c.seg) (hp:powB n c.least (taks c c.most)=true) (many:Int) (hm:c.most<many) (SM:Hid (∀W,Below w.heap.size w W→Calls Tryz.prog 82 #[.agg #[.int .i64 seg,.slice wa lw wc,.slice ka n kc,.slice va lv vc,.slice ca lc cc,.int .u64 laid]] W (AnsB W (.bool true)))) (MN:Hid (∀W,Below w.heap.size w W→Calls Tryz.prog 29 #[.agg #[.int .i64 seg,.slice wa lw wc,.slice ka n kc,.slice va lv vc,.slice ca lc cc,.int .u64 laid]] W (AnsB W (.int .i64 many)))):
    Calls Tryz.prog 41 #[.agg #[.int .u8 c.tag,.int .i64 c.most,.int .i64 c.seg,.int .i64 c.least,.int .i64 c.den,.int .i64 c.ll,.int .i64 c.rl,.int .i64 c.rh,.int .i64 c.lh],.agg #[.int .i64 seg,.slice wa lw wc,.slice ka n kc,.slice va lv vc,.slice ca lc cc,.int .u64 laid]] w (AnsB w (.bool false)):=by
 have gs:(seg==c.seg)=true:=by simpa using hs
 clear hs;have IS:=hid (fun W=>Is05_ok c (cfMay_head hc) n W);rw [hp] at IS;have gm:decide (many≤c.most)=false:=by simp;omega
 go_enter Tryz.func41,Tryz.ntmps41
 go_upto_region 1 with (fail)
 generalize hwx:(w.alloc (.cells #[.int .u8 c.tag,.int .i64 c.most,.int .i64 c.seg,.int .i64 c.least,.int .i64 c.den,.int .i64 c.ll,.int .i64 c.rl,.int .i64 c.rh,.int .i64 c.lh] 23)).alloc (.cells #[.int .i64 seg,.slice wa lw wc,.slice ka n kc,.slice va lv vc,.slice ca lc cc,.int .u64 laid] 29)=wx;have hh:=ec9 hwx (au9 (al9 (b:=w.heap.size) (by simp)));obtain ⟨c_t0,c_t1,c_t2,c_t3,c_t4,c_t5,c_t6,c_t7,c_t8⟩:=hh;have z_t:=elt hwx (auz (alz (b:=w.heap.size) (by simp)));have hh:=ec6 hwx (al6 (b:=w.heap.size+1) (by simp));obtain ⟨c_s0,c_s1,c_s2,c_s3,c_s4,c_s5⟩:=hh;have z_s:=elt hwx (alz (b:=w.heap.size+1) (by simp));have HB2:Hid (Below w.heap.size w wx):=by rw [←hwx];exact hid xbel
 clear hwx;have K0:=hid (fun d os=>Calls.regrown_of (w:=wx) (d:=d) (os:=os) (SM.out (grow (redrawn wx d) os) (below_via (below_regrown _ _ _) HB2.out HB2.out.size)));have K1:=hid (fun d os=>Calls.regrown_of (w:=wx) (d:=d) (os:=os) (IS.out (grow (redrawn wx d) os)));have K2:=hid (fun d os=>Calls.regrown_of (w:=wx) (d:=d) (os:=os) (MN.out (grow (redrawn wx d) os) (below_via (below_regrown _ _ _) HB2.out HB2.out.size)));have q0:=cell_regrown c_t0;have q1:=cell_regrown c_t1;have q2:=cell_regrown c_t2;have q3:=cell_regrown c_t3;have q4:=cell_regrown c_t4;have q5:=cell_regrown c_t5;have q6:=cell_regrown c_t6;have q7:=cell_regrown c_t7;have q8:=cell_regrown c_t8;have q9:=cell_regrown c_s0;have q10:=cell_regrown c_s1;have q11:=cell_regrown c_s2;have q12:=cell_regrown c_s3;have q13:=cell_regrown c_s4;have q14:=cell_regrown c_s5;refine wp_region_quiet_below xk xk ?_;repeat (go_big_quiet_step (first|with_reducible exact K0.out _ _|with_reducible exact K1.out _ _|with_reducible exact K2.out _ _|exact K0.out _ _|exact K1.out _ _|exact K2.out _ _))
 refine wpQuiet_nil ?_;intro _ hw';obtain ⟨⟨dq,osq⟩,hw''⟩:=hw';subst hw'';have hbq:=below_regrown wx dq osq;clear q0 q1 q2 q3 q4 q5 q6 q7 q8 q9 q10 q11 q12 q13 q14 K0 K1 K2;generalize Sort.grow (redrawn wx dq) osq=wy at *;have HB3:=xv hbq HB2;go_wp2
 go_ret
 exact ⟨rfl,HB3.out⟩
theorem May09_m4 (c:Cfg) (hc:cfMay c=true) (seg:Int) (wa ka va ca:Option Addr) (wc kc vc cc lw n lv lc:Nat) (laid:Int) (w:World) (hs:seg=c.seg) (hp:powB n c.least (taks c c.most)=true) (many:Int) (hm:many≤c.most) (z:Bool) (SM:Hid (∀W,Below w.heap.size w W→Calls Tryz.prog 82 #[.agg #[.int .i64 seg,.slice wa lw wc,.slice ka n kc,.slice va lv vc,.slice ca lc cc,.int .u64 laid]] W (AnsB W (.bool true)))) (MN:Hid (∀W,Below w.heap.size w W→Calls Tryz.prog 29 #[.agg #[.int .i64 seg,.slice wa lw wc,.slice ka n kc,.slice va lv vc,.slice ca lc cc,.int .u64 laid]] W (AnsB W (.int .i64 many)))) (DN:Hid (∀W,Below w.heap.size w W→Calls Tryz.prog 84 #[.agg #[.int .u8 c.tag,.int .i64 c.most,.int .i64 c.seg,.int .i64 c.least,.int .i64 c.den,.int .i64 c.ll,.int .i64 c.rl,.int .i64 c.rh,.int .i64 c.lh],.agg #[.int .i64 seg,.slice wa lw wc,.slice ka n kc,.slice va lv vc,.slice ca lc cc,.int .u64 laid]] W (AnsB W (.bool z)))):
    Calls Tryz.prog 41 #[.agg #[.int .u8 c.tag,.int .i64 c.most,.int .i64 c.seg,.int .i64 c.least,.int .i64 c.den,.int .i64 c.ll,.int .i64 c.rl,.int .i64 c.rh,.int .i64 c.lh],.agg #[.int .i64 seg,.slice wa lw wc,.slice ka n kc,.slice va lv vc,.slice ca lc cc,.int .u64 laid]] w (AnsB w (.bool z)):=by
 have gs:(seg==c.seg)=true:=by simpa using hs
 clear hs;have IS:=hid (fun W=>Is05_ok c (cfMay_head hc) n W);rw [hp] at IS;have gm:decide (many≤c.most)=true:=by simp;omega
 go_enter Tryz.func41,Tryz.ntmps41
 go_upto_region 1 with (fail)
 generalize hwx:(w.alloc (.cells #[.int .u8 c.tag,.int .i64 c.most,.int .i64 c.seg,.int .i64 c.least,.int .i64 c.den,.int .i64 c.ll,.int .i64 c.rl,.int .i64 c.rh,.int .i64 c.lh] 23)).alloc (.cells #[.int .i64 seg,.slice wa lw wc,.slice ka n kc,.slice va lv vc,.slice ca lc cc,.int .u64 laid] 29)=wx;have hh:=ec9 hwx (au9 (al9 (b:=w.heap.size) (by simp)));obtain ⟨c_t0,c_t1,c_t2,c_t3,c_t4,c_t5,c_t6,c_t7,c_t8⟩:=hh;have z_t:=elt hwx (auz (alz (b:=w.heap.size) (by simp)));have hh:=ec6 hwx (al6 (b:=w.heap.size+1) (by simp));obtain ⟨c_s0,c_s1,c_s2,c_s3,c_s4,c_s5⟩:=hh;have z_s:=elt hwx (alz (b:=w.heap.size+1) (by simp));have HB2:Hid (Below w.heap.size w wx):=by rw [←hwx];exact hid xbel
 clear hwx;have K0:=hid (fun d os=>Calls.regrown_of (w:=wx) (d:=d) (os:=os) (SM.out (grow (redrawn wx d) os) (below_via (below_regrown _ _ _) HB2.out HB2.out.size)));have K1:=hid (fun d os=>Calls.regrown_of (w:=wx) (d:=d) (os:=os) (IS.out (grow (redrawn wx d) os)));have K2:=hid (fun d os=>Calls.regrown_of (w:=wx) (d:=d) (os:=os) (MN.out (grow (redrawn wx d) os) (below_via (below_regrown _ _ _) HB2.out HB2.out.size)));have K3:=hid (fun d os=>Calls.regrown_of (w:=wx) (d:=d) (os:=os) (DN.out (grow (redrawn wx d) os) (below_via (below_regrown _ _ _) HB2.out HB2.out.size)));have q0:=cell_regrown c_t0;have q1:=cell_regrown c_t1;have q2:=cell_regrown c_t2;have q3:=cell_regrown c_t3;have q4:=cell_regrown c_t4;have q5:=cell_regrown c_t5;have q6:=cell_regrown c_t6;have q7:=cell_regrown c_t7;have q8:=cell_regrown c_t8;have q9:=cell_regrown c_s0;have q10:=cell_regrown c_s1;have q11:=cell_regrown c_s2;have q12:=cell_regrown c_s3;have q13:=cell_regrown c_s4;have q14:=cell_regrown c_s5;refine wp_region_quiet_below xk xk ?_;repeat (go_big_quiet_step (first|with_reducible exact K0.out _ _|with_reducible exact K1.out _ _|with_reducible exact K2.out _ _|with_reducible exact K3.out _ _|exact K0.out _ _|exact K1.out _ _|exact K2.out _ _|exact K3.out _ _))
 refine wpQuiet_nil ?_;intro _ hw';obtain ⟨⟨dq,osq⟩,hw''⟩:=hw';subst hw'';have hbq:=below_regrown wx dq osq;clear q0 q1 q2 q3 q4 q5 q6 q7 q8 q9 q10 q11 q12 q13 q14 K0 K1 K2 K3;generalize Sort.grow (redrawn wx dq) osq=wy at *;have HB3:=xv hbq HB2;go_wp2
 go_ret
 exact ⟨rfl,HB3.out⟩
end
section
open Go.RowKit
theorem Among09_ok (s:SlC) (sa:SlA) (S lo hi:Nat) (hseg:s.seg=S) (hS:4≤S) (hS2:S≤64) (A B:Int) (hA:A=((lo*S:Nat):Int)) (hB:B=((hi*S:Nat):Int)) (h1:lo≤hi) (h2:hi≤s.cs.length) (hlc:s.cs.length≤65536) (hcs:CntB s.cs S) (w:World) (hin:SlIn w s sa):
    Calls Tryz.prog 60 #[slV s sa,.int .i64 A,.int .i64 B] w (AnsB w (.int .i64 (sumC s.cs lo hi))):=
  Among09_core w s.seg sa.wa sa.ka sa.va sa.ca sa.wc sa.kc sa.vc sa.cc s.ws.length s.ks.length s.vs.length s.cs.length s.laid s.cs A B S lo hi hseg hS hS2 hA hB h1 h2 hlc rfl hcs hin.n
theorem GapN.nums {c:Cfg} {s:SlC} {a H:Nat} (k:GapN c s a H):4≤2^a∧2^a≤64∧1≤s.cs.length∧s.cs.length≤65536∧s.ks.length≤65536:=by
 have ha4:2^2≤2^a:=Nat.pow_le_pow_right xo k.cap.a2;have ha6:2^a≤2^6:=Nat.pow_le_pow_right xo k.cap.a6;have hH0:=Nat.two_pow_pos H;have hnc:=k.nc;have:=k.cap.big;have h9:1*2^H≤2^a*2^H:=Nat.mul_le_mul_right _ xo;have:=k.nk;omega
theorem Many09_ok {c:Cfg} {s:SlC} {a H:Nat} (k:GapN c s a H) (sa:SlA) (w:World) (hin:SlIn w s sa):
    Calls Tryz.prog 29 #[slV s sa] w (AnsB w (.int .i64 (sumC s.cs 0 s.cs.length))):=by
 obtain ⟨n1,n2,n3,n4,n5⟩:=k.nums;exact Many09_core w s.seg _ _ _ _ _ _ _ _ _ _ _ _ _ _ (hid fun W hb=>Among09_ok s sa (2^a) 0 s.cs.length k.seg n1 n2 0 s.ks.length (by simp) (by rw [k.nk,k.nc,Nat.mul_comm]) xo xo n4 k.cnt W (hin.below hb))
theorem dense09_ok {c:Cfg} {s:SlC} {a H:Nat} (k:GapN c s a H) (sa:SlA) (w:World) (hin:SlIn w s sa):
    Calls Tryz.prog 84 #[.agg #[.int .u8 c.tag,.int .i64 c.most,.int .i64 c.seg,.int .i64 c.least,.int .i64 c.den,.int .i64 c.ll,.int .i64 c.rl,.int .i64 c.rh,.int .i64 c.lh],slV s sa] w (AnsB w (.bool (denB c s H))):=by
 obtain ⟨n1,n2,n3,n4,n5⟩:=k.nums;refine dense_core c s s.seg _ _ _ _ _ _ _ _ _ _ _ _ _ a H k.cap k.nc rfl k.cnt _ rfl w (hid fun h i hh hi W hb=> ?_);have hi2:(i+1)*2^h≤2^H:=by
  have:(i+1)*2^h≤2^(H-h)*2^h:=Nat.mul_le_mul_right _ hi;rwa [←Nat.pow_add,Nat.sub_add_cancel hh] at this
 have hp0:=Nat.two_pow_pos h;have hnc:=k.nc;have hlt:i*2^h<(i+1)*2^h:=by rw [Nat.succ_mul];omega
 refine Among09_ok s sa (2^a) (i*2^h) ((i+1)*2^h) k.seg n1 n2 _ _ ?_ ?_ xo xo n4 k.cnt W (hin.below hb)
 · rw [Nat.mul_comm (2^a),Nat.mul_assoc]
 · rw [Nat.succ_mul i (2^h),Nat.add_mul,Nat.mul_comm (2^a) (2^h),Nat.mul_assoc];push_cast
   rfl
theorem May09_ok (c:Cfg) (hc:cfMay c=true) (s:SlC) (sa:SlA) (hl:s.ws.length≤1000000000000) (hl2:s.ks.length≤1000000000000) (w:World) (hin:SlIn w s sa):
    Calls Tryz.prog 41 #[.agg #[.int .u8 c.tag,.int .i64 c.most,.int .i64 c.seg,.int .i64 c.least,.int .i64 c.den,.int .i64 c.ll,.int .i64 c.rl,.int .i64 c.rh,.int .i64 c.lh],slV s sa] w (AnsB w (.bool (gapMay c s))):=by
 have SM:Hid (∀W,Below w.heap.size w W→Calls Tryz.prog 82 #[slV s sa] W (AnsB W (.bool (slMay s)))):=hid fun W hb=>May04_ok s sa hl hl2 W (hin.below hb)
 cases hm:slMay s with
 | false=>
  rw [show gapMay c s=false by simp [gapMay,gapHead,hm]];rw [hm] at SM;exact May09_m0 c hc _ _ _ _ _ _ _ _ _ _ _ _ _ _ w SM
 | true=>
  rw [hm] at SM;by_cases hs:s.seg=c.seg
  · cases hp:powB s.ks.length c.least (taks c c.most) with
    | false=>
     rw [show gapMay c s=false by simp [gapMay,gapHead,hp]];exact May09_m2 c hc _ _ _ _ _ _ _ _ _ _ _ _ _ _ w hs hp SM
    | true=>
     obtain ⟨a,H,k⟩:=gapN_of hc hp hm hs;have MN:Hid (∀W,Below w.heap.size w W→Calls Tryz.prog 29 #[slV s sa] W (AnsB W (.int .i64 (sumC s.cs 0 s.cs.length)))):=hid fun W hb=>Many09_ok k sa W (hin.below hb)
     by_cases hmost:sumC s.cs 0 s.cs.length≤c.most
     · have hh:gapHead c s=true:=by
         simp only [gapHead,Bool.and_eq_true,decide_eq_true_eq];exact ⟨⟨⟨hm,hs⟩,hp⟩,hmost⟩
       rw [show gapMay c s=denB c s H by rw [gapMay,hh,Bool.true_and,k.cap.hgt]];exact May09_m4 c hc _ _ _ _ _ _ _ _ _ _ _ _ _ _ w hs hp _ hmost _ SM MN (hid fun W hb=>dense09_ok k sa W (hin.below hb))
     · rw [show gapMay c s=false by simp [gapMay,gapHead,hmost]];exact May09_m3 c hc _ _ _ _ _ _ _ _ _ _ _ _ _ _ w hs hp _ xo SM MN
  · rw [show gapMay c s=false by simp [gapMay,gapHead,hs]];exact May09_m1 c hc _ _ _ _ _ _ _ _ _ _ _ _ _ _ w hs SM
theorem Check09_core (c:Cfg) (seg:Int) (wa ka va ca:Option Addr) (wc kc vc cc lw n lv lc:Nat) (laid:Int) (m g:Bool) (w:World)
    (MC:Hid (∀W,Below w.heap.size w W→Calls Tryz.prog 18 #[.agg #[.int .u8 c.tag,.int .i64 c.most,.int .i64 c.seg,.int .i64 c.least,.int .i64 c.den,.int .i64 c.ll,.int .i64 c.rl,.int .i64 c.rh,.int .i64 c.lh]] W (AnsB W (.bool m))))
    (MG:m=true→Hid (∀W,Below w.heap.size w W→Calls Tryz.prog 41 #[.agg #[.int .u8 c.tag,.int .i64 c.most,.int .i64 c.seg,.int .i64 c.least,.int .i64 c.den,.int .i64 c.ll,.int .i64 c.rl,.int .i64 c.rh,.int .i64 c.lh],.agg #[.int .i64 seg,.slice wa lw wc,.slice ka n kc,.slice va lv vc,.slice ca lc cc,.int .u64 laid]] W (AnsB W (.bool g)))):
    Calls Tryz.prog 13 #[.agg #[.int .u8 c.tag,.int .i64 c.most,.int .i64 c.seg,.int .i64 c.least,.int .i64 c.den,.int .i64 c.ll,.int .i64 c.rl,.int .i64 c.rh,.int .i64 c.lh],.agg #[.int .i64 seg,.slice wa lw wc,.slice ka n kc,.slice va lv vc,.slice ca lc cc,.int .u64 laid]] w (AnsB w (.int .i64 (if m=true then (if g=true then 0 else 8) else 50))):=by
 cases m with
 | false=>
  rw [if_neg (by decide)];clear MG;go_enter Tryz.func13,Tryz.ntmps13
  go_wp2_with fail
  refine (MC.out _ xbel).mono ?_;rintro e w1 ⟨rfl,hb1⟩;have hz_w1:=hb1.size;try simp only [World.size_alloc,World.size_setCell] at hz_w1
  have hh:=bc9 hb1 (au9 (al9 (b:=w.heap.size) (by simp)));obtain ⟨c_t0,c_t1,c_t2,c_t3,c_t4,c_t5,c_t6,c_t7,c_t8⟩:=hh;have z_t:=blt hb1 (auz (alz (b:=w.heap.size) (by simp)));have hh:=bc6 hb1 (al6 (b:=w.heap.size+1) (by simp));obtain ⟨c_s0,c_s1,c_s2,c_s3,c_s4,c_s5⟩:=hh;have z_s:=blt hb1 (alz (b:=w.heap.size+1) (by simp));have hB1:Below w.heap.size w w1:=xbel;go_wp2
  go_ret
  exact ⟨rfl,hB1⟩
 | true=>
  rw [if_pos rfl];replace MG:=MG rfl;obtain ⟨z,hz⟩:∃z:Int,(if g=true then 0 else 8)=z:=⟨_,rfl⟩
  rw [hz];go_enter Tryz.func13,Tryz.ntmps13
  go_wp2_with fail
  refine (MC.out _ xbel).mono ?_;rintro e w1 ⟨rfl,hb1⟩;have hz_w1:=hb1.size;try simp only [World.size_alloc,World.size_setCell] at hz_w1
  have hh:=bc9 hb1 (au9 (al9 (b:=w.heap.size) (by simp)));obtain ⟨c_t0,c_t1,c_t2,c_t3,c_t4,c_t5,c_t6,c_t7,c_t8⟩:=hh;have z_t:=blt hb1 (auz (alz (b:=w.heap.size) (by simp)));have hh:=bc6 hb1 (al6 (b:=w.heap.size+1) (by simp));obtain ⟨c_s0,c_s1,c_s2,c_s3,c_s4,c_s5⟩:=hh;have z_s:=blt hb1 (alz (b:=w.heap.size+1) (by simp));have hB1:Below w.heap.size w w1:=xbel;have HB1:=hid hB1;clear hb1 hB1;go_wp2_with fail
  refine (MG.out _ HB1.out).mono ?_;rintro e w2 ⟨rfl,hb2⟩;have hz_w2:=hb2.size;simp (disch:=omega) only [xcl hb2] at c_t0 c_t1 c_t2 c_t3 c_t4 c_t5 c_t6 c_t7 c_t8 c_s0 c_s1 c_s2 c_s3 c_s4 c_s5;replace z_t:=blt hb2 z_t;replace z_s:=blt hb2 z_s;have HB2:=xv hb2 HB1;clear hb2;cases g with
  | false=>
   have hz8:z=8:=hz.symm;subst hz8;clear hz;go_wp2
   go_ret
   exact ⟨rfl,HB2.out⟩
  | true=>
   have hz8:z=0:=hz.symm;subst hz8;clear hz;go_wp2
   go_ret
   exact ⟨rfl,HB2.out⟩
theorem Check09_ok (c:Cfg) (s:SlC) (sa:SlA) (hl:s.ws.length≤1000000000000) (hl2:s.ks.length≤1000000000000) (w:World) (hin:SlIn w s sa):
    Calls Tryz.prog 13 #[.agg #[.int .u8 c.tag,.int .i64 c.most,.int .i64 c.seg,.int .i64 c.least,.int .i64 c.den,.int .i64 c.ll,.int .i64 c.rl,.int .i64 c.rh,.int .i64 c.lh],slV s sa] w (AnsB w (.int .i64 (gapE c s))):=
  Check09_core c s.seg _ _ _ _ _ _ _ _ _ _ _ _ _ (cfMay c) (gapMay c s) w (hid fun W _=>May05_ok c W) fun hc=>hid fun W hb=>May09_ok c hc s sa hl hl2 W (hin.below hb)
end
section
open Go.RowKit
theorem cap_nat {c:Cfg} (hd:cfHead c=true) {a:Nat} (hs:c.seg=((2^a:Nat):Int)) {n:Int} (h0:0≤n) (h1:n≤16384):∃H:Nat,taks c n=((2^a*2^H:Nat):Int)∧2^a*2^H≤65536∧n≤taks c n:=by
 have f:=cfHead_facts hd;obtain ⟨d0,d1,d2,d3,d4,d5,d6,d7,d8,d9,d10,d11,d12,d13,d14,d15,d16,d17⟩:=cfHead_num hd;have tb:=taks_bd hd h0 h1;obtain ⟨l1,l2,b,eb⟩:=powB_nat f.2.2.2.2.2.1;have hab:a≤b:=(Nat.pow_le_pow_iff_right (a:=2) xo).1 xo;obtain ⟨j,-,ej⟩:=takF_pow c n 20 c.least;have e:taks c n=((2^a*2^(b-a+j):Nat):Int):=by
  rw [taks,ej,eb,←Nat.pow_add,show a+(b-a+j)=b+j by omega,Nat.pow_add];push_cast
  rfl
 refine ⟨b-a+j,e,by omega,?_⟩;have ht:=takF_takes (c:=c) (n:=n) xo 20 c.least xo (tak_start h0 h1 xo d8 d9).1;have m1:c.rh*taks c n≤c.den*taks c n:=Int.mul_le_mul_of_nonneg_right xo xo;have m2:c.den*n≤c.den*taks c n:=by
  rw [Int.mul_comm c.den n];exact Int.le_trans ht m1
 exact Int.le_of_mul_le_mul_left m2 xo
theorem gap_zero {c:Cfg} {s:SlC} (h:gapE c s=0):cfMay c=true∧∃a H,GapN c s a H∧s.seg=c.seg∧sumC s.cs 0 s.cs.length≤c.most∧denB c s H=true:=by
 unfold gapE at h;split at h
 · rename_i hc
   split at h
   · rename_i hg
     have hg':=hg;simp only [gapMay,gapHead,Bool.and_eq_true,decide_eq_true_eq] at hg;obtain ⟨⟨⟨⟨h1,h2⟩,h3⟩,h4⟩,h5⟩:=hg;obtain ⟨a,H,k⟩:=gapN_of hc h3 h1 h2;exact ⟨hc,a,H,k,h2,h4,by rw [←k.cap.hgt];exact h5⟩
   · cases h
 · cases h
def nilC:SlC:=⟨0,[],[],[],[],0⟩
def capM (c:Cfg) (n:Nat):Nat:=(taks c n).toNat/c.seg.toNat
theorem cap_facts {c:Cfg} {s:SlC} {a H:Nat} (k:GapN c s a H) {n:Nat} (hn:(n:Int)≤c.most):c.seg.toNat=2^a∧taks c n=((2^a*capM c n:Nat):Int)∧1≤capM c n∧2^a*capM c n≤65536∧n≤2^a*capM c n∧pwB (capM c n:Int)=true:=by
 have hd:=cfMay_head k.cap.may;have d:=cfHead_num hd;obtain ⟨H',e,hb,hle⟩:=cap_nat hd k.cap.seg (n:=(n:Int)) xo xo;have hs:c.seg.toNat=2^a:=by rw [k.cap.seg];rfl
 have hm:capM c n=2^H':=by
  rw [capM,e,hs,Int.toNat_natCast,Nat.mul_div_cancel_left _ (Nat.two_pow_pos a)]
 rw [hm];exact ⟨hs,e,Nat.two_pow_pos H',hb,by omega,pwB_two H'⟩
theorem gapN_gd {c:Cfg} {s:SlC} {a H:Nat} (k:GapN c s a H) (hu:U64s s.ws):SlGd s (2^a) ((s.ks.length+63)/64) s.ks.length (2^H)∧(s.ks.length+63)/64≤2000:=by
 obtain ⟨S,M,g,-,-,-⟩:=slMay_gd hu k.may;have e1:S=2^a:=by have:=g.seg;have:=k.seg;omega
 have e2:M=2^H:=by have:=g.elc;have:=k.nc;omega
 have e3:=g.elk;subst e1 e2;have hb:=k.cap.big;rw [←e3] at g;have:=k.nk;exact ⟨g,by omega⟩
end
end Go.Proofs.YtookgoidlnlckaaGreatDoor

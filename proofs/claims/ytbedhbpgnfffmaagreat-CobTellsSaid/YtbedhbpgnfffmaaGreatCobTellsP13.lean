/- Merged: GapChk, Filled, Empty04, Spr, LoadW, GapCk. -/
import Derived.Test.YtbedhbpgnfffmaaGreatCobTellsP12
import Derived.Test.YtbedhbpgnfffmaaGreatCobTellsP4
import Derived.Test.YtbedhbpgnfffmaaGreatCobTellsP5
import Derived.Test.YtbedhbpgnfffmaaGreatCobTellsP11
import Derived.Test.YtbedhbpgnfffmaaGreatCobTellsP3
import Derived.Test.YtbedhbpgnfffmaaGreatCobTellsP1
import Derived.Deep.CutRange
import Derived.Test.YtbedhbpgnfffmaaGreatCobTellsP10
namespace Go.Proofs.YtbedhbpgnfffmaaGreat
set_option maxRecDepth 100000
set_option maxHeartbeats 40000000
set_option linter.unusedVariables false
set_option linter.unusedSimpArgs false
section
open Go.RowKit Go.Shelf Go.Sort
theorem among_core (w:World) (seg:Int) (wa ka va:Option Addr) (wc kc vc cc lw n lv lc:Nat) (laid:Int) (cb co:Nat) (cs:List Int) (A B:Int) (S lo hi:Nat) (hseg:seg=S) (hS:4≤S) (hS2:S≤64) (hA:A=((lo*S:Nat):Int)) (hB:B=((hi*S:Nat):Int)) (h1:lo≤hi) (h2:hi≤lc) (h3:lo<lc) (hcc:lc≤cc) (hlc:lc≤65536) (hlen:cs.length=lc) (hcs:CntB cs S) (hcn:IsRow .i64 w (some ⟨cb,co,none⟩) cs):
    Calls Tryz.prog 98 #[.agg #[.int .i64 seg,.slice wa lw wc,.slice ka n kc,.slice va lv vc,.slice (some ⟨cb,co,none⟩) lc cc,.int .u64 laid],.int .i64 A,.int .i64 B] w (AnsB w (.int .i64 (sumC cs lo hi))):=by
 have tA:A.tdiv seg=lo:=by
  rw [hA,hseg,Int.tdiv_eq_ediv_of_nonneg xo,←Int.natCast_ediv,Nat.mul_div_cancel _ xo]
 have tB:B.tdiv seg=hi:=by
  rw [hB,hseg,Int.tdiv_eq_ediv_of_nonneg xo,←Int.natCast_ediv,Nat.mul_div_cancel _ xo]
 have hs0:(seg==0)=false:=by simp;omega
 have hs1:¬seg=0:=xo;have wlo:IntKind.i64.wrap (lo:Int)=lo:=IntWalk.i64_in _ xo;have whi:IntKind.i64.wrap (hi:Int)=hi:=IntWalk.i64_in _ xo;have hne:¬cc=lo:=xo;have HN:=hid (hcn.below (br.alloc (Nat.le_refl _) (.cells #[.int .i64 seg,.slice wa lw wc,.slice ka n kc,.slice va lv vc,.slice (some ⟨cb,co,none⟩) lc cc,.int .u64 laid] 29)));have HL:=hid hlen;have HC:=hid hcs;have HSS:=hid (And.intro hS hS2);clear hA hB hseg hcn hlen hcs hS hS2;go_enter Tryz.func98,Tryz.ntmps98
 go_upto_region 1 with (fail)
 generalize hwz:w.alloc _=wz;have hh:=ec6 hwz (al6 (b:=w.heap.size) xsi);obtain ⟨c_t0,c_t1,c_t2,c_t3,c_t4,c_t5⟩:=hh;have z_t:=elt hwz (alz (b:=w.heap.size) xsi);have HS:Hid (Below w.heap.size w wz):=by rw [←hwz];exact hid (br.alloc (Nat.le_refl _) _)
 rw [hwz] at HN;clear hwz;have q0:=cg c_t0;have q1:=cg c_t1;have q2:=cg c_t2;have q3:=cg c_t3;have q4:=cg c_t4;have q5:=cg c_t5;refine wp_region_quiet_below xk xk ?_;repeat (go_big_quiet_step (fail))
 refine wpQuiet_nil ?_;intro _ hw';obtain ⟨⟨dq,osq⟩,hw''⟩:=hw';subst hw'';have hbq:=below_regrown wz dq osq;clear q0 q1 q2 q3 q4 q5;generalize Sort.grow (redrawn wz dq) osq=wx at *;have HB2:=xv hbq HS;have HN2:=hid (HN.out.below hbq);obtain ⟨m,hm⟩:∃m,hi-lo=m:=⟨_,rfl⟩
 go_wp2
 go_loopg [6,8,21] m (fun gk sv x iv wr=>∃i:Nat,i+gk=m∧iv= .int .i64 i∧sv= .int .i64 (sumC cs lo (lo+i))∧wx=wr)
 case atStart=>exact ⟨0,by omega,rfl,by rw [Nat.add_zero,sumC_nil],rfl⟩
 case round=>
  obtain ⟨i,hi2,rfl,rfl,rfl⟩:=hrel;by_cases hlt:i<m
  · obtain ⟨b,off,x,hbe,hxx,hc,-⟩:=HN2.out.get (i:=lo+i) (by rw [HL.out];omega);cases hbe;have hc':wx.cell? ⟨cb,co+lo+i,none⟩=some (.int .i64 x):=by rw [Nat.add_assoc];exact hc
    have hsb:=sumC_bd HC.out lo i;have hx2:=HC.out (lo+i);have hsu:=sumC_succ cs (a:=lo) (b:=lo+i) xo;rw [hxx.out] at hsu hx2;have hsn:S*i≤64*65536:=Nat.mul_le_mul HSS.out.2 xo;have hS64:=HSS.out.2;generalize sumC cs lo (lo+i)=s0 at *;have hw1:IntKind.i64.wrap (s0+x)=s0+x:=IntWalk.i64_in _ xo;have HSU:=hid hsu;clear hc hxx hsu hx2 hsb;go_wp2
    go_roundg (gk-1)
    case measure=>omega
    case rel=>exact ⟨i+1,by omega,by go_num,by rw [←Nat.add_assoc,HSU.out],rfl⟩
  · have him:i=m:=xo;subst him;have e:sumC cs lo (lo+i)=sumC cs lo hi:=by congr 1;omega
    rw [e];clear e;go_wp2
    go_ret
    exact ⟨rfl,HB2.out⟩
theorem gapE_bad {c:Cfg} {s:SlC} (hc:cfMay c=true) (h:gapHead c s=false):gapE c s=8:=by simp [gapE,hc,gapMay,h]
theorem gapCheck_conf (c:Cfg) (hc:cfMay c=false) (seg:Int) (wa ka va ca:Option Addr) (wc kc vc cc lw n lv lc:Nat) (laid:Int) (w:World):
    Calls Tryz.prog 64 #[.agg #[.int .u8 c.tag,.int .i64 c.most,.int .i64 c.seg,.int .i64 c.least,.int .i64 c.den,.int .i64 c.ll,.int .i64 c.rl,.int .i64 c.rh,.int .i64 c.lh],.agg #[.int .i64 seg,.slice wa lw wc,.slice ka n kc,.slice va lv vc,.slice ca lc cc,.int .u64 laid]] w (AnsB w (.int .i64 50)):=by
 have CK:=hid (fun W=>Check5_ok c W);rw [show cfE c=50 by simp [cfE,hc]] at CK;clear hc;go_enter Tryz.func64,Tryz.ntmps64
 go_wp2_with fail
 refine (CK.out _).mono ?_;rintro e w1 ⟨rfl,hb1⟩;have hz_w1:=hb1.size;try simp only [World.size_alloc,World.size_setCell] at hz_w1
 have hh:=bc9 hb1 (au9 (al9 (b:=w.heap.size) xsi));obtain ⟨c_t0,c_t1,c_t2,c_t3,c_t4,c_t5,c_t6,c_t7,c_t8⟩:=hh;have z_t:=blt hb1 (auz (alz (b:=w.heap.size) xsi));have hh:=bc6 hb1 (al6 (b:=w.heap.size+1) xsi);obtain ⟨c_s0,c_s1,c_s2,c_s3,c_s4,c_s5⟩:=hh;have z_s:=blt hb1 (alz (b:=w.heap.size+1) xsi);have hB1:Below w.heap.size w w1:=xbel;go_wp2
 go_ret
 exact ⟨rfl,hB1⟩
theorem gapCheck_high (c:Cfg) (hc:cfMay c=true) (seg:Int) (wa ka va ca:Option Addr) (wc kc vc cc lw n lv lc:Nat) (laid:Int) (hp:powB n c.least (taks c c.most)=false) (w:World):
    Calls Tryz.prog 64 #[.agg #[.int .u8 c.tag,.int .i64 c.most,.int .i64 c.seg,.int .i64 c.least,.int .i64 c.den,.int .i64 c.ll,.int .i64 c.rl,.int .i64 c.rh,.int .i64 c.lh],.agg #[.int .i64 seg,.slice wa lw wc,.slice ka n kc,.slice va lv vc,.slice ca lc cc,.int .u64 laid]] w (AnsB w (.int .i64 8)):=by
 have CK:=hid (fun W=>Check5_ok c W);rw [cfE_ok hc] at CK;have HI:=hid (fun W=>High_no c hc n hp W);clear hc hp;go_enter Tryz.func64,Tryz.ntmps64
 go_wp2_with fail
 refine (CK.out _).mono ?_;rintro e w1 ⟨rfl,hb1⟩;have hz_w1:=hb1.size;try simp only [World.size_alloc,World.size_setCell] at hz_w1
 have hh:=bc9 hb1 (au9 (al9 (b:=w.heap.size) xsi));obtain ⟨c_t0,c_t1,c_t2,c_t3,c_t4,c_t5,c_t6,c_t7,c_t8⟩:=hh;have z_t:=blt hb1 (auz (alz (b:=w.heap.size) xsi));have hh:=bc6 hb1 (al6 (b:=w.heap.size+1) xsi);obtain ⟨c_s0,c_s1,c_s2,c_s3,c_s4,c_s5⟩:=hh;have z_s:=blt hb1 (alz (b:=w.heap.size+1) xsi);have hB1:Below w.heap.size w w1:=xbel;have HB1:=hid hB1;clear hb1 hB1;go_wp2_with fail
 refine (HI.out _).mono ?_;rintro e w2 ⟨rfl,hb2⟩;have hz_w2:=hb2.size;simp (disch:=omega) only [xcl hb2] at *;replace z_t:=blt hb2 z_t;replace z_s:=blt hb2 z_s;have HB2:=xv hb2 HB1;clear hb2;go_upto_region 6 with (fail)
 have q0:=cg c_t0;have q1:=cg c_t1;have q2:=cg c_t2;have q3:=cg c_t3;have q4:=cg c_t4;have q5:=cg c_t5;have q6:=cg c_t6;have q7:=cg c_t7;have q8:=cg c_t8;have q9:=cg c_s0;have q10:=cg c_s1;have q11:=cg c_s2;have q12:=cg c_s3;have q13:=cg c_s4;have q14:=cg c_s5;refine wp_region_quiet_below xk xk ?_;repeat (go_big_quiet_step (fail))
 refine wpQuiet_nil ?_;intro _ hw';obtain ⟨⟨dq,osq⟩,hw''⟩:=hw';subst hw'';have hbq:=below_regrown w2 dq osq;clear q0 q1 q2 q3 q4 q5 q6 q7 q8 q9 q10 q11 q12 q13 q14;generalize Sort.grow (redrawn w2 dq) osq=wx at *;have HB3:=xv hbq HB2;go_wp2
 go_ret
 exact ⟨rfl,HB3.out⟩
theorem gapCheck_slots (c:Cfg) (hc:cfMay c=true) (seg:Int) (wa ka va ca:Option Addr) (wc kc vc cc lw n lv lc:Nat) (laid:Int) (hp:powB n c.least (taks c c.most)=true) (x:Int) (hx:x≠0) (w:World)
    (SK:Hid (∀W,Below w.heap.size w W→Calls Tryz.prog 97 #[.agg #[.int .i64 seg,.slice wa lw wc,.slice ka n kc,.slice va lv vc,.slice ca lc cc,.int .u64 laid]] W (AnsB W (.int .i64 x)))):
    Calls Tryz.prog 64 #[.agg #[.int .u8 c.tag,.int .i64 c.most,.int .i64 c.seg,.int .i64 c.least,.int .i64 c.den,.int .i64 c.ll,.int .i64 c.rl,.int .i64 c.rh,.int .i64 c.lh],.agg #[.int .i64 seg,.slice wa lw wc,.slice ka n kc,.slice va lv vc,.slice ca lc cc,.int .u64 laid]] w (AnsB w (.int .i64 8)):=by
 have CK:=hid (fun W=>Check5_ok c W);rw [cfE_ok hc] at CK;have HI:=hid (fun W=>High_in c hc n hp W);generalize ((htC c n:Nat):Int)=HH at *;have gx:(x != 0)=true:=by simpa using hx
 clear hc hp hx;go_enter Tryz.func64,Tryz.ntmps64
 go_wp2_with fail
 refine (CK.out _).mono ?_;rintro e w1 ⟨rfl,hb1⟩;have hz_w1:=hb1.size;try simp only [World.size_alloc,World.size_setCell] at hz_w1
 have hh:=bc9 hb1 (au9 (al9 (b:=w.heap.size) xsi));obtain ⟨c_t0,c_t1,c_t2,c_t3,c_t4,c_t5,c_t6,c_t7,c_t8⟩:=hh;have z_t:=blt hb1 (auz (alz (b:=w.heap.size) xsi));have hh:=bc6 hb1 (al6 (b:=w.heap.size+1) xsi);obtain ⟨c_s0,c_s1,c_s2,c_s3,c_s4,c_s5⟩:=hh;have z_s:=blt hb1 (alz (b:=w.heap.size+1) xsi);have hB1:Below w.heap.size w w1:=xbel;have HB1:=hid hB1;clear hb1 hB1;go_wp2_with fail
 refine (HI.out _).mono ?_;rintro e w2 ⟨rfl,hb2⟩;have hz_w2:=hb2.size;simp (disch:=omega) only [xcl hb2] at *;replace z_t:=blt hb2 z_t;replace z_s:=blt hb2 z_s;have HB2:=xv hb2 HB1;clear hb2;go_upto_region 6 with (fail)
 have K0:=hid (fun d os=>kr w2 d os (SK.out _ (below_via (below_regrown _ _ _) HB2.out HB2.out.size)));have q0:=cg c_t0;have q1:=cg c_t1;have q2:=cg c_t2;have q3:=cg c_t3;have q4:=cg c_t4;have q5:=cg c_t5;have q6:=cg c_t6;have q7:=cg c_t7;have q8:=cg c_t8;have q9:=cg c_s0;have q10:=cg c_s1;have q11:=cg c_s2;have q12:=cg c_s3;have q13:=cg c_s4;have q14:=cg c_s5;refine wp_region_quiet_below xk xk ?_;repeat (go_big_quiet_step (first|with_reducible exact K0.out _ _|exact K0.out _ _))
 refine wpQuiet_nil ?_;intro _ hw';obtain ⟨⟨dq,osq⟩,hw''⟩:=hw';subst hw'';have hbq:=below_regrown w2 dq osq;clear q0 q1 q2 q3 q4 q5 q6 q7 q8 q9 q10 q11 q12 q13 q14 K0;generalize Sort.grow (redrawn w2 dq) osq=wx at *;have HB3:=xv hbq HB2;go_wp2
 go_ret
 exact ⟨rfl,HB3.out⟩
theorem gapCheck_seg (c:Cfg) (hc:cfMay c=true) (seg:Int) (wa ka va ca:Option Addr) (wc kc vc cc lw n lv lc:Nat) (laid:Int) (hp:powB n c.least (taks c c.most)=true) (hs:seg≠c.seg) (w:World)
    (SK:Hid (∀W,Below w.heap.size w W→Calls Tryz.prog 97 #[.agg #[.int .i64 seg,.slice wa lw wc,.slice ka n kc,.slice va lv vc,.slice ca lc cc,.int .u64 laid]] W (AnsB W (.int .i64 0)))):
    Calls Tryz.prog 64 #[.agg #[.int .u8 c.tag,.int .i64 c.most,.int .i64 c.seg,.int .i64 c.least,.int .i64 c.den,.int .i64 c.ll,.int .i64 c.rl,.int .i64 c.rh,.int .i64 c.lh],.agg #[.int .i64 seg,.slice wa lw wc,.slice ka n kc,.slice va lv vc,.slice ca lc cc,.int .u64 laid]] w (AnsB w (.int .i64 8)):=by
 have CK:=hid (fun W=>Check5_ok c W);rw [cfE_ok hc] at CK;have HI:=hid (fun W=>High_in c hc n hp W);generalize ((htC c n:Nat):Int)=HH at *;have gs:(seg != c.seg)=true:=by simpa using hs
 clear hc hp hs;go_enter Tryz.func64,Tryz.ntmps64
 go_wp2_with fail
 refine (CK.out _).mono ?_;rintro e w1 ⟨rfl,hb1⟩;have hz_w1:=hb1.size;try simp only [World.size_alloc,World.size_setCell] at hz_w1
 have hh:=bc9 hb1 (au9 (al9 (b:=w.heap.size) xsi));obtain ⟨c_t0,c_t1,c_t2,c_t3,c_t4,c_t5,c_t6,c_t7,c_t8⟩:=hh;have z_t:=blt hb1 (auz (alz (b:=w.heap.size) xsi));have hh:=bc6 hb1 (al6 (b:=w.heap.size+1) xsi);obtain ⟨c_s0,c_s1,c_s2,c_s3,c_s4,c_s5⟩:=hh;have z_s:=blt hb1 (alz (b:=w.heap.size+1) xsi);have hB1:Below w.heap.size w w1:=xbel;have HB1:=hid hB1;clear hb1 hB1;go_wp2_with fail
 refine (HI.out _).mono ?_;rintro e w2 ⟨rfl,hb2⟩;have hz_w2:=hb2.size;simp (disch:=omega) only [xcl hb2] at *;replace z_t:=blt hb2 z_t;replace z_s:=blt hb2 z_s;have HB2:=xv hb2 HB1;clear hb2;go_upto_region 6 with (fail)
 have K0:=hid (fun d os=>kr w2 d os (SK.out _ (below_via (below_regrown _ _ _) HB2.out HB2.out.size)));have q0:=cg c_t0;have q1:=cg c_t1;have q2:=cg c_t2;have q3:=cg c_t3;have q4:=cg c_t4;have q5:=cg c_t5;have q6:=cg c_t6;have q7:=cg c_t7;have q8:=cg c_t8;have q9:=cg c_s0;have q10:=cg c_s1;have q11:=cg c_s2;have q12:=cg c_s3;have q13:=cg c_s4;have q14:=cg c_s5;refine wp_region_quiet_below xk xk ?_;repeat (go_big_quiet_step (first|with_reducible exact K0.out _ _|exact K0.out _ _))
 refine wpQuiet_nil ?_;intro _ hw';obtain ⟨⟨dq,osq⟩,hw''⟩:=hw';subst hw'';have hbq:=below_regrown w2 dq osq;clear q0 q1 q2 q3 q4 q5 q6 q7 q8 q9 q10 q11 q12 q13 q14 K0;generalize Sort.grow (redrawn w2 dq) osq=wx at *;have HB3:=xv hbq HB2;go_wp2
 go_ret
 exact ⟨rfl,HB3.out⟩
theorem gapCheck_many (c:Cfg) (hc:cfMay c=true) (seg:Int) (wa ka va ca:Option Addr) (wc kc vc cc lw n lv lc:Nat) (laid:Int) (hp:powB n c.least (taks c c.most)=true) (hs:seg=c.seg) (many:Int) (hm:c.most<many) (w:World)
    (SK:Hid (∀W,Below w.heap.size w W→Calls Tryz.prog 97 #[.agg #[.int .i64 seg,.slice wa lw wc,.slice ka n kc,.slice va lv vc,.slice ca lc cc,.int .u64 laid]] W (AnsB W (.int .i64 0))))
    (AM:Hid (∀W,Below w.heap.size w W→Calls Tryz.prog 98 #[.agg #[.int .i64 seg,.slice wa lw wc,.slice ka n kc,.slice va lv vc,.slice ca lc cc,.int .u64 laid],.int .i64 0,.int .i64 n] W (AnsB W (.int .i64 many)))):
    Calls Tryz.prog 64 #[.agg #[.int .u8 c.tag,.int .i64 c.most,.int .i64 c.seg,.int .i64 c.least,.int .i64 c.den,.int .i64 c.ll,.int .i64 c.rl,.int .i64 c.rh,.int .i64 c.lh],.agg #[.int .i64 seg,.slice wa lw wc,.slice ka n kc,.slice va lv vc,.slice ca lc cc,.int .u64 laid]] w (AnsB w (.int .i64 8)):=by
 have CK:=hid (fun W=>Check5_ok c W);rw [cfE_ok hc] at CK;have HI:=hid (fun W=>High_in c hc n hp W);generalize ((htC c n:Nat):Int)=HH at *;have gs:(seg != c.seg)=false:=by simpa using hs
 have gm:decide (c.most<many)=true:=by simpa using hm
 clear hc hp hs;go_enter Tryz.func64,Tryz.ntmps64
 go_wp2_with fail
 refine (CK.out _).mono ?_;rintro e w1 ⟨rfl,hb1⟩;have hz_w1:=hb1.size;try simp only [World.size_alloc,World.size_setCell] at hz_w1
 have hh:=bc9 hb1 (au9 (al9 (b:=w.heap.size) xsi));obtain ⟨c_t0,c_t1,c_t2,c_t3,c_t4,c_t5,c_t6,c_t7,c_t8⟩:=hh;have z_t:=blt hb1 (auz (alz (b:=w.heap.size) xsi));have hh:=bc6 hb1 (al6 (b:=w.heap.size+1) xsi);obtain ⟨c_s0,c_s1,c_s2,c_s3,c_s4,c_s5⟩:=hh;have z_s:=blt hb1 (alz (b:=w.heap.size+1) xsi);have hB1:Below w.heap.size w w1:=xbel;have HB1:=hid hB1;clear hb1 hB1;go_wp2_with fail
 refine (HI.out _).mono ?_;rintro e w2 ⟨rfl,hb2⟩;have hz_w2:=hb2.size;simp (disch:=omega) only [xcl hb2] at *;replace z_t:=blt hb2 z_t;replace z_s:=blt hb2 z_s;have HB2:=xv hb2 HB1;clear hb2;go_upto_region 6 with (fail)
 have K0:=hid (fun d os=>kr w2 d os (SK.out _ (below_via (below_regrown _ _ _) HB2.out HB2.out.size)));have K1:=hid (fun d os=>kr w2 d os (AM.out _ (below_via (below_regrown _ _ _) HB2.out HB2.out.size)));have q0:=cg c_t0;have q1:=cg c_t1;have q2:=cg c_t2;have q3:=cg c_t3;have q4:=cg c_t4;have q5:=cg c_t5;have q6:=cg c_t6;have q7:=cg c_t7;have q8:=cg c_t8;have q9:=cg c_s0;have q10:=cg c_s1;have q11:=cg c_s2;have q12:=cg c_s3;have q13:=cg c_s4;have q14:=cg c_s5;refine wp_region_quiet_below xk xk ?_;repeat (go_big_quiet_step (first|with_reducible exact K0.out _ _|with_reducible exact K1.out _ _|exact K0.out _ _|exact K1.out _ _))
 refine wpQuiet_nil ?_;intro _ hw';obtain ⟨⟨dq,osq⟩,hw''⟩:=hw';subst hw'';have hbq:=below_regrown w2 dq osq;clear q0 q1 q2 q3 q4 q5 q6 q7 q8 q9 q10 q11 q12 q13 q14 K0 K1;generalize Sort.grow (redrawn w2 dq) osq=wx at *;have HB3:=xv hbq HB2;go_wp2
 go_ret
 exact ⟨rfl,HB3.out⟩
theorem win_wd (i k:Nat):(i+1)*k-i*k=k:=by rw [Nat.succ_mul,Nat.add_sub_cancel_left]
theorem winB_bad {c:Cfg} {s:SlC} {H h i:Nat} (hh:h<H+1) (hi:i<s.cs.length/2^h) (hb:winB c s H h i=false):denB c s H=false:=by
 apply Bool.eq_false_iff.2;intro hd;have h1:=List.all_eq_true.1 hd h (List.mem_range.2 hh);have h2:=List.all_eq_true.1 h1 i (List.mem_range.2 hi);rw [hb] at h2;cases h2
theorem gapCheck_core (c:Cfg) (s:SlC) (seg:Int) (wa ka va ca:Option Addr) (wc kc vc cc lw n lv lc:Nat) (laid:Int) (a H:Nat) (k:CapC c n a H) (hs:seg=c.seg) (hlc:s.cs.length=2^H) (hnk:s.ks.length=n) (hcb:CntB s.cs (2^a)) (many:Int) (hm:many≤c.most) (z:Int) (hz:(if denB c s H=true then 0 else 8)=z) (w:World)
    (SK:Hid (∀W,Below w.heap.size w W→Calls Tryz.prog 97 #[.agg #[.int .i64 seg,.slice wa lw wc,.slice ka n kc,.slice va lv vc,.slice ca lc cc,.int .u64 laid]] W (AnsB W (.int .i64 0))))
    (AM:Hid (∀W,Below w.heap.size w W→Calls Tryz.prog 98 #[.agg #[.int .i64 seg,.slice wa lw wc,.slice ka n kc,.slice va lv vc,.slice ca lc cc,.int .u64 laid],.int .i64 0,.int .i64 n] W (AnsB W (.int .i64 many))))
    (AW:Hid (∀h i,h≤H→i<2^(H-h)→∀W,Below w.heap.size w W→Calls Tryz.prog 98 #[.agg #[.int .i64 seg,.slice wa lw wc,.slice ka n kc,.slice va lv vc,.slice ca lc cc,.int .u64 laid],.int .i64 ((i*(2^a*2^h):Nat):Int),.int .i64 (((i*(2^a*2^h):Nat):Int)+((2^a*2^h:Nat):Int))] W (AnsB W (.int .i64 (sumC s.cs (i*2^h) ((i+1)*2^h)))))):
    Calls Tryz.prog 64 #[.agg #[.int .u8 c.tag,.int .i64 c.most,.int .i64 c.seg,.int .i64 c.least,.int .i64 c.den,.int .i64 c.ll,.int .i64 c.rl,.int .i64 c.rh,.int .i64 c.lh],.agg #[.int .i64 seg,.slice wa lw wc,.slice ka n kc,.slice va lv vc,.slice ca lc cc,.int .u64 laid]] w (AnsB w (.int .i64 z)):=by
 have CK:=hid (fun W=>Check5_ok c W);rw [cfE_ok k.may] at CK;have HI:=hid (fun W=>High_in c k.may n k.cap W);rw [k.hgt] at HI;have hH:=k.h14;have KW:WinC c.seg n a H:=⟨k.seg,k.all,k.a2,k.a6,k.big⟩
 have RW:=hid (fun h (hh:h≤H) W=>Row_ok c.seg n a H h KW hh W);have FU:=hid (fun h (hh:h≤H) x h0 h1 W=>Full_ok c n a H h k hh x h0 h1 W);have SP:=hid (fun h (hh:h≤H) x h0 h1 W=>Sparse_in c n a H h k hh x h0 h1 W);have HZ:=hid hz;have HLC:=hid hlc;have HNK:=hid hnk;have hsum:∀h i,h≤H→0≤sumC s.cs (i*2^h) ((i+1)*2^h)∧sumC s.cs (i*2^h) ((i+1)*2^h)≤wdC c h∧wdC c h≤65536:=by
  intro h i hh;obtain ⟨e,-,e2,-⟩:=k.wd hh;have:=sumC_bd2 hcb (i*2^h) ((i+1)*2^h);rw [win_wd] at this;exact ⟨this.1,by rw [e];exact this.2,e2⟩
 have HSM:=hid hsum;have gs:(seg != c.seg)=false:=by simpa using hs
 have gm:decide (c.most<many)=false:=by simp;omega
 have hw1:IntKind.i64.wrap ((H:Int)+1)=(H:Int)+1:=IntWalk.i64_in _ xo;clear hz hlc hnk hcb hsum KW k hs hm;go_enter Tryz.func64,Tryz.ntmps64
 go_wp2_with fail
 refine (CK.out _).mono ?_;rintro e w1 ⟨rfl,hb1⟩;have hz_w1:=hb1.size;try simp only [World.size_alloc,World.size_setCell] at hz_w1
 have hh:=bc9 hb1 (au9 (al9 (b:=w.heap.size) xsi));obtain ⟨c_t0,c_t1,c_t2,c_t3,c_t4,c_t5,c_t6,c_t7,c_t8⟩:=hh;have z_t:=blt hb1 (auz (alz (b:=w.heap.size) xsi));have hh:=bc6 hb1 (al6 (b:=w.heap.size+1) xsi);obtain ⟨c_s0,c_s1,c_s2,c_s3,c_s4,c_s5⟩:=hh;have z_s:=blt hb1 (alz (b:=w.heap.size+1) xsi);have hB1:Below w.heap.size w w1:=xbel;have HB1:=hid hB1;clear hb1 hB1;go_wp2_with fail
 refine (HI.out _).mono ?_;rintro e w2 ⟨rfl,hb2⟩;have hz_w2:=hb2.size;simp (disch:=omega) only [xcl hb2] at c_t0 c_t1 c_t2 c_t3 c_t4 c_t5 c_t6 c_t7 c_t8 c_s0 c_s1 c_s2 c_s3 c_s4 c_s5;replace z_t:=blt hb2 z_t;replace z_s:=blt hb2 z_s;have HB2:=xv hb2 HB1;clear hb2;go_upto_region 6 with (fail)
 have K0:=hid (fun d os=>kr w2 d os (SK.out _ (below_via (below_regrown _ _ _) HB2.out HB2.out.size)));have K1:=hid (fun d os=>kr w2 d os (AM.out _ (below_via (below_regrown _ _ _) HB2.out HB2.out.size)));have q0:=cg c_t0;have q1:=cg c_t1;have q2:=cg c_t2;have q3:=cg c_t3;have q4:=cg c_t4;have q5:=cg c_t5;have q6:=cg c_t6;have q7:=cg c_t7;have q8:=cg c_t8;have q9:=cg c_s0;have q10:=cg c_s1;have q11:=cg c_s2;have q12:=cg c_s3;have q13:=cg c_s4;have q14:=cg c_s5;refine wp_region_quiet_below xk xk ?_;repeat (go_big_quiet_step (first|with_reducible exact K0.out _ _|with_reducible exact K1.out _ _|exact K0.out _ _|exact K1.out _ _))
 refine wpQuiet_nil ?_;intro _ hw';obtain ⟨⟨dq,osq⟩,hw''⟩:=hw';subst hw'';have hbq:=below_regrown w2 dq osq;clear q0 q1 q2 q3 q4 q5 q6 q7 q8 q9 q10 q11 q12 q13 q14 K0 K1;generalize Sort.grow (redrawn w2 dq) osq=wx at *;have HB3:=xv hbq HB2;have hz_wx:=hbq.size;simp (disch:=omega) only [xcl hbq] at c_t0 c_t1 c_t2 c_t3 c_t4 c_t5 c_t6 c_t7 c_t8 c_s0 c_s1 c_s2 c_s3 c_s4 c_s5;replace z_t:=blt hbq z_t;replace z_s:=blt hbq z_s;clear hbq;go_wp2
 go_loopg [57] (H+1) (fun gk iv wr=>∃h:Nat,h+gk=H+1∧iv= .int .i64 h∧Hid (∀h',h'<h→rowB c s H h'=true)∧Hid (Below wx.heap.size wx wr))
 case atStart=>exact ⟨0,by omega,rfl,hid fun h' q=>by omega,hid br⟩
 case round=>
  obtain ⟨h,hk,rfl,HD,HB⟩:=hrel;have hbr:=HB.out;have hz_wr:=hbr.size;simp (disch:=omega) only [xcl hbr] at c_t0 c_t1 c_t2 c_t3 c_t4 c_t5 c_t6 c_t7 c_t8 c_s0 c_s1 c_s2 c_s3 c_s4 c_s5;replace z_t:=blt hbr z_t;replace z_s:=blt hbr z_s;have HB4:=xv hbr HB3;have hz4:=HB4.out.size;clear hbr;by_cases hlt:h<H+1
  · generalize gk=go at *;have HK:=hid hk;clear hk;go_wp2_with fail
    refine (RW.out h xo _).mono ?_;rintro e w5 ⟨v5,rfl,ho5,hb5⟩;have hz_w5:=hb5.size;simp (disch:=omega) only [xcl hb5] at c_t0 c_t1 c_t2 c_t3 c_t4 c_t5 c_t6 c_t7 c_t8 c_s0 c_s1 c_s2 c_s3 c_s4 c_s5;replace z_t:=blt hb5 z_t;replace z_s:=blt hb5 z_s;have HB5:=hid (below_via hb5 HB4.out hz4);have HW5:=xv hb5 HB;have hz5:=hb5.size;obtain ⟨ra,rc,rfl,hi5,-,-,hrc,-⟩:=row_of_owns ho5;rw [rowL_length] at hrc ⊢;have HR5:=hid hi5;have hm0:2^(H-h)≤2^14:=Nat.pow_le_pow_right xo xo;have AW2:=hid (fun i hi W hb=>AW.out h i xo hi W hb);have SM2:=hid (fun i=>HSM.out h i xo);have RG2:=hid (fun i (hi:i<2^(H-h))=>rowL_get (W:=2^a*2^h) hi);have hbad:Hid (∀i,i<2^(H-h)→winB c s H h i=false→z=8):=hid fun i hi hb=>by
     rw [←HZ.out,winB_bad hlt (by rw [HLC.out,Nat.pow_div xo xo];exact hi) hb];rfl
    have hgood:Hid ((∀i,i<2^(H-h)→winB c s H h i=true)→rowB c s H h=true):=hid fun hg=>List.all_eq_true.2 fun i hi=>hg i (by have:=List.mem_range.1 hi;rwa [HLC.out,Nat.pow_div xo xo] at this)
    have HIL:=hid (rowL_length (2^a*2^h) (2^(H-h)));generalize rowL (2^a*2^h) (2^(H-h))=L at *;generalize 2^(H-h)=m at *;clear hb5 ho5 hi5 hrc;go_wp2
    go_loopg [70] m (fun gk2 iv wr2=>∃i:Nat,i+gk2=m∧iv= .int .i64 i∧Hid (∀j,j<i→winB c s H h j=true)∧Hid (Below w5.heap.size w5 wr2))
    case atStart=>exact ⟨0,by omega,rfl,hid fun j q=>by omega,hid br⟩
    case round=>
     obtain ⟨i,hk2,rfl,HD2,HBB⟩:=hrel;have hbr2:=HBB.out;have hz_wr:=hbr2.size;simp (disch:=omega) only [xcl hbr2] at c_t0 c_t1 c_t2 c_t3 c_t4 c_t5 c_t6 c_t7 c_t8 c_s0 c_s1 c_s2 c_s3 c_s4 c_s5;replace z_t:=blt hbr2 z_t;replace z_s:=blt hbr2 z_s;have HB6:=xv hbr2 HB5;have hz6:=HB6.out.size;by_cases hlt2:i<m
     · obtain ⟨bl,ol,rfl,cl0,cl1,zl⟩:=pr_get (HR5.out.below hbr2) (i:=i) (by rw [HIL.out];exact hlt2);rw [RG2.out i hlt2] at cl0 cl1;clear hbr2;dsimp only at cl0 cl1;have AW3:=hid (fun W hb=>AW2.out i hlt2 W hb);have sb:=SM2.out i;obtain ⟨sb1,sb2,sb3⟩:=sb;have HWB:Hid (winB c s H h i=(fulB c H h (sumC s.cs (i*2^h) ((i+1)*2^h))&&sprB c n H h (sumC s.cs (i*2^h) ((i+1)*2^h)))):=hid (by rw [←HNK.out];rfl);generalize sumC s.cs (i*2^h) ((i+1)*2^h)=sm at *;generalize ((i*(2^a*2^h):Nat):Int)=x0 at *;generalize x0+((2^a*2^h:Nat):Int)=x1 at *;have FU2:=hid (fun W=>FU.out h xo sm sb1 xo W);have SP2:=hid (fun W=>SP.out h xo sm sb1 sb2 W);have HK2:=hid hk2;clear hk2;go_wp2_with fail
       refine (AW3.out _ xbel).mono ?_;rintro e w7 ⟨rfl,hb7⟩;have hz_w7:=hb7.size;try simp only [World.size_alloc,World.size_setCell] at hz_w7
       have hh:=bc9 hb7 (au9 (⟨c_t0,c_t1,c_t2,c_t3,c_t4,c_t5,c_t6,c_t7,c_t8⟩));clear c_t0 c_t1 c_t2 c_t3 c_t4 c_t5 c_t6 c_t7 c_t8;obtain ⟨c_t0,c_t1,c_t2,c_t3,c_t4,c_t5,c_t6,c_t7,c_t8⟩:=hh;replace z_t:=blt hb7 (auz (z_t));have hh:=bc6 hb7 (au6 (⟨c_s0,c_s1,c_s2,c_s3,c_s4,c_s5⟩));clear c_s0 c_s1 c_s2 c_s3 c_s4 c_s5;obtain ⟨c_s0,c_s1,c_s2,c_s3,c_s4,c_s5⟩:=hh;replace z_s:=blt hb7 (auz (z_s));have hh:=bc2 hb7 (al2 (b:=wr.heap.size) xsi);obtain ⟨c_x0,c_x1⟩:=hh;have z_x:=blt hb7 (alz (b:=wr.heap.size) xsi);have HB7:=hid (show Below w.heap.size w w7 by (exact xbel));have HC7:=hid (show Below w5.heap.size w5 w7 by (exact xbel));clear hb7;go_wp2_with fail
       refine (FU2.out _).mono ?_;rintro e w8 ⟨rfl,hb8⟩;have hz_w8:=hb8.size;simp (disch:=omega) only [xcl hb8] at c_t0 c_t1 c_t2 c_t3 c_t4 c_t5 c_t6 c_t7 c_t8 c_s0 c_s1 c_s2 c_s3 c_s4 c_s5;replace z_t:=blt hb8 z_t;replace z_s:=blt hb8 z_s;have HB8:=xv hb8 HB7;have HC8:=xv hb8 HC7;clear hb8;go_wp2_with fail
       refine (SP2.out _).mono ?_;rintro e w9 ⟨rfl,hb9⟩;have hz_w9:=hb9.size;simp (disch:=omega) only [xcl hb9] at c_t0 c_t1 c_t2 c_t3 c_t4 c_t5 c_t6 c_t7 c_t8 c_s0 c_s1 c_s2 c_s3 c_s4 c_s5;replace z_t:=blt hb9 z_t;replace z_s:=blt hb9 z_s;have HB9:=xv hb9 HB8;have HC9:=xv hb9 HC8;clear hb9;cases hf:fulB c H h sm with
       | false=>
        have hz8:=hbad.out i hlt2 (by rw [HWB.out,hf];rfl);subst hz8;go_wp2
        go_ret
        exact ⟨rfl,HB9.out⟩
       | true=>
        cases hg:sprB c n H h sm with
        | false=>
         have hz8:=hbad.out i hlt2 (by rw [HWB.out,hf,hg];rfl);subst hz8;go_wp2
         go_ret
         exact ⟨rfl,HB9.out⟩
        | true=>
         go_wp2
         go_roundg (gk-1)
         case measure=>have:=HK2.out;omega
         case rel=>
          refine ⟨i+1,by have:=HK2.out;omega,by go_num,hid fun j hj=> ?_,HC9⟩;by_cases hji:j=i
          · rw [hji,HWB.out,hf,hg];rfl
          · exact HD2.out j xo
     · have HK2:=hid hk2;clear hk2;go_wp2
       go_roundg (go-1)
       case measure=>have:=HK.out;omega
       case rel=>
        refine ⟨h+1,by have:=HK.out;omega,by go_num,hid fun h' hh'=> ?_,hid (below_via HBB.out HW5.out HW5.out.size)⟩;by_cases hji:h'=h
        · rw [hji];exact hgood.out fun j hj=>HD2.out j (by have:=HK2.out;omega)
        · exact HD.out h' xo
  · have hz0:z=0:=by
      rw [←HZ.out,if_pos];exact List.all_eq_true.2 fun h' hh'=>HD.out h' (by have:=List.mem_range.1 hh';omega)
    subst hz0;clear hk;go_wp2
    go_ret
    exact ⟨rfl,HB4.out⟩
end
section
open Go.RowKit Go.Shelf
attribute [local go_sem] Oper.semAt_some
structure FilK (w w2 W:World):Prop where
 bel:Below w.heap.size w W
 keep:∀q,q<w.heap.size+2→q≠w.heap.size→W.heap[q]? =w2.heap[q]?
 size:w.heap.size+2≤W.heap.size
theorem FilK.below {w w2 W W':World} (h:FilK w w2 W) (hb:Below W.heap.size W W'):FilK w w2 W':=
  ⟨below_via hb h.bel (by have:=h.size;omega),fun q hq hne=>(hb.block q (by have:=h.size;omega)).trans (h.keep q hq hne),Nat.le_trans h.size hb.size⟩
theorem FilK.drew {w w2 W:World} (h:FilK w w2 W):FilK w w2 W.drew:=⟨h.bel.drew,h.keep,h.size⟩
theorem FilK.setCell {w w2 W:World} (h:FilK w w2 W) {a:Addr} (ha:a.block=w.heap.size∨w.heap.size+2≤a.block) (v:Value):FilK w w2 (W.setCell a v):=
  ⟨h.bel.setCell xo v,fun q hq hne=>(heap_setCell_ne _ _ _ xo).trans (h.keep q hq hne),by rw [World.size_setCell];exact h.size⟩
theorem Empty04_core (w:World) (seg many nw nc:Nat) (hs:4≤seg) (hm:many≤65536) (hs2:seg≤64) (hnw:((many:Int)+63).tdiv 64=nw) (hnc:(many:Int).tdiv seg=nc) (hnw2:nw≤65536) (hnc2:nc≤65536):
    Calls Tryz.prog 56 #[.int .i64 seg,.int .i64 many] w (FreshSl w (zeroSl seg many nw nc)):=by
 have hs0:((seg:Int)==0)=false:=by simp;omega
 have hsn:¬(seg:Int)=0:=xo;have hsn2:¬seg=0:=xo;have hw0:IntKind.i64.wrap ((many:Int)+63)=(many:Int)+63:=IntWalk.i64_in _ xo;have hw1:IntKind.i64.wrap (nw:Int)=(nw:Int):=IntWalk.i64_in _ xo;have hw2:IntKind.i64.wrap (nc:Int)=(nc:Int):=IntWalk.i64_in _ xo;go_enter Tryz.func56,Tryz.ntmps56
 go_upto_region 1 with (fail)
 generalize hwz:w.alloc _=wz;have hh:=ec6 hwz (al6 (b:=w.heap.size) xsi);obtain ⟨c_r0,c_r1,c_r2,c_r3,c_r4,c_r5⟩:=hh;have hh:=ef6 hwz (alf6 (b:=w.heap.size) xsi);obtain ⟨f_r0,f_r1,f_r2,f_r3,f_r4,f_r5⟩:=hh;have z_r:=elt hwz (alz (b:=w.heap.size) xsi);have HS:Hid (Below w.heap.size w wz):=by rw [←hwz];exact hid (br.alloc (Nat.le_refl _) _)
 have hz:w.heap.size+1=wz.heap.size:=by rw [←hwz];simp
 clear hwz;refine wp_region_late 14 xk (N:=19) rfl xk xk xdd (fun w'=>Below wz.heap.size wz w') RB (factRAt [.is (.int .i64 seg),.is (.int .i64 many),.is (.int .i64 ((many:Int)+63)),.is (.int .i64 nw),.own wz.heap.size 27 nw ((List.replicate nw (0:Int)).map (Value.int .u64)),.is (.int .i64 many),.own wz.heap.size 2 many ((List.replicate many (0:Int)).map (Value.int .i64)),.is (.int .i64 many),.own wz.heap.size 2 many ((List.replicate many (0:Int)).map (Value.int .i64)),.is (.int .i64 many),.is (.int .i64 seg),.is (.int .i64 nc),.own wz.heap.size 3 nc ((List.replicate nc (0:Int)).map (Value.int .i64)),.sl wz.heap.size (zeroSl seg many nw nc)]) (factRAt_stays _) br.drew ?steps ?fin
 case steps=>
  refine ⟨?o0,?o1,?o2,?o3,?o4,?o5,?o6,?o7,?o8,?o9,?o10,?o11,?o12,?o13,trivial⟩<;>intro u a w' ev hJ hd K hK
  case o0=>
   have e0:tg a 0= .int .i64 seg:=ev 0 xdd;have HK:=hid hK;clear hK ev hd;go_simp;exact HK.out _ _ xzc hJ rfl br
  case o1=>
   have e1:tg a 1= .int .i64 many:=ev 1 xdd;have HK:=hid hK;clear hK ev hd;go_simp;exact HK.out _ _ xzc hJ rfl br
  case o2=>
   have e6:tg a 6= .int .i64 many:=(ev 6 xdd).trans (hd 1 _ xk rfl);have HK:=hid hK;clear hK ev hd;go_simp;exact HK.out _ _ xzc hJ rfl br
  case o3=>
   have e7:tg a 7= .int .i64 ((many:Int)+63):=(ev 7 xdd).trans (hd 2 _ xk rfl);have HK:=hid hK;clear hK ev hd;go_simp;exact HK.out _ _ xzc hJ rfl br
  case o4=>
   have e8:tg a 8= .int .i64 nw:=(ev 8 xdd).trans (hd 3 _ xk rfl);exact wp_make (.tmp 8) (.tmp 8) 24 27 _ 1 8 Tryz.underlying24 info4_uint64 xdd wz.heap.size nw _ rfl xo hJ.size rfl e8 e8 (fun g w'' k1 k2 k3=>hK _ _ xzc (hJ.trans (k3.mono hJ.size)) ⟨g,rfl,by rw [made_zero] at k2;exact k2⟩ k3)
  case o5=>
   have e1:tg a 1= .int .i64 many:=ev 1 xdd;have HK:=hid hK;clear hK ev hd;go_simp;exact HK.out _ _ xzc hJ rfl br
  case o6=>
   have e10:tg a 10= .int .i64 many:=(ev 10 xdd).trans (hd 5 _ xk rfl);exact wp_make (.tmp 10) (.tmp 10) 25 2 _ 1 8 Tryz.underlying25 info4_int64 xdd wz.heap.size many _ rfl xo hJ.size rfl e10 e10 (fun g w'' k1 k2 k3=>hK _ _ xzc (hJ.trans (k3.mono hJ.size)) ⟨g,rfl,by rw [made_zero] at k2;exact k2⟩ k3)
  case o7=>
   have e1:tg a 1= .int .i64 many:=ev 1 xdd;have HK:=hid hK;clear hK ev hd;go_simp;exact HK.out _ _ xzc hJ rfl br
  case o8=>
   have e12:tg a 12= .int .i64 many:=(ev 12 xdd).trans (hd 7 _ xk rfl);exact wp_make (.tmp 12) (.tmp 12) 25 2 _ 1 8 Tryz.underlying25 info4_int64 xdd wz.heap.size many _ rfl xo hJ.size rfl e12 e12 (fun g w'' k1 k2 k3=>hK _ _ xzc (hJ.trans (k3.mono hJ.size)) ⟨g,rfl,by rw [made_zero] at k2;exact k2⟩ k3)
  case o9=>
   have e1:tg a 1= .int .i64 many:=ev 1 xdd;have HK:=hid hK;clear hK ev hd;go_simp;exact HK.out _ _ xzc hJ rfl br
  case o10=>
   have e0:tg a 0= .int .i64 seg:=ev 0 xdd;have HK:=hid hK;clear hK ev hd;go_simp;exact HK.out _ _ xzc hJ rfl br
  case o11=>
   have e14:tg a 14= .int .i64 many:=(ev 14 xdd).trans (hd 9 _ xk rfl);have e15:tg a 15= .int .i64 seg:=(ev 15 xdd).trans (hd 10 _ xk rfl);have HK:=hid hK;clear hK ev hd;go_simp;exact HK.out _ _ xzc hJ rfl br
  case o12=>
   have e16:tg a 16= .int .i64 nc:=(ev 16 xdd).trans (hd 11 _ xk rfl);exact wp_make (.tmp 16) (.tmp 16) 26 3 _ 1 8 Tryz.underlying26 info4_int xdd wz.heap.size nc _ rfl xo hJ.size rfl e16 e16 (fun g w'' k1 k2 k3=>hK _ _ xzc (hJ.trans (k3.mono hJ.size)) ⟨g,rfl,by rw [made_zero] at k2;exact k2⟩ k3)
  case o13=>
   have h5:u 5= .int .i64 seg:=hd 0 _ xk rfl;obtain ⟨g9,h9,o9⟩:(FactR.own wz.heap.size 27 nw ((List.replicate nw (0:Int)).map (Value.int .u64))).holds (u 9) w':=hd 4 _ xk rfl;obtain ⟨g11,h11,o11⟩:(FactR.own wz.heap.size 2 many ((List.replicate many (0:Int)).map (Value.int .i64))).holds (u 11) w':=hd 6 _ xk rfl;obtain ⟨g13,h13,o13⟩:(FactR.own wz.heap.size 2 many ((List.replicate many (0:Int)).map (Value.int .i64))).holds (u 13) w':=hd 8 _ xk rfl;obtain ⟨g17,h17,o17⟩:(FactR.own wz.heap.size 3 nc ((List.replicate nc (0:Int)).map (Value.int .i64))).holds (u 17) w':=hd 12 _ xk rfl;have f5:a.tmps[5]?.getD undef= .int .i64 seg:=by rw [←Array.getD_eq_getD_getElem?];exact (ev 5 xdd).trans h5
   have f9:a.tmps[9]?.getD undef= .slice (some ⟨g9,0,none⟩) nw nw:=by rw [←Array.getD_eq_getD_getElem?];exact (ev 9 xdd).trans h9
   have f11:a.tmps[11]?.getD undef= .slice (some ⟨g11,0,none⟩) many many:=by rw [←Array.getD_eq_getD_getElem?];exact (ev 11 xdd).trans h11
   have f13:a.tmps[13]?.getD undef= .slice (some ⟨g13,0,none⟩) many many:=by rw [←Array.getD_eq_getD_getElem?];exact (ev 13 xdd).trans h13
   have f17:a.tmps[17]?.getD undef= .slice (some ⟨g17,0,none⟩) nc nc:=by rw [←Array.getD_eq_getD_getElem?];exact (ev 17 xdd).trans h17
   have HK:=hid hK;have O9:=hid o9;have O11:=hid o11;have O13:=hid o13;have O17:=hid o17;clear hK ev hd h5 h9 h11 h13 h17 o9 o11 o13 o17;go_simp;exact HK.out _ _ xzc hJ ⟨_,_,_,_,rfl,by simpa [zeroSl] using O9.out,by simpa [zeroSl] using O11.out,by simpa [zeroSl] using O13.out,by simpa [zeroSl] using O17.out⟩ br
 case fin=>
  intro u w2 hJ hG;obtain ⟨v1,v2,v3,v4,h18,p1,p2,p3,p4⟩:(FactR.sl wz.heap.size (zeroSl seg many nw nc)).holds (u 18) w2:=hG 13 _ rfl;obtain ⟨a1,c1,rfl,-⟩:=owns_news p1;obtain ⟨a2,c2,rfl,-⟩:=owns_news p2;obtain ⟨a3,c3,rfl,-⟩:=owns_news p3;obtain ⟨a4,c4,rfl,-⟩:=owns_news p4;have HP1:=hid p1;have HP2:=hid p2;have HP3:=hid p3;have HP4:=hid p4;have hz_w2:=hJ.size;simp (disch:=omega) only [xcl hJ,xfr hJ] at *;replace z_r:=blt hJ z_r;have hB2:Below w.heap.size w w2:=below_via hJ HS.out xo;clear hG p1 p2 p3 p4 hJ;simp only [mixFrame,mixL,dstsOf,List.take_succ_cons,List.take_zero,List.filterMap_cons,List.filterMap_nil,List.contains_cons,List.contains_nil,Nat.reduceBEq,Bool.or_false,Bool.false_or,Bool.or_true,Bool.true_or,if_true,if_false,Bool.false_eq_true,Nat.reduceAdd,Nat.zero_add,List.drop_succ_cons,List.drop_zero,h18];go_wp2
  have HQ:Hid (∀q,w.heap.size+1≤q→((((((w2.setCell ⟨w.heap.size,0,none⟩ (.int .i64 (zeroSl seg many nw nc).seg)).setCell ⟨w.heap.size,1,none⟩ (.slice a1 (zeroSl seg many nw nc).ws.length c1)).setCell ⟨w.heap.size,2,none⟩ (.slice a2 (zeroSl seg many nw nc).ks.length c2)).setCell ⟨w.heap.size,3,none⟩ (.slice a3 (zeroSl seg many nw nc).vs.length c3)).setCell ⟨w.heap.size,4,none⟩ (.slice a4 (zeroSl seg many nw nc).cs.length c4)).setCell ⟨w.heap.size,5,none⟩ (.int .u64 (zeroSl seg many nw nc).laid)).heap[q]? =w2.heap[q]?):=hid fun q hq=>by
   rw [heap_setCell_ne _ _ _ xdo,heap_setCell_ne _ _ _ xdo,heap_setCell_ne _ _ _ xdo,heap_setCell_ne _ _ _ xdo,heap_setCell_ne _ _ _ xdo,heap_setCell_ne _ _ _ xdo]
  refine bodyPost_ret (results_c rfl rfl (run_loadVar_many _ Tryz.underlying29 rfl xk (six_set c_r0 c_r1 c_r2 c_r3 c_r4 c_r5))) rfl ⟨_,_,_,_,rfl,?_,?_,?_,?_,?_⟩
  · exact owns_base (owns_heap HP1.out fun j hj=>HQ.out j (by have:=(HP1.out.lt j hj).1;omega)) xo
  · exact owns_base (owns_heap HP2.out fun j hj=>HQ.out j (by have:=(HP2.out.lt j hj).1;omega)) xo
  · exact owns_base (owns_heap HP3.out fun j hj=>HQ.out j (by have:=(HP3.out.lt j hj).1;omega)) xo
  · exact owns_base (owns_heap HP4.out fun j hj=>HQ.out j (by have:=(HP4.out.lt j hj).1;omega)) xo
  · exact (((((hB2.setCell xdo _).setCell xdo _).setCell xdo _).setCell xdo _).setCell xdo _).setCell xdo _
end
section
open Go.RowKit
def CapsZ (a:SlA):Prop:=(a.wa=none→a.wc=0)∧(a.ka=none→a.kc=0)∧(a.va=none→a.vc=0)∧(a.ca=none→a.cc=0)
theorem gd_may {c:SlC} {S lw n lc:Nat} (h:SlGd c S lw n lc) (hS:pwB (S:Int)=true) (hM:pwB (lc:Int)=true) (hlw:lw=(n+63)/64):slMay c=true:=by
 have hlc1:1≤lc:=by
  rcases Nat.eq_zero_or_pos lc with e|e
  · rw [e] at hM;cases hM
  · exact e
 have h4:=h.s4;have hn:(n:Int)/(S:Int)=lc:=by
  rw [h.cn,Int.natCast_mul,Int.mul_ediv_cancel_left _ xo]
 have hn2:(n:Int)%(S:Int)=0:=by
  rw [h.cn,Int.natCast_mul,Int.mul_emod_right]
 have hle:S*1≤S*lc:=Nat.mul_le_mul_left _ hlc1;simp only [slMay,slHead,fitB,wMayB,clrB,cntB,Bool.and_eq_true,decide_eq_true_eq,List.all_eq_true];rw [h.elk,h.elv,h.elw,h.elc,h.seg,hn,hn2];refine ⟨⟨⟨⟨⟨⟨⟨⟨⟨⟨⟨by have:=h.s4;omega,by have:=h.s64;omega⟩,hS⟩,by have:=h.cn;omega⟩,by have:=h.nm;omega⟩,rfl⟩,hM⟩,rfl⟩,hlw,?_⟩,rfl⟩,?_⟩,?_⟩
 · intro i hi;have:=(List.mem_range'_1.1 hi).1;rw [h.hi i this];rfl
 · intro i hi;cases hb:bitW c.ws i with
   | true=>rfl
   | false=>
    have:=h.clr i hb;simp only [Bool.false_or,Bool.and_eq_true,beq_iff_eq];exact this
 · intro k hk;have:=h.cnt k (List.mem_range.1 hk);rw [Int.toNat_natCast,this,beq_self_eq_true]
theorem gd_fit {c:SlC} {S lw n lc:Nat} (h:SlGd c S lw n lc) (hm:slMay c=true):fitB (S:Int) n=true:=by
 simp only [slMay,slHead,Bool.and_eq_true] at hm;have:=hm.1.1.1.1.1;rwa [h.elk,h.seg] at this
def emptyL (S M:Nat) (laid:Int):SlC:=⟨S,List.replicate ((S*M+63)/64) 0,List.replicate (S*M) 0,List.replicate (S*M) 0,List.replicate M 0,laid⟩
theorem emptyL_gd {S M:Nat} (h4:4≤S) (h6:S≤64) (hM:1≤M) (hm:S*M≤65536) (laid:Int):SlGd (emptyL S M laid) S ((S*M+63)/64) (S*M) M:=by
 have z:=zero_gd h4 h6 hM hm (lw:=(S*M+63)/64) rfl;exact ⟨z.seg,z.elw,z.elk,z.elv,z.elc,z.s4,z.s64,z.cn,z.wn,z.n1,z.nm,z.u,z.cnt,z.hi,z.clr⟩
theorem new_nums {S M:Nat} (h4:4≤S) (hm:S*M≤65536):(((S*M:Nat):Int)+63).tdiv 64=((S*M+63)/64:Nat)∧((S*M:Nat):Int).tdiv S=M∧(S*M+63)/64≤2000∧M≤65536:=by
 have h9:1*M≤S*M:=Nat.mul_le_mul_right _ xo;refine ⟨?_,?_,by omega,by omega⟩
 · rw [Int.tdiv_eq_ediv_of_nonneg xo];omega
 · rw [Int.tdiv_eq_ediv_of_nonneg xo,Int.natCast_mul,Int.mul_ediv_cancel_left _ xo]
end
section
open Go.RowKit Go.Shelf
attribute [local go_sem] Oper.semAt_some
end
section
open Go.RowKit
structure GapN (c:Cfg) (s:SlC) (a H:Nat):Prop where
 cap:CapC c s.ks.length a H
 seg:s.seg=((2^a:Nat):Int)
 nk:s.ks.length=2^a*2^H
 nv:s.vs.length=2^a*2^H
 nc:s.cs.length=2^H
 cnt:CntB s.cs (2^a)
 may:slMay s=true
theorem gapN_of {c:Cfg} {s:SlC} (hc:cfMay c=true) (hp:powB s.ks.length c.least (taks c c.most)=true) (hm:slMay s=true) (hs:s.seg=c.seg):∃a H,GapN c s a H:=by
 obtain ⟨a,H,k⟩:=capC_of hc hp;have hm':=hm;simp only [slMay,Bool.and_eq_true] at hm;obtain ⟨⟨h5,h6⟩,h7⟩:=hm;obtain ⟨S,M,e1,b1,b2,b3,b4,b5,b6,b7,b8,b9,p1,p2,-⟩:=slHead_facts h5;have hS:S=2^a:=by have:=k.seg;omega
 subst hS;have hM:M=2^H:=by
  have h1:=k.all;rw [b3] at h1;have h2:2^a*M=2^a*2^H:=xo;exact Nat.eq_of_mul_eq_mul_left (Nat.two_pow_pos a) h2
 subst hM;exact ⟨a,H,k,e1,b3,b4,b5,cntB_bd e1 h7,hm'⟩
theorem gapE_may {c:Cfg} {s:SlC} {a H:Nat} (k:GapN c s a H) (hs:s.seg=c.seg) (hm:sumC s.cs 0 s.cs.length≤c.most):gapE c s=if denB c s H=true then 0 else 8:=by
 have hh:gapHead c s=true:=by
  simp only [gapHead,Bool.and_eq_true,decide_eq_true_eq];exact ⟨⟨⟨k.may,hs⟩,k.cap.cap⟩,hm⟩
 rw [gapE,if_pos k.cap.may,gapMay,hh,Bool.true_and,k.cap.hgt]
theorem among_ok (s:SlC) (sa:SlA) (S lo hi:Nat) (hseg:s.seg=S) (hS:4≤S) (hS2:S≤64) (A B:Int) (hA:A=((lo*S:Nat):Int)) (hB:B=((hi*S:Nat):Int)) (h1:lo≤hi) (h2:hi≤s.cs.length) (h3:lo<s.cs.length) (hcc:s.cs.length≤sa.cc) (hlc:s.cs.length≤65536) (hcs:CntB s.cs S) (w:World) (hin:SlIn w s sa):
    Calls Tryz.prog 98 #[slV s sa,.int .i64 A,.int .i64 B] w (AnsB w (.int .i64 (sumC s.cs lo hi))):=by
 obtain ⟨wa,ka,va,ca,wc,kc,vc,cc⟩:=sa;have hn:=hin.n;dsimp only at hn hcc;obtain ⟨b,off,x,rfl,-,-,-⟩:=hn.get (i:=0) xo;exact among_core w s.seg wa ka va wc kc vc cc s.ws.length s.ks.length s.vs.length s.cs.length s.laid b off s.cs A B S lo hi hseg hS hS2 hA hB h1 h2 h3 hcc hlc rfl hcs hn
theorem gapCheck_ok (c:Cfg) (s:SlC) (sa:SlA) (hl:s.ws.length≤9223372036854775807) (hl2:s.ks.length≤1000000000000) (hcc:s.cs.length≤sa.cc) (w:World) (hin:SlIn w s sa):
    Calls Tryz.prog 64 #[.agg #[.int .u8 c.tag,.int .i64 c.most,.int .i64 c.seg,.int .i64 c.least,.int .i64 c.den,.int .i64 c.ll,.int .i64 c.rl,.int .i64 c.rh,.int .i64 c.lh],slV s sa] w (AnsB w (.int .i64 (gapE c s))):=by
 cases hc:cfMay c with
 | false=>
  rw [show gapE c s=50 by simp [gapE,hc]];exact gapCheck_conf c hc _ _ _ _ _ _ _ _ _ _ _ _ _ _ w
 | true =>
  have SK:Hid (∀W,Below w.heap.size w W→Calls Tryz.prog 97 #[slV s sa] W (AnsB W (.int .i64 (slE s)))):=hid fun W hb=>slCheck_ok s sa hl hl2 W (hin.below hb)
  cases hp:powB s.ks.length c.least (taks c c.most) with
  | false=>
   rw [gapE_bad hc (by simp [gapHead,hp])];exact gapCheck_high c hc _ _ _ _ _ _ _ _ _ _ _ _ _ _ hp w
  | true =>
   cases hm:slMay s with
   | false=>
    rw [gapE_bad hc (by simp [gapHead,hm])];exact gapCheck_slots c hc _ _ _ _ _ _ _ _ _ _ _ _ _ _ hp (slE s) (by simp [slE,hm]) w SK
   | true =>
    rw [show slE s=0 by simp [slE,hm]] at SK;by_cases hs:s.seg=c.seg
    · obtain ⟨a,H,k⟩:=gapN_of hc hp hm hs;have ha4:2^2≤2^a:=Nat.pow_le_pow_right xo k.cap.a2;have ha6:2^a≤2^6:=Nat.pow_le_pow_right xo k.cap.a6;have hH0:=Nat.two_pow_pos H;have hnc:=k.nc;have hcb:s.cs.length≤65536:=by
       have:=k.cap.big;have h9:1*2^H≤2^a*2^H:=Nat.mul_le_mul_right _ xo;omega
      have AM:Hid (∀W,Below w.heap.size w W→Calls Tryz.prog 98 #[slV s sa,.int .i64 0,.int .i64 s.ks.length] W (AnsB W (.int .i64 (sumC s.cs 0 s.cs.length)))):=hid fun W hb=>
       among_ok s sa (2^a) 0 s.cs.length k.seg xo xo 0 s.ks.length xsi (by rw [k.nk,k.nc,Nat.mul_comm]) xo xo xo hcc hcb k.cnt W (hin.below hb)
      by_cases hmost:sumC s.cs 0 s.cs.length≤c.most
      · refine gapCheck_core c s s.seg _ _ _ _ _ _ _ _ _ _ _ _ _ a H k.cap hs k.nc rfl k.cnt _ hmost _ (gapE_may k hs hmost).symm w SK AM (hid fun h i hh hi W hb=> ?_);have hi2:(i+1)*2^h≤2^H:=by
         have:(i+1)*2^h≤2^(H-h)*2^h:=Nat.mul_le_mul_right _ hi;rwa [←Nat.pow_add,Nat.sub_add_cancel hh] at this
        have hp0:=Nat.two_pow_pos h;have hlt:i*2^h<(i+1)*2^h:=by rw [Nat.succ_mul];omega
        refine among_ok s sa (2^a) (i*2^h) ((i+1)*2^h) k.seg xo xo _ _ ?_ ?_ xo xo xo hcc hcb k.cnt W (hin.below hb)
        · rw [Nat.mul_comm (2^a),Nat.mul_assoc]
        · rw [Nat.succ_mul i (2^h),Nat.add_mul,Nat.mul_comm (2^a) (2^h),Nat.mul_assoc];push_cast
          rfl
      · rw [gapE_bad hc (by simp [gapHead,hmost])];exact gapCheck_many c hc _ _ _ _ _ _ _ _ _ _ _ _ _ _ hp hs _ xo w SK AM
    · rw [gapE_bad hc (by simp [gapHead,hs])];exact gapCheck_seg c hc _ _ _ _ _ _ _ _ _ _ _ _ _ _ hp hs w SK
end
end Go.Proofs.YtbedhbpgnfffmaaGreat

/- Merged: ConfF. -/
import Derived.Test.YtmnlagmmbfjbeaaDoorPmaNamesP7
namespace Go.Proofs.YtmnlagmmbfjbeaaDoor
set_option maxRecDepth 100000
set_option maxHeartbeats 40000000
set_option linter.unusedVariables false
set_option linter.unusedSimpArgs false
section
open Go.RowKit Go.Shelf Go.Sort
theorem cfMay_head {c:Cfg} (h:cfMay c=true):cfHead c=true:=by
 simp only [cfMay,Bool.and_eq_true] at h;exact h.1
theorem cfE_ok {c:Cfg} (h:cfMay c=true):cfE c=0:=by simp [cfE,h]
theorem High_no (c:Cfg) (hc:cfMay c=true) (size:Int) (hp:powB size c.least (taks c c.most)=false) (w:World):
    Calls Tryd.prog 51 #[.agg #[.int .u8 c.tag,.int .i64 c.most,.int .i64 c.seg,.int .i64 c.least,.int .i64 c.den,.int .i64 c.ll,.int .i64 c.rl,.int .i64 c.rh,.int .i64 c.lh],.int .i64 size] w (AnsB w (.tuple #[.int .i64 0,.int .i64 2])):=by
 have hd:=cfMay_head hc;obtain ⟨d0,d1,d2,d3,d4,d5,d6,d7,d8,d9,d10,d11,d12,d13,d14,d15,d16,d17⟩:=cfHead_num hd;have tb:=taks_bd hd (n:=c.most) xo xo;have CK:=hid (fun W=>Check5_ok c W);rw [cfE_ok hc] at CK;have TK:=hid (fun W=>takes_ok c hd c.most xo xo W);have PW:=hid (fun W=>cpower_ok size c.least (taks c c.most) xo W);rw [hp] at PW;clear hd hc hp;generalize taks c c.most=T at *;go_enter Tryd.func51,Tryd.ntmps51
 go_wp2_with fail
 refine (CK.out _).mono ?_;rintro e w1 ⟨rfl,hb1⟩;have hz_w1:=hb1.size;try simp only [World.size_alloc,World.size_setCell] at hz_w1
 have hh:=bc9 hb1 (al9 (b:=w.heap.size) xsi);obtain ⟨c_t0,c_t1,c_t2,c_t3,c_t4,c_t5,c_t6,c_t7,c_t8⟩:=hh;have z_t:=blt hb1 (alz (b:=w.heap.size) xsi);have hB1:Below w.heap.size w w1:=xbel;have HB1:=hid hB1;clear hb1 hB1;go_upto_region 4 with (fail)
 have K0:=hid (fun d os=>kr w1 d os (TK.out _));have K1:=hid (fun d os=>kr w1 d os ((PW.out _).mono fun _ _ h=>⟨h.1,h.2 ▸ Below.refl _ _⟩));have q0:=cg c_t0;have q1:=cg c_t1;have q2:=cg c_t2;have q3:=cg c_t3;have q4:=cg c_t4;have q5:=cg c_t5;have q6:=cg c_t6;have q7:=cg c_t7;have q8:=cg c_t8;refine wp_region_quiet_below xk xk ?_;repeat (go_big_quiet_step (first|exact K0.out _ _|exact K1.out _ _))
 refine wpQuiet_nil ?_;intro _ hw';obtain ⟨⟨dq,osq⟩,hw''⟩:=hw';subst hw'';have hbq:=below_regrown w1 dq osq;clear q0 q1 q2 q3 q4 q5 q6 q7 q8 K0 K1;generalize Sort.grow (redrawn w1 dq) osq=wx at *;have HB2:=xv hbq HB1;go_wp2
 go_ret2
 exact ⟨rfl,HB2.out⟩
theorem High_in (c:Cfg) (hc:cfMay c=true) (size:Int) (hp:powB size c.least (taks c c.most)=true) (w:World):
    Calls Tryd.prog 51 #[.agg #[.int .u8 c.tag,.int .i64 c.most,.int .i64 c.seg,.int .i64 c.least,.int .i64 c.den,.int .i64 c.ll,.int .i64 c.rl,.int .i64 c.rh,.int .i64 c.lh],.int .i64 size] w (AnsB w (.tuple #[.int .i64 (htC c size:Nat),.int .i64 0])):=by
 have hd:=cfMay_head hc;obtain ⟨d0,d1,d2,d3,d4,d5,d6,d7,d8,d9,d10,d11,d12,d13,d14,d15,d16,d17⟩:=cfHead_num hd;have tb:=taks_bd hd (n:=c.most) xo xo;have CK:=hid (fun W=>Check5_ok c W);rw [cfE_ok hc] at CK;have TK:=hid (fun W=>takes_ok c hd c.most xo xo W);have PW:=hid (fun W=>cpower_ok size c.least (taks c c.most) xo W);have sb:=powB_iff.1 hp;have HT:=hid (fun W=>height_ok c size xo xo xo W);rw [hp] at PW;clear hd hc hp;generalize taks c c.most=T at *;generalize ((htC c size:Nat):Int)=HH at *;clear sb tb;go_enter Tryd.func51,Tryd.ntmps51
 go_wp2_with fail
 refine (CK.out _).mono ?_;rintro e w1 ⟨rfl,hb1⟩;have hz_w1:=hb1.size;try simp only [World.size_alloc,World.size_setCell] at hz_w1
 have hh:=bc9 hb1 (al9 (b:=w.heap.size) xsi);obtain ⟨c_t0,c_t1,c_t2,c_t3,c_t4,c_t5,c_t6,c_t7,c_t8⟩:=hh;have z_t:=blt hb1 (alz (b:=w.heap.size) xsi);have hB1:Below w.heap.size w w1:=xbel;have HB1:=hid hB1;clear hb1 hB1;go_upto_region 4 with (fail)
 have K0:=hid (fun d os=>kr w1 d os (TK.out _));have K1:=hid (fun d os=>kr w1 d os ((PW.out _).mono fun _ _ h=>⟨h.1,h.2 ▸ Below.refl _ _⟩));have q0:=cg c_t0;have q1:=cg c_t1;have q2:=cg c_t2;have q3:=cg c_t3;have q4:=cg c_t4;have q5:=cg c_t5;have q6:=cg c_t6;have q7:=cg c_t7;have q8:=cg c_t8;refine wp_region_quiet_below xk xk ?_;repeat (go_big_quiet_step (first|exact K0.out _ _|exact K1.out _ _))
 refine wpQuiet_nil ?_;intro _ hw';obtain ⟨⟨dq,osq⟩,hw''⟩:=hw';subst hw'';have hbq:=below_regrown w1 dq osq;clear q0 q1 q2 q3 q4 q5 q6 q7 q8 K0 K1;generalize Sort.grow (redrawn w1 dq) osq=wx at *;have HB2:=xv hbq HB1;have hz_wx:=hbq.size;simp (disch:=omega) only [xcl hbq] at *;replace z_t:=blt hbq z_t;have hz2:=HB2.out.size;go_wp2_with fail
 refine (HT.out _).mono ?_;rintro e w3 ⟨rfl,hb3⟩;have hz_w3:=hb3.size;simp (disch:=omega) only [xcl hb3] at *;replace z_t:=blt hb3 z_t;have HB3:=hid (below_via hb3 HB2.out hz2);go_wp2
 go_ret2
 exact ⟨rfl,HB3.out⟩
theorem Cap_in (c:Cfg) (hc:cfMay c=true) (n:Int) (h0:0≤n) (h1:n≤c.most) (w:World):
    Calls Tryd.prog 42 #[.agg #[.int .u8 c.tag,.int .i64 c.most,.int .i64 c.seg,.int .i64 c.least,.int .i64 c.den,.int .i64 c.ll,.int .i64 c.rl,.int .i64 c.rh,.int .i64 c.lh],.int .i64 n] w (AnsB w (.tuple #[.int .i64 (taks c n),.int .i64 0])):=by
 have hd:=cfMay_head hc;obtain ⟨d0,d1,d2,d3,d4,d5,d6,d7,d8,d9,d10,d11,d12,d13,d14,d15,d16,d17⟩:=cfHead_num hd;have CK:=hid (fun W=>Check5_ok c W);rw [cfE_ok hc] at CK;have TK:=hid (fun W=>takes_ok c hd n xo xo W);clear hd hc;generalize taks c n=T at *;clear d0 d1 d2 d4 d5 d6 d7 d8 d9 d10 d11 d12 d13 d14 d15 d16 d17;go_enter Tryd.func42,Tryd.ntmps42
 go_wp2_with fail
 refine (CK.out _).mono ?_;rintro e w1 ⟨rfl,hb1⟩;have hz_w1:=hb1.size;try simp only [World.size_alloc,World.size_setCell] at hz_w1
 have hh:=bc9 hb1 (al9 (b:=w.heap.size) xsi);obtain ⟨c_t0,c_t1,c_t2,c_t3,c_t4,c_t5,c_t6,c_t7,c_t8⟩:=hh;have z_t:=blt hb1 (alz (b:=w.heap.size) xsi);have hB1:Below w.heap.size w w1:=xbel;have HB1:=hid hB1;have hz1:=hB1.size;clear hb1 hB1;go_wp2_with fail
 refine (TK.out _).mono ?_;rintro e w3 ⟨rfl,hb3⟩;have hz_w3:=hb3.size;simp (disch:=omega) only [xcl hb3] at *;replace z_t:=blt hb3 z_t;have HB3:=hid (below_via hb3 HB1.out hz1);go_wp2
 go_ret2
 exact ⟨rfl,HB3.out⟩
structure CapC (c:Cfg) (size:Int) (a H:Nat):Prop where
 may:cfMay c=true
 cap:powB size c.least (taks c c.most)=true
 seg:c.seg=((2^a:Nat):Int)
 a2:2≤a
 a6:a≤6
 all:size=((2^a*2^H:Nat):Int)
 big:2^a*2^H≤65536
 hgt:htC c size=H
 h14:H≤14
theorem pow2_bd {a lo hi:Nat} (h1:2^lo≤2^a) (h2:2^a≤2^hi):lo≤a∧a≤hi:=
  ⟨(Nat.pow_le_pow_iff_right xo).1 h1,(Nat.pow_le_pow_iff_right xo).1 h2⟩
theorem capC_of {c:Cfg} {size:Int} (hc:cfMay c=true) (hp:powB size c.least (taks c c.most)=true):∃a H,CapC c size a H:=by
 have hd:=cfMay_head hc;obtain ⟨d0,d1,d2,d3,d4,d5,d6,d7,d8,d9,d10,d11,d12,d13,d14,d15,d16,d17⟩:=cfHead_num hd;have tb:=taks_bd hd (n:=c.most) xo xo;have hf:=cfHead_facts hd;obtain ⟨-,-,a,ea⟩:=powB_nat hf.2.2.2.2.1;obtain ⟨l1,l2,b,eb⟩:=powB_nat hp;have ha:=pow2_bd (a:=a) (lo:=2) (hi:=6) xo xo;have hab:a≤b:=(Nat.pow_le_pow_iff_right (a:=2) xo).1 xo;obtain ⟨H,rfl⟩:∃H,b=a+H:=⟨b-a,by omega⟩
 rw [Nat.pow_add] at eb;have hb:=pow2_bd (a:=a+H) (lo:=0) (hi:=16) (by rw [Nat.pow_add];omega) (by rw [Nat.pow_add];omega);refine ⟨a,H,hc,hp,ea,ha.1,ha.2,eb,by omega,?_,by omega⟩;rw [htC,ea,eb,Int.natCast_mul,Int.mul_ediv_cancel_left _ (by have:=Nat.two_pow_pos a;omega),Int.toNat_natCast,Nat.log2_two_pow]
theorem CapC.wd {c:Cfg} {size:Int} {a H h:Nat} (k:CapC c size a H) (hh:h≤H):wdC c h=((2^a*2^h:Nat):Int)∧4≤wdC c h∧wdC c h≤65536∧2^a*2^h≤2^a*2^H:=by
 have h1:=wdC_bd k.seg k.big hh;have e:wdC c h=((2^a*2^h:Nat):Int):=by rw [wdC,k.seg];push_cast;rfl
 have h4:2^2≤2^a:=Nat.pow_le_pow_right xo k.a2;have h5:=Nat.mul_le_mul h4 (Nat.two_pow_pos h);have h6:2^a*2^h≤2^a*2^H:=Nat.mul_le_mul_left _ (Nat.pow_le_pow_right xo hh);exact ⟨e,by omega,h1.2,h6⟩
theorem CapC.least {c:Cfg} {size:Int} {a H:Nat} (k:CapC c size a H):size=c.least∨0<H:=by
 have l:=powB_iff.1 k.cap;obtain ⟨d0,d1,d2,d3,d4,d5,d6,d7,d8,d9,d10,d11,d12,d13,d14,d15,d16,d17⟩:=cfHead_num (cfMay_head k.may);rcases Nat.eq_zero_or_pos H with e|e
 · left;have:=k.all;have:=k.seg;rw [e] at *;simp at *;omega
 · exact Or.inr e
theorem casked_in (c:Cfg) (size:Int) (a H h:Nat) (k:CapC c size a H) (hh:h≤H) (n:Int) (h0:0≤n) (h1:n≤wdC c h) (w:World):
    Calls Tryd.prog 64 #[.agg #[.int .u8 c.tag,.int .i64 c.most,.int .i64 c.seg,.int .i64 c.least,.int .i64 c.den,.int .i64 c.ll,.int .i64 c.rl,.int .i64 c.rh,.int .i64 c.lh],.int .i64 size,.int .i64 h,.int .i64 n] w (AnsB w (.tuple #[.int .i64 H,.int .i64 0])):=by
 obtain ⟨e,w4,w6,-⟩:=k.wd hh;have e2:c.seg*2^h=wdC c h:=rfl;have hH:=k.h14;have HI:=hid (fun W=>High_in c k.may size k.cap W);rw [k.hgt] at HI;clear k e;generalize wdC c h=W at *;have hwr:IntKind.i64.wrap (c.seg*2^h)=W:=by rw [e2];exact IntWalk.i64_in _ xo
 clear e2;go_enter Tryd.func64,Tryd.ntmps64
 go_wp2_with fail
 refine (HI.out _).mono ?_;rintro e w1 ⟨rfl,hb1⟩;have hz_w1:=hb1.size;try simp only [World.size_alloc,World.size_setCell] at hz_w1
 have hh:=bc9 hb1 (al9 (b:=w.heap.size) xsi);obtain ⟨c_t0,c_t1,c_t2,c_t3,c_t4,c_t5,c_t6,c_t7,c_t8⟩:=hh;have z_t:=blt hb1 (alz (b:=w.heap.size) xsi);have hB1:Below w.heap.size w w1:=xbel;have HB1:=hid hB1;clear hb1 hB1;go_wp2
 go_ret2
 exact ⟨rfl,HB1.out⟩
theorem casked_out (c:Cfg) (size:Int) (a H h:Nat) (k:CapC c size a H) (hh:h≤H) (n:Int) (h0:0≤n) (h1:wdC c h<n) (w:World):
    Calls Tryd.prog 64 #[.agg #[.int .u8 c.tag,.int .i64 c.most,.int .i64 c.seg,.int .i64 c.least,.int .i64 c.den,.int .i64 c.ll,.int .i64 c.rl,.int .i64 c.rh,.int .i64 c.lh],.int .i64 size,.int .i64 h,.int .i64 n] w (AnsB w (.tuple #[.int .i64 0,.int .i64 2])):=by
 obtain ⟨e,w4,w6,-⟩:=k.wd hh;have e2:c.seg*2^h=wdC c h:=rfl;have hH:=k.h14;have HI:=hid (fun W=>High_in c k.may size k.cap W);rw [k.hgt] at HI;clear k e;generalize wdC c h=W at *;have hwr:IntKind.i64.wrap (c.seg*2^h)=W:=by rw [e2];exact IntWalk.i64_in _ xo
 clear e2;go_enter Tryd.func64,Tryd.ntmps64
 go_wp2_with fail
 refine (HI.out _).mono ?_;rintro e w1 ⟨rfl,hb1⟩;have hz_w1:=hb1.size;try simp only [World.size_alloc,World.size_setCell] at hz_w1
 have hh:=bc9 hb1 (al9 (b:=w.heap.size) xsi);obtain ⟨c_t0,c_t1,c_t2,c_t3,c_t4,c_t5,c_t6,c_t7,c_t8⟩:=hh;have z_t:=blt hb1 (alz (b:=w.heap.size) xsi);have hB1:Below w.heap.size w w1:=xbel;have HB1:=hid hB1;clear hb1 hB1;go_wp2
 go_ret2
 exact ⟨rfl,HB1.out⟩
theorem density_ok (c:Cfg) (size:Int) (a H h:Nat) (k:CapC c size a H) (hh:h≤H) (n leaf root:Int) (h0:0≤n) (h1:n≤65538) (l0:0≤leaf) (l1:leaf≤64) (r0:0≤root) (r1:root≤64) (w:World):
    Calls Tryd.prog 65 #[.agg #[.int .u8 c.tag,.int .i64 c.most,.int .i64 c.seg,.int .i64 c.least,.int .i64 c.den,.int .i64 c.ll,.int .i64 c.rl,.int .i64 c.rh,.int .i64 c.lh],.int .i64 H,.int .i64 h,.int .i64 n,.int .i64 leaf,.int .i64 root] w (AnsB w (.int .i64 (dnsV c H h n leaf root))):=by
 obtain ⟨e,w4,w6,-⟩:=k.wd hh;have e2:c.seg*2^h=wdC c h:=rfl;have hH:=k.h14;obtain ⟨d0,d1,d2,d3,d4,d5,d6,d7,d8,d9,d10,d11,d12,d13,d14,d15,d16,d17⟩:=cfHead_num (cfMay_head k.may);have m1:=mul_bd (show 0≤c.den by omega) d9 (show (0:Int)≤(H:Int) by omega) (show (H:Int)≤14 by omega);have m2:=mul_bd l0 l1 (show (0:Int)≤(H:Int) by omega) (show (H:Int)≤14 by omega);have m3:=mul_bd l0 l1 (show (0:Int)≤(H:Int)-h by omega) (show (H:Int)-h≤14 by omega);have m4:=mul_bd r0 r1 (show (0:Int)≤(h:Int) by omega) (show (h:Int)≤14 by omega);have m5:=mul_bd l0 l1 (show (0:Int)≤(h:Int) by omega) (show (h:Int)≤14 by omega);have el:=limF_eq leaf root H h;have el2:limF leaf root H h=leaf*H+(root-leaf)*h:=rfl;have e3:(root-leaf)*h=root*h-leaf*h:=Int.sub_mul ..;have bl:0≤limF leaf root H h∧limF leaf root H h≤2000:=xo;have x1:IntKind.i64.wrap (leaf*H)=leaf*H:=IntWalk.i64_in _ xo;have x2:IntKind.i64.wrap ((root-leaf)*h)=(root-leaf)*h:=IntWalk.i64_in _ xo;have x3:IntKind.i64.wrap (leaf*H+(root-leaf)*h)=leaf*H+(root-leaf)*h:=IntWalk.i64_in _ xo;have x4:IntKind.i64.wrap (root-leaf)=root-leaf:=IntWalk.i64_in _ xo;have x5:IntKind.i64.wrap (c.den*H)=c.den*H:=IntWalk.i64_in _ xo;unfold dnsV;have BT:=hid (fun W (hp:0<H)=>Between_ok leaf root h H ⟨by omega,by omega⟩ ⟨by omega,by omega⟩ ⟨by omega,by omega⟩ ⟨by omega,by omega⟩ xo xo xo (limF leaf root H h) rfl x1 x2 x3 x4 W);have C1:=hid (fun W=>Cross_ok n (wdC c h) (limF leaf root H h) (c.den*H) ⟨by omega,by omega⟩ ⟨by omega,by omega⟩ ⟨by omega,by omega⟩ ⟨by omega,by omega⟩ W);have C2:=hid (fun W=>Cross_ok n (wdC c h) root c.den ⟨by omega,by omega⟩ ⟨by omega,by omega⟩ ⟨by omega,by omega⟩ ⟨by omega,by omega⟩ W);clear k e m1 m2 m3 m4 m5 el el2 e3 bl x1 x2 x3 x4;generalize wdC c h=W at *;have hwr:IntKind.i64.wrap (c.seg*2^h)=W:=by rw [e2];exact IntWalk.i64_in _ xo
 clear e2;generalize limF leaf root H h=lim at *;clear d0 d1 d2 d3 d4 d5 d6 d7 d8 d9 d10 d11 d12 d13 d14 d15 d16 d17;rcases Nat.eq_zero_or_pos H with hz|hz
 · rw [if_neg xo];generalize crossV n W root c.den=v at *;have hg:decide (0<(H:Int))=false:=by simp;omega
   clear BT C1;go_enter Tryd.func65,Tryd.ntmps65
   go_upto_region 1 with (fail)
   generalize hwz:w.alloc _=wz;have hh:=ec9 hwz (al9 (b:=w.heap.size) xsi);obtain ⟨c_t0,c_t1,c_t2,c_t3,c_t4,c_t5,c_t6,c_t7,c_t8⟩:=hh;have z_t:=elt hwz (alz (b:=w.heap.size) xsi);have HS:Hid (Below w.heap.size w wz):=by rw [←hwz];exact hid (br.alloc (Nat.le_refl _) _)
   clear hwz;have q0:=cg c_t0;have q1:=cg c_t1;have q2:=cg c_t2;have q3:=cg c_t3;have q4:=cg c_t4;have q5:=cg c_t5;have q6:=cg c_t6;have q7:=cg c_t7;have q8:=cg c_t8;refine wp_region_quiet_below xk xk ?_;repeat (go_big_quiet_step (fail))
   refine wpQuiet_nil ?_;intro _ hw';obtain ⟨⟨dq,osq⟩,hw''⟩:=hw';subst hw'';have hbq:=below_regrown wz dq osq;clear q0 q1 q2 q3 q4 q5 q6 q7 q8;generalize Sort.grow (redrawn wz dq) osq=wx at *;have HB2:=xv hbq HS;have hz2:=HB2.out.size;have hz_wx:=hbq.size;simp (disch:=omega) only [xcl hbq] at *;replace z_t:=blt hbq z_t;go_wp2_with fail
   refine (C2.out _).mono ?_;rintro e w3 ⟨rfl,hb3⟩;have hz_w3:=hb3.size;simp (disch:=omega) only [xcl hb3] at *;replace z_t:=blt hb3 z_t;have HB3:=hid (below_via hb3 HB2.out hz2);go_wp2
   go_ret
   exact ⟨rfl,HB3.out⟩
 · rw [if_pos hz];generalize crossV n W lim (c.den*H)=v at *;have hg:decide (0<(H:Int))=true:=by simp;omega
   have BT':=hid (fun W=>BT.out W hz);clear BT C2;generalize hdH:c.den*(H:Int)=dH at *;go_enter Tryd.func65,Tryd.ntmps65
   go_upto_region 1 with (fail)
   generalize hwz:w.alloc _=wz;have hh:=ec9 hwz (al9 (b:=w.heap.size) xsi);obtain ⟨c_t0,c_t1,c_t2,c_t3,c_t4,c_t5,c_t6,c_t7,c_t8⟩:=hh;have z_t:=elt hwz (alz (b:=w.heap.size) xsi);have HS:Hid (Below w.heap.size w wz):=by rw [←hwz];exact hid (br.alloc (Nat.le_refl _) _)
   clear hwz;have q0:=cg c_t0;have q1:=cg c_t1;have q2:=cg c_t2;have q3:=cg c_t3;have q4:=cg c_t4;have q5:=cg c_t5;have q6:=cg c_t6;have q7:=cg c_t7;have q8:=cg c_t8;refine wp_region_quiet_below xk xk ?_;repeat (go_big_quiet_step (fail))
   refine wpQuiet_nil ?_;intro _ hw';obtain ⟨⟨dq,osq⟩,hw''⟩:=hw';subst hw'';have hbq:=below_regrown wz dq osq;clear q0 q1 q2 q3 q4 q5 q6 q7 q8;generalize Sort.grow (redrawn wz dq) osq=wx at *;have HB2:=xv hbq HS;have hz2:=HB2.out.size;have hz_wx:=hbq.size;simp (disch:=omega) only [xcl hbq] at *;replace z_t:=blt hbq z_t;go_wp2_with fail
   refine (BT'.out _).mono ?_;rintro e w3 ⟨rfl,hb3⟩;have hz_w3:=hb3.size;simp (disch:=omega) only [xcl hb3] at *;replace z_t:=blt hb3 z_t;have HB3:=hid (below_via hb3 HB2.out hz2);have hz3:=HB3.out.size;go_wp2_with fail
   refine (C1.out _).mono ?_;rintro e w4' ⟨rfl,hb4⟩;have hz_w4':=hb4.size;simp (disch:=omega) only [xcl hb4] at *;replace z_t:=blt hb4 z_t;have HB4:=hid (below_via hb4 HB3.out hz3);go_wp2
   go_ret
   exact ⟨rfl,HB4.out⟩
def inB (c:Cfg) (h:Nat) (n:Int):Int:=if n≤wdC c h then 0 else 2
theorem fulB_in {c:Cfg} {size:Int} {a H h:Nat} (k:CapC c size a H) (hh:h≤H) {n:Int} (h1:wdC c h<n):fulB c H h n=false:=by
 obtain ⟨e,w4,w6,-⟩:=k.wd hh;obtain ⟨d0,d1,d2,d3,d4,d5,d6,d7,d8,d9,d10,d11,d12,d13,d14,d15,d16,d17⟩:=cfHead_num (cfMay_head k.may);have m0:wdC c h*c.rh≤wdC c h*c.den:=Int.mul_le_mul_of_nonneg_left xo xo;have m1:wdC c h*c.den<n*c.den:=Int.mul_lt_mul_of_pos_right h1 xo;unfold fulB;split
 · rw [decide_eq_false_iff_not];omega
 · rename_i hz
   rw [decide_eq_false_iff_not];have p1:c.lh*((H:Int)-h)≤c.den*((H:Int)-h):=Int.mul_le_mul_of_nonneg_right xo xo;have p2:c.rh*(h:Int)≤c.den*(h:Int):=Int.mul_le_mul_of_nonneg_right xo xo;have p3:c.den*((H:Int)-h)+c.den*(h:Int)=c.den*(H:Int):=by rw [←Int.mul_add];congr 1;omega
   have p4:wdC c h*(c.lh*((H:Int)-h)+c.rh*h)≤wdC c h*(c.den*(H:Int)):=Int.mul_le_mul_of_nonneg_left xo xo;have p5:wdC c h*(c.den*(H:Int))<n*(c.den*(H:Int)):=Int.mul_lt_mul_of_pos_right h1 (Int.mul_pos xo xo);have p6:n*(H:Int)*c.den=n*(c.den*(H:Int)):=by rw [Int.mul_assoc,Int.mul_comm (H:Int)]
   omega
theorem Full_ok (c:Cfg) (size:Int) (a H h:Nat) (k:CapC c size a H) (hh:h≤H) (n:Int) (h0:0≤n) (h1:n≤65537) (w:World):
    Calls Tryd.prog 37 #[.agg #[.int .u8 c.tag,.int .i64 c.most,.int .i64 c.seg,.int .i64 c.least,.int .i64 c.den,.int .i64 c.ll,.int .i64 c.rl,.int .i64 c.rh,.int .i64 c.lh],.int .i64 size,.int .i64 h,.int .i64 n] w (AnsB w (.tuple #[.bool (fulB c H h n),.int .i64 (inB c h n)])):=by
 unfold inB;by_cases hn:n≤wdC c h
 · rw [if_pos hn];obtain ⟨d0,d1,d2,d3,d4,d5,d6,d7,d8,d9,d10,d11,d12,d13,d14,d15,d16,d17⟩:=cfHead_num (cfMay_head k.may);have AK:=hid (fun W=>casked_in c size a H h k hh n h0 hn W);have DN:=hid (fun W=>density_ok c size a H h k hh n c.lh c.rh h0 xo xo xo xo xo W);have hr:=fulB_dns c H h n;generalize fulB c H h n=r at *;generalize dnsV c H h n c.lh c.rh=v at *;clear k hn;go_enter Tryd.func37,Tryd.ntmps37
   go_wp2_with fail
   refine (AK.out _).mono ?_;rintro e w1 ⟨rfl,hb1⟩;have hz_w1:=hb1.size;try simp only [World.size_alloc,World.size_setCell] at hz_w1
   have hh:=bc9 hb1 (al9 (b:=w.heap.size) xsi);obtain ⟨c_t0,c_t1,c_t2,c_t3,c_t4,c_t5,c_t6,c_t7,c_t8⟩:=hh;have z_t:=blt hb1 (alz (b:=w.heap.size) xsi);have hB1:Below w.heap.size w w1:=xbel;have HB1:=hid hB1;have hz1:=hB1.size;clear hb1 hB1;go_wp2_with fail
   refine (DN.out _).mono ?_;rintro e w3 ⟨rfl,hb3⟩;have hz_w3:=hb3.size;simp (disch:=omega) only [xcl hb3] at *;replace z_t:=blt hb3 z_t;have HB3:=hid (below_via hb3 HB1.out hz1);go_wp2
   go_ret2
   exact ⟨rfl,HB3.out⟩
 · rw [if_neg hn,fulB_in k hh xo];have AK:=hid (fun W=>casked_out c size a H h k hh n h0 xo W);clear k hn;go_enter Tryd.func37,Tryd.ntmps37
   go_wp2_with fail
   refine (AK.out _).mono ?_;rintro e w1 ⟨rfl,hb1⟩;have hz_w1:=hb1.size;try simp only [World.size_alloc,World.size_setCell] at hz_w1
   have hh:=bc9 hb1 (al9 (b:=w.heap.size) xsi);obtain ⟨c_t0,c_t1,c_t2,c_t3,c_t4,c_t5,c_t6,c_t7,c_t8⟩:=hh;have z_t:=blt hb1 (alz (b:=w.heap.size) xsi);have hB1:Below w.heap.size w w1:=xbel;go_wp2
   go_ret2
   exact ⟨rfl,hB1⟩
theorem Sparse_in (c:Cfg) (size:Int) (a H h:Nat) (k:CapC c size a H) (hh:h≤H) (n:Int) (h0:0≤n) (h1:n≤wdC c h) (w:World):
    Calls Tryd.prog 47 #[.agg #[.int .u8 c.tag,.int .i64 c.most,.int .i64 c.seg,.int .i64 c.least,.int .i64 c.den,.int .i64 c.ll,.int .i64 c.rl,.int .i64 c.rh,.int .i64 c.lh],.int .i64 size,.int .i64 h,.int .i64 n] w (AnsB w (.tuple #[.bool (sprB c size H h n),.int .i64 0])):=by
 obtain ⟨d0,d1,d2,d3,d4,d5,d6,d7,d8,d9,d10,d11,d12,d13,d14,d15,d16,d17⟩:=cfHead_num (cfMay_head k.may);obtain ⟨e,w4,w6,-⟩:=k.wd hh;have AK:=hid (fun W=>casked_in c size a H h k hh n h0 h1 W);have DN:=hid (fun W=>density_ok c size a H h k hh (n+1) c.ll c.rl xo xo xo xo xo xo W);have hw1:IntKind.i64.wrap (n+1)=n+1:=IntWalk.i64_in _ xo;have hl:=k.least;unfold sprB;by_cases hs:size=c.least
 · rw [decide_eq_true hs,Bool.true_or];have hs2:(size==c.least)=true:=by simp [hs]
   clear k h1 DN hs hl;generalize c.least=le at *;go_enter Tryd.func47,Tryd.ntmps47
   go_wp2_with fail
   refine (AK.out _).mono ?_;rintro e w1 ⟨rfl,hb1⟩;have hz_w1:=hb1.size;try simp only [World.size_alloc,World.size_setCell] at hz_w1
   have hh:=bc9 hb1 (al9 (b:=w.heap.size) xsi);obtain ⟨c_t0,c_t1,c_t2,c_t3,c_t4,c_t5,c_t6,c_t7,c_t8⟩:=hh;have z_t:=blt hb1 (alz (b:=w.heap.size) xsi);have hB1:Below w.heap.size w w1:=xbel;go_wp2
   go_ret2
   exact ⟨rfl,hB1⟩
 · rw [decide_eq_false hs,Bool.false_or];have hz:0<H:=by
    rcases hl with q|q
    · exact absurd q hs
    · exact q
   have hr:=sprB_dns c size H h n hz;rw [←hr];have hs2:(size==c.least)=false:=by simp [hs]
   clear k h1 hl hr hs;generalize dnsV c H h (n+1) c.ll c.rl=v at *;generalize c.least=le at *;go_enter Tryd.func47,Tryd.ntmps47
   go_wp2_with fail
   refine (AK.out _).mono ?_;rintro e w1 ⟨rfl,hb1⟩;have hz_w1:=hb1.size;try simp only [World.size_alloc,World.size_setCell] at hz_w1
   have hh:=bc9 hb1 (al9 (b:=w.heap.size) xsi);obtain ⟨c_t0,c_t1,c_t2,c_t3,c_t4,c_t5,c_t6,c_t7,c_t8⟩:=hh;have z_t:=blt hb1 (alz (b:=w.heap.size) xsi);have hB1:Below w.heap.size w w1:=xbel;have HB1:=hid hB1;have hz1:=hB1.size;clear hb1 hB1;go_wp2_with fail
   refine (DN.out _).mono ?_;rintro e w3 ⟨rfl,hb3⟩;have hz_w3:=hb3.size;simp (disch:=omega) only [xcl hb3] at *;replace z_t:=blt hb3 z_t;have HB3:=hid (below_via hb3 HB1.out hz1);go_wp2
   go_ret2
   exact ⟨rfl,HB3.out⟩
end
end Go.Proofs.YtmnlagmmbfjbeaaDoor

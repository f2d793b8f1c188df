/- Merged: PutR, GAddOk, GGone. -/
import Derived.Test.YtmnlagmmbfjbeaaGreatDoorPmaTurnsP15
import Derived.Test.YtmnlagmmbfjbeaaGreatDoorPmaTurnsP8
import Derived.Test.YtmnlagmmbfjbeaaGreatDoorPmaTurnsP10
import Derived.Test.YtmnlagmmbfjbeaaGreatDoorPmaTurnsP24
import Derived.Test.YtmnlagmmbfjbeaaGreatDoorPmaTurnsP22
import Derived.Test.YtmnlagmmbfjbeaaGreatDoorPmaTurnsP23
namespace Go.Proofs.YtmnlagmmbfjbeaaGreatDoor
set_option maxRecDepth 100000
set_option maxHeartbeats 40000000
set_option linter.unusedVariables false
set_option linter.unusedSimpArgs false
section
open Go.RowKit Go.Shelf Go.Sort
theorem Of06_ok (seg:Int) (a h at_:Nat) (hs:seg=((2^a:Nat):Int)) (hah:a+h≤22) (hat:at_≤65536) (w:World):
    Calls Tryz.prog 128 #[.int .i64 seg,.int .i64 h,.int .i64 at_] w (AnsB w (.tuple #[.int .i64 ((wnd a h at_*2^(a+h):Nat):Int),.int .i64 (((wnd a h at_*2^(a+h):Nat):Int)+((2^(a+h):Nat):Int))])):=by
 have PW:=hid (fun W=>Pow_any h h rfl xo W);have hp:=Nat.two_pow_pos (a+h);have hb:2^(a+h)≤4194304:=Nat.le_trans (Nat.pow_le_pow_right xo hah) xdd;have hl1:wnd a h at_≤at_:=Nat.div_le_self _ _;have hl2:wnd a h at_*2^(a+h)≤at_:=Nat.div_mul_le_self at_ (2^(a+h));have hw1:IntKind.i64.wrap (seg*((2^h:Nat):Int))=((2^(a+h):Nat):Int):=by
  have e:seg*((2^h:Nat):Int)=((2^(a+h):Nat):Int):=by rw [hs,Nat.pow_add];push_cast;rfl
  rw [e];exact IntWalk.i64_in _ xo
 have hq0:(at_:Int)/((2^(a+h):Nat):Int)=((wnd a h at_:Nat):Int):=(Int.natCast_ediv at_ (2^(a+h))).symm;have hq:IntKind.i64.wrap ((at_:Int)/((2^(a+h):Nat):Int))=((wnd a h at_:Nat):Int):=by rw [hq0];exact IntWalk.i64_in _ xo
 have hqt:(at_:Int).tdiv ((2^(a+h):Nat):Int)=(at_:Int)/((2^(a+h):Nat):Int):=Int.tdiv_eq_ediv_of_nonneg xo;have hm:IntKind.i64.wrap (((wnd a h at_:Nat):Int)*((2^(a+h):Nat):Int))=((wnd a h at_*2^(a+h):Nat):Int):=by
  have e:((wnd a h at_:Nat):Int)*((2^(a+h):Nat):Int)=((wnd a h at_*2^(a+h):Nat):Int):=by push_cast;rfl
  rw [e];exact IntWalk.i64_in _ xo
 have ha:IntKind.i64.wrap (((wnd a h at_*2^(a+h):Nat):Int)+((2^(a+h):Nat):Int))=((wnd a h at_*2^(a+h):Nat):Int)+((2^(a+h):Nat):Int):=by
  clear hm hq hw1 hq0 hqt;generalize wnd a h at_*2^(a+h)=lo at *;generalize 2^(a+h)=wd at *;exact IntWalk.i64_in _ xo
 have h1:¬((2^(a+h):Nat):Int)=0:=by
  generalize 2^(a+h)=wd at *;omega
 have h0:(((2^(a+h):Nat):Int)==0)=false:=by rw [beq_eq_false_iff_ne];exact h1
 clear hq0 hl1 hl2 hb hs hp;generalize ((wnd a h at_*2^(a+h):Nat):Int)=lo at *;generalize ((2^(a+h):Nat):Int)=wd at *;generalize ((wnd a h at_:Nat):Int)=q at *;generalize ((2^h:Nat):Int)=p at *;go_enter Tryz.func128,Tryz.ntmps128
 go_wp2_with fail
 refine (PW.out _).mono ?_;rintro e w1 ⟨rfl,rfl⟩;go_wp2
 go_ret2
 exact ⟨rfl,Below.refl _ _⟩
theorem Place09_ok (seg:Int) (wa ka va ca:Option Addr) (wc kc vc cc lw n lv lc:Nat) (laid:Int) (k:Nat) (L:List Nat) (hk:k<L.length) (w:World) (PL:Hid (∀W,Below w.heap.size w W→Calls Tryz.prog 81 #[.slice wa lw wc,.int .i64 0,.int .i64 n] W (FreshInts W (ints L)))):
    Calls Tryz.prog 133 #[.agg #[.int .i64 seg,.slice wa lw wc,.slice ka n kc,.slice va lv vc,.slice ca lc cc,.int .u64 laid],.int .i64 k] w (AnsB w (.int .i64 (L.getD k 0:Nat))):=by
 have HK:=hid hk;have HG:=hid (fun (x:Int) (hx:(ints L).getD k 0=x)=>(show ((L.getD k 0:Nat):Int)=x by rw [←hx,getD_ints]));generalize L.getD k 0=z at *;have HL:=hid (ints_length L);clear hk;go_enter Tryz.func133,Tryz.ntmps133
 go_wp2_with fail
 refine (PL.out _ xbel).mono ?_;rintro e w1 ⟨v1,rfl,ho1,hb1⟩;have hz_w1:=hb1.size;try simp only [World.size_alloc,World.size_setCell] at hz_w1
 have hh:=bc6 hb1 (al6 (b:=w.heap.size) xsi);obtain ⟨c_t0,c_t1,c_t2,c_t3,c_t4,c_t5⟩:=hh;have z_t:=blt hb1 (alz (b:=w.heap.size) xsi);have hB1:Below w.heap.size w w1:=xbel;obtain ⟨ra,rc,rfl,hi1,-,-,hrc,-⟩:=row_of_owns ho1;rw [HL.out] at hrc ⊢;obtain ⟨b,off,x,rfl,hx,hc,-⟩:=hi1.get (i:=k) (by rw [HL.out];exact HK.out);have HX:=hid (HG.out x hx.out);have hlk:=HK.out;have HB1:=hid hB1;clear hb1 hB1 hi1 ho1 hx HG;generalize L.length=m at *;go_wp2
 go_ret
 exact ⟨by rw [HX.out];rfl,HB1.out⟩
theorem Home09_ok (seg:Int) (wa ka va ca:Option Addr) (wc kc vc cc lw n lv lc:Nat) (laid:Int) (k M:Nat) (p:Nat→Nat) (hk:k≤M) (hk2:k≤65536) (w:World) (MN:Hid (∀W,Below w.heap.size w W→Calls Tryz.prog 107 #[.agg #[.int .i64 seg,.slice wa lw wc,.slice ka n kc,.slice va lv vc,.slice ca lc cc,.int .u64 laid]] W (AnsB W (.int .i64 M))))
    (PL:Hid (∀i:Nat,i<M→∀W,Below w.heap.size w W→Calls Tryz.prog 133 #[.agg #[.int .i64 seg,.slice wa lw wc,.slice ka n kc,.slice va lv vc,.slice ca lc cc,.int .u64 laid],.int .i64 i] W (AnsB W (.int .i64 (p i:Nat))))):
    Calls Tryz.prog 124 #[.agg #[.int .i64 seg,.slice wa lw wc,.slice ka n kc,.slice va lv vc,.slice ca lc cc,.int .u64 laid],.int .i64 k] w (AnsB w (.int .i64 ((if M=0 then 0 else p (k-1):Nat):Int))):=by
 by_cases h0:M=0
 · subst h0;rw [if_pos rfl];clear PL;go_enter Tryz.func124,Tryz.ntmps124
   go_wp2_with fail
   refine (MN.out _ xbel).mono ?_;rintro e w1 ⟨rfl,hb1⟩;have hz_w1:=hb1.size;try simp only [World.size_alloc,World.size_setCell] at hz_w1
   have hh:=bc6 hb1 (al6 (b:=w.heap.size) xsi);obtain ⟨c_t0,c_t1,c_t2,c_t3,c_t4,c_t5⟩:=hh;have z_t:=blt hb1 (alz (b:=w.heap.size) xsi);have hB1:Below w.heap.size w w1:=xbel;go_wp2
   go_ret
   exact ⟨rfl,hB1⟩
 · rw [if_neg h0];have g0:((M:Int)==0)=false:=by simp;omega
   rcases Nat.eq_zero_or_pos k with rfl|hk0
   · have P0:=hid (PL.out 0 xo);rw [show 0-1=0 from rfl];clear PL h0;go_enter Tryz.func124,Tryz.ntmps124
     go_wp2_with fail
     refine (MN.out _ xbel).mono ?_;rintro e w1 ⟨rfl,hb1⟩;have hz_w1:=hb1.size;try simp only [World.size_alloc,World.size_setCell] at hz_w1
     have hh:=bc6 hb1 (al6 (b:=w.heap.size) xsi);obtain ⟨c_t0,c_t1,c_t2,c_t3,c_t4,c_t5⟩:=hh;have z_t:=blt hb1 (alz (b:=w.heap.size) xsi);have hB1:Below w.heap.size w w1:=xbel;have HB1:=hid hB1;clear hb1 hB1;go_wp2_with fail
     refine (P0.out _ HB1.out).mono ?_;rintro e w2 ⟨rfl,hb2⟩;have hz_w2:=hb2.size;simp (disch:=omega) only [xcl hb2] at *;replace z_t:=blt hb2 z_t;have HB2:=xv hb2 HB1;go_wp2
     go_ret
     exact ⟨rfl,HB2.out⟩
   · have P0:=hid (PL.out (k-1) xo);have g1:((k:Int)==0)=false:=by simp;omega
     have hw1:IntKind.i64.wrap ((k:Int)-1)=((k-1:Nat):Int):=by rw [show (k:Int)-1=((k-1:Nat):Int) by omega];exact IntWalk.i64_in _ xo
     clear PL h0;go_enter Tryz.func124,Tryz.ntmps124
     go_wp2_with fail
     refine (MN.out _ xbel).mono ?_;rintro e w1 ⟨rfl,hb1⟩;have hz_w1:=hb1.size;try simp only [World.size_alloc,World.size_setCell] at hz_w1
     have hh:=bc6 hb1 (al6 (b:=w.heap.size) xsi);obtain ⟨c_t0,c_t1,c_t2,c_t3,c_t4,c_t5⟩:=hh;have z_t:=blt hb1 (alz (b:=w.heap.size) xsi);have hB1:Below w.heap.size w w1:=xbel;have HB1:=hid hB1;clear hb1 hB1;go_wp2_with fail
     refine (P0.out _ HB1.out).mono ?_;rintro e w2 ⟨rfl,hb2⟩;have hz_w2:=hb2.size;simp (disch:=omega) only [xcl hb2] at *;replace z_t:=blt hb2 z_t;have HB2:=xv hb2 HB1;go_wp2
     go_ret
     exact ⟨rfl,HB2.out⟩
theorem over09_ok (c:Cfg) (seg:Int) (wa ka va ca:Option Addr) (wc kc vc cc lw n lv lc:Nat) (laid:Int) (a H at_:Nat) (hH:H≤14) (p:Nat→Bool) (m:Nat→Int) (hm:∀h,h≤H→0≤m h∧m h≤65536) (w:World)
    (HT:Hid (∀W,Below w.heap.size w W→Calls Tryz.prog 96 #[.agg #[.int .u8 c.tag,.int .i64 c.most,.int .i64 c.seg,.int .i64 c.least,.int .i64 c.den,.int .i64 c.ll,.int .i64 c.rl,.int .i64 c.rh,.int .i64 c.lh],.int .i64 n] W (AnsB W (.int .i64 H))))
    (OF:Hid (∀h:Nat,h≤H→∀W,Below w.heap.size w W→Calls Tryz.prog 128 #[.int .i64 c.seg,.int .i64 h,.int .i64 at_] W (AnsB W (.tuple #[.int .i64 ((wnd a h at_*2^(a+h):Nat):Int),.int .i64 (((wnd a h at_*2^(a+h):Nat):Int)+((2^(a+h):Nat):Int))]))))
    (AM:Hid (∀h:Nat,h≤H→∀W,Below w.heap.size w W→Calls Tryz.prog 129 #[.agg #[.int .i64 seg,.slice wa lw wc,.slice ka n kc,.slice va lv vc,.slice ca lc cc,.int .u64 laid],.int .i64 ((wnd a h at_*2^(a+h):Nat):Int),.int .i64 (((wnd a h at_*2^(a+h):Nat):Int)+((2^(a+h):Nat):Int))] W (AnsB W (.int .i64 (m h)))))
    (NM:Hid (∀h:Nat,h≤H→∀W,Below w.heap.size w W→Calls Tryz.prog 147 #[.agg #[.int .u8 c.tag,.int .i64 c.most,.int .i64 c.seg,.int .i64 c.least,.int .i64 c.den,.int .i64 c.ll,.int .i64 c.rl,.int .i64 c.rh,.int .i64 c.lh],.int .i64 n,.int .i64 h,.int .i64 (m h+1)] W (AnsB W (.bool !(p h))))):
    Calls Tryz.prog 125 #[.agg #[.int .u8 c.tag,.int .i64 c.most,.int .i64 c.seg,.int .i64 c.least,.int .i64 c.den,.int .i64 c.ll,.int .i64 c.rl,.int .i64 c.rh,.int .i64 c.lh],.agg #[.int .i64 seg,.slice wa lw wc,.slice ka n kc,.slice va lv vc,.slice ca lc cc,.int .u64 laid],.int .i64 at_] w (AnsB w (.int .i64 (topI p (H+1)))):=by
 have HM:=hid hm;clear hm;go_enter Tryz.func125,Tryz.ntmps125
 go_wp2_with fail
 refine (HT.out _ xbel).mono ?_;rintro e w1 ⟨rfl,hb1⟩;have hz_w1:=hb1.size;try simp only [World.size_alloc,World.size_setCell] at hz_w1
 have hh:=bc9 hb1 (au9 (al9 (b:=w.heap.size) xsi));obtain ⟨c_m0,c_m1,c_m2,c_m3,c_m4,c_m5,c_m6,c_m7,c_m8⟩:=hh;have z_m:=blt hb1 (auz (alz (b:=w.heap.size) xsi));have hh:=bc6 hb1 (al6 (b:=w.heap.size+1) xsi);obtain ⟨c_t0,c_t1,c_t2,c_t3,c_t4,c_t5⟩:=hh;have z_t:=blt hb1 (alz (b:=w.heap.size+1) xsi);have hB1:Below w.heap.size w w1:=xbel;have HB1:=hid hB1;have hz1:=hB1.size;clear hb1 hB1;go_wp2
 go_loopg [8] (H+1) (fun gk iv wr=>gk≤H+1∧iv= .int .i64 ((gk:Int)-1)∧Hid (topI p (H+1)=topI p gk)∧Hid (Below w1.heap.size w1 wr))
 case atStart=>exact ⟨Nat.le_refl _,by congr 1;omega,hid rfl,hid br⟩
 case round=>
  obtain ⟨hg,rfl,HT2,HB⟩:=hrel;have hbr:=HB.out;have hz_wr:=hbr.size;simp (disch:=omega) only [xcl hbr] at c_m0 c_m1 c_m2 c_m3 c_m4 c_m5 c_m6 c_m7 c_m8 c_t0 c_t1 c_t2 c_t3 c_t4 c_t5;replace z_m:=blt hbr z_m;replace z_t:=blt hbr z_t;have HB2:=hid (below_via hbr HB1.out hz1);rcases Nat.eq_zero_or_pos gk with rfl|hg0
  · have d1:decide ((0:Int)≤((0:Nat):Int)-1)=false:=by decide
    have HV:=hid (HT2.out.trans (topI_zero p));clear hbr;go_wp2
    go_ret
    exact ⟨by rw [HV.out];rfl,HB2.out⟩
  · obtain ⟨h,rfl⟩:∃h,gk=h+1:=⟨gk-1,by omega⟩
    have e1:(((h+1:Nat):Int)-1)=(h:Int):=xo;rw [e1];have hhH:h≤H:=xo;have OF2:=hid (OF.out h hhH);have AM2:=hid (AM.out h hhH);have NM2:=hid (NM.out h hhH);have hmh:=HM.out h hhH;have hmw:IntKind.i64.wrap (m h+1)=m h+1:=IntWalk.i64_in _ xo;have hsub:IntKind.i64.wrap ((h:Int)-1)=(h:Int)-1:=IntWalk.i64_in _ xo;have TY:=hid (fun (q:p h=true)=>topI_yes q);have TN:=hid (fun (q:p h=false)=>topI_no q);generalize m h=mh at *;generalize p h=ph at *;generalize ((wnd a h at_*2^(a+h):Nat):Int)=lo at *;generalize lo+((2^(a+h):Nat):Int)=hi at *;clear hbr e1;go_wp2_with fail
    refine (OF2.out _ HB2.out).mono ?_;rintro e w3 ⟨rfl,hb3⟩;have hz_w3:=hb3.size;simp (disch:=omega) only [xcl hb3] at c_m0 c_m1 c_m2 c_m3 c_m4 c_m5 c_m6 c_m7 c_m8 c_t0 c_t1 c_t2 c_t3 c_t4 c_t5;replace z_m:=blt hb3 z_m;replace z_t:=blt hb3 z_t;have HB3:=xv hb3 HB2;have HC3:=xv hb3 HB;clear hb3;go_upto_region 6 with (fail)
    have K0:=hid (fun d os=>kr w3 d os (AM2.out _ (below_via (below_regrown w3 d os) HB3.out HB3.out.size)));have K1:=hid (fun d os=>kr w3 d os (NM2.out _ (below_via (below_regrown w3 d os) HB3.out HB3.out.size)));have q0:=cg c_m0;have q1:=cg c_m1;have q2:=cg c_m2;have q3:=cg c_m3;have q4:=cg c_m4;have q5:=cg c_m5;have q6:=cg c_m6;have q7:=cg c_m7;have q8:=cg c_m8;have q9:=cg c_t0;have q10:=cg c_t1;have q11:=cg c_t2;have q12:=cg c_t3;have q13:=cg c_t4;have q14:=cg c_t5;refine wp_region_quiet_below xk xk ?_;repeat (go_big_quiet_step (first|with_reducible exact K0.out _ _|with_reducible exact K1.out _ _|exact K0.out _ _|exact K1.out _ _))
    refine wpQuiet_nil ?_;intro _ hw';obtain ⟨⟨dq,osq⟩,hw''⟩:=hw';subst hw'';have hbq:=below_regrown w3 dq osq;clear q0 q1 q2 q3 q4 q5 q6 q7 q8 q9 q10 q11 q12 q13 q14 K0 K1;generalize Sort.grow (redrawn w3 dq) osq=wx at *;have HB4:=xv hbq HB3;have HC4:=xv hbq HC3;clear hbq;cases ph with
    | true=>
     have HV:=hid (HT2.out.trans (TY.out rfl));clear TY TN;go_wp2
     go_ret
     exact ⟨by rw [HV.out];rfl,HB4.out⟩
    | false=>
     have HV:=hid (HT2.out.trans (TN.out rfl));clear TY TN;go_wp2
     go_roundg h
     case measure=>omega
     case rel=>exact ⟨by omega,by first|rfl|rw [hsub]|go_num,HV,HC4⟩
theorem under09_ok (c:Cfg) (seg:Int) (wa ka va ca:Option Addr) (wc kc vc cc lw n lv lc:Nat) (laid:Int) (a H at_:Nat) (hH:H≤14) (p:Nat→Bool) (m:Nat→Int) (hm:∀h,h≤H→0≤m h∧m h≤65536) (w:World)
    (HT:Hid (∀W,Below w.heap.size w W→Calls Tryz.prog 96 #[.agg #[.int .u8 c.tag,.int .i64 c.most,.int .i64 c.seg,.int .i64 c.least,.int .i64 c.den,.int .i64 c.ll,.int .i64 c.rl,.int .i64 c.rh,.int .i64 c.lh],.int .i64 n] W (AnsB W (.int .i64 H))))
    (OF:Hid (∀h:Nat,h≤H→∀W,Below w.heap.size w W→Calls Tryz.prog 128 #[.int .i64 c.seg,.int .i64 h,.int .i64 at_] W (AnsB W (.tuple #[.int .i64 ((wnd a h at_*2^(a+h):Nat):Int),.int .i64 (((wnd a h at_*2^(a+h):Nat):Int)+((2^(a+h):Nat):Int))]))))
    (AM:Hid (∀h:Nat,h≤H→∀W,Below w.heap.size w W→Calls Tryz.prog 129 #[.agg #[.int .i64 seg,.slice wa lw wc,.slice ka n kc,.slice va lv vc,.slice ca lc cc,.int .u64 laid],.int .i64 ((wnd a h at_*2^(a+h):Nat):Int),.int .i64 (((wnd a h at_*2^(a+h):Nat):Int)+((2^(a+h):Nat):Int))] W (AnsB W (.int .i64 (m h)))))
    (NM:Hid (∀h:Nat,h≤H→∀W,Below w.heap.size w W→Calls Tryz.prog 135 #[.agg #[.int .u8 c.tag,.int .i64 c.most,.int .i64 c.seg,.int .i64 c.least,.int .i64 c.den,.int .i64 c.ll,.int .i64 c.rl,.int .i64 c.rh,.int .i64 c.lh],.int .i64 n,.int .i64 h,.int .i64 (m h)] W (AnsB W (.bool !(p h))))):
    Calls Tryz.prog 134 #[.agg #[.int .u8 c.tag,.int .i64 c.most,.int .i64 c.seg,.int .i64 c.least,.int .i64 c.den,.int .i64 c.ll,.int .i64 c.rl,.int .i64 c.rh,.int .i64 c.lh],.agg #[.int .i64 seg,.slice wa lw wc,.slice ka n kc,.slice va lv vc,.slice ca lc cc,.int .u64 laid],.int .i64 at_] w (AnsB w (.int .i64 (topI p (H+1)))):=by
 have HM:=hid hm;clear hm;go_enter Tryz.func134,Tryz.ntmps134
 go_wp2_with fail
 refine (HT.out _ xbel).mono ?_;rintro e w1 ⟨rfl,hb1⟩;have hz_w1:=hb1.size;try simp only [World.size_alloc,World.size_setCell] at hz_w1
 have hh:=bc9 hb1 (au9 (al9 (b:=w.heap.size) xsi));obtain ⟨c_m0,c_m1,c_m2,c_m3,c_m4,c_m5,c_m6,c_m7,c_m8⟩:=hh;have z_m:=blt hb1 (auz (alz (b:=w.heap.size) xsi));have hh:=bc6 hb1 (al6 (b:=w.heap.size+1) xsi);obtain ⟨c_t0,c_t1,c_t2,c_t3,c_t4,c_t5⟩:=hh;have z_t:=blt hb1 (alz (b:=w.heap.size+1) xsi);have hB1:Below w.heap.size w w1:=xbel;have HB1:=hid hB1;have hz1:=hB1.size;clear hb1 hB1;go_wp2
 go_loopg [8] (H+1) (fun gk iv wr=>gk≤H+1∧iv= .int .i64 ((gk:Int)-1)∧Hid (topI p (H+1)=topI p gk)∧Hid (Below w1.heap.size w1 wr))
 case atStart=>exact ⟨Nat.le_refl _,by congr 1;omega,hid rfl,hid br⟩
 case round=>
  obtain ⟨hg,rfl,HT2,HB⟩:=hrel;have hbr:=HB.out;have hz_wr:=hbr.size;simp (disch:=omega) only [xcl hbr] at c_m0 c_m1 c_m2 c_m3 c_m4 c_m5 c_m6 c_m7 c_m8 c_t0 c_t1 c_t2 c_t3 c_t4 c_t5;replace z_m:=blt hbr z_m;replace z_t:=blt hbr z_t;have HB2:=hid (below_via hbr HB1.out hz1);rcases Nat.eq_zero_or_pos gk with rfl|hg0
  · have d1:decide ((0:Int)≤((0:Nat):Int)-1)=false:=by decide
    have HV:=hid (HT2.out.trans (topI_zero p));clear hbr;go_wp2
    go_ret
    exact ⟨by rw [HV.out];rfl,HB2.out⟩
  · obtain ⟨h,rfl⟩:∃h,gk=h+1:=⟨gk-1,by omega⟩
    have e1:(((h+1:Nat):Int)-1)=(h:Int):=xo;rw [e1];have hhH:h≤H:=xo;have OF2:=hid (OF.out h hhH);have AM2:=hid (AM.out h hhH);have NM2:=hid (NM.out h hhH);have hmh:=HM.out h hhH;have hmw:IntKind.i64.wrap (m h+1)=m h+1:=IntWalk.i64_in _ xo;have hsub:IntKind.i64.wrap ((h:Int)-1)=(h:Int)-1:=IntWalk.i64_in _ xo;have TY:=hid (fun (q:p h=true)=>topI_yes q);have TN:=hid (fun (q:p h=false)=>topI_no q);generalize m h=mh at *;generalize p h=ph at *;generalize ((wnd a h at_*2^(a+h):Nat):Int)=lo at *;generalize lo+((2^(a+h):Nat):Int)=hi at *;clear hbr e1;go_wp2_with fail
    refine (OF2.out _ HB2.out).mono ?_;rintro e w3 ⟨rfl,hb3⟩;have hz_w3:=hb3.size;simp (disch:=omega) only [xcl hb3] at c_m0 c_m1 c_m2 c_m3 c_m4 c_m5 c_m6 c_m7 c_m8 c_t0 c_t1 c_t2 c_t3 c_t4 c_t5;replace z_m:=blt hb3 z_m;replace z_t:=blt hb3 z_t;have HB3:=xv hb3 HB2;have HC3:=xv hb3 HB;clear hb3;go_upto_region 6 with (fail)
    have K0:=hid (fun d os=>kr w3 d os (AM2.out _ (below_via (below_regrown w3 d os) HB3.out HB3.out.size)));have K1:=hid (fun d os=>kr w3 d os (NM2.out _ (below_via (below_regrown w3 d os) HB3.out HB3.out.size)));have q0:=cg c_m0;have q1:=cg c_m1;have q2:=cg c_m2;have q3:=cg c_m3;have q4:=cg c_m4;have q5:=cg c_m5;have q6:=cg c_m6;have q7:=cg c_m7;have q8:=cg c_m8;have q9:=cg c_t0;have q10:=cg c_t1;have q11:=cg c_t2;have q12:=cg c_t3;have q13:=cg c_t4;have q14:=cg c_t5;refine wp_region_quiet_below xk xk ?_;repeat (go_big_quiet_step (first|with_reducible exact K0.out _ _|with_reducible exact K1.out _ _|exact K0.out _ _|exact K1.out _ _))
    refine wpQuiet_nil ?_;intro _ hw';obtain ⟨⟨dq,osq⟩,hw''⟩:=hw';subst hw'';have hbq:=below_regrown w3 dq osq;clear q0 q1 q2 q3 q4 q5 q6 q7 q8 q9 q10 q11 q12 q13 q14 K0 K1;generalize Sort.grow (redrawn w3 dq) osq=wx at *;have HB4:=xv hbq HB3;have HC4:=xv hbq HC3;clear hbq;cases ph with
    | true=>
     have HV:=hid (HT2.out.trans (TY.out rfl));clear TY TN;go_wp2
     go_ret
     exact ⟨by rw [HV.out];rfl,HB4.out⟩
    | false=>
     have HV:=hid (HT2.out.trans (TN.out rfl));clear TY TN;go_wp2
     go_roundg h
     case measure=>omega
     case rel=>exact ⟨by omega,by first|rfl|rw [hsub]|go_num,HV,HC4⟩
end
section
open Go.RowKit
theorem among9_win {c:Cfg} {s:SlC} {a H h at_:Nat} (k:GapN c s a H) (hu:U64s s.ws) (sa:SlA) (hh:h≤H) (hat:at_<s.ks.length) (w:World) (hin:SlIn w s sa):
    Calls Tryz.prog 129 #[slV s sa,.int .i64 ((wnd a h at_*2^(a+h):Nat):Int),.int .i64 (((wnd a h at_*2^(a+h):Nat):Int)+((2^(a+h):Nat):Int))] w (AnsB w (.int .i64 (inH s a h at_))):=by
 obtain ⟨p1,p2,p3,p4,p5,p6⟩:=k.pows;have b:=wnd_bd hh (by rw [←k.nk];exact hat);have e:=wnd_seg a h at_;have hp0:=Nat.two_pow_pos h;have hlt:wnd a h at_*2^h<(wnd a h at_+1)*2^h:=by rw [Nat.succ_mul];omega
 refine Among09_ok s sa (2^a) (wnd a h at_*2^h) ((wnd a h at_+1)*2^h) k.seg p1 p2 _ _ ?_ ?_ xo (by rw [k.nc];exact b.1) p3 k.cnt w hin
 · rw [e.1]
 · rw [←e.2.1,←e.2.2];push_cast;rfl
theorem among9_lo {c:Cfg} {s:SlC} {a H h at_:Nat} (k:GapN c s a H) (hu:U64s s.ws) (sa:SlA) (hh:h≤H) (hat:at_<s.ks.length) (w:World) (hin:SlIn w s sa):
    Calls Tryz.prog 129 #[slV s sa,.int .i64 0,.int .i64 ((wnd a h at_*2^(a+h):Nat):Int)] w (AnsB w (.int .i64 (cntW s.ws 0 (wnd a h at_*2^(a+h)):Nat))):=by
 obtain ⟨p1,p2,p3,p4,p5,p6⟩:=k.pows;obtain ⟨g,-⟩:=gapN_gd k hu;have b:=wnd_bd hh (by rw [←k.nk];exact hat);have e:=wnd_seg a h at_;have hp0:=Nat.two_pow_pos h;have hlt:wnd a h at_*2^h<(wnd a h at_+1)*2^h:=by rw [Nat.succ_mul];omega
 have hle:wnd a h at_*2^h≤2^H:=xo;have:=Among09_ok s sa (2^a) 0 (wnd a h at_*2^h) k.seg p1 p2 0 ((wnd a h at_*2^(a+h):Nat):Int) xsi (by rw [e.1]) (Nat.zero_le _) (by rw [k.nc];exact hle) p3 k.cnt w hin;rwa [sumC_cnt2 g (Nat.zero_le _) hle,Nat.zero_mul,←e.1] at this
theorem home9_ok {c:Cfg} {s:SlC} {a H:Nat} (k:GapN c s a H) (sa:SlA) (n:Nat) (hn:n≤manyC s) (w:World) (hin:SlIn w s sa):
    Calls Tryz.prog 124 #[slV s sa,.int .i64 n] w (AnsB w (.int .i64 (homeC s n:Nat))):=by
 obtain ⟨p1,p2,p3,p4,p5,p6⟩:=k.pows;obtain ⟨g,-⟩:=gapN_gd k hin.u;have hmn:manyC s≤s.ks.length:=by have:=cntW_le s.ws 0 s.ks.length;unfold manyC;omega
 have hlen:(plsW s.ws 0 s.ks.length).length=manyC s:=plsW_length _ _ _;have e:homeC s n=if manyC s=0 then 0 else (plsW s.ws 0 s.ks.length).getD (n-1) 0:=by
  unfold homeC;split
  · rename_i h0
    rw [List.getD_eq_getElem?_getD,List.getElem?_eq_none xo];rfl
  · rfl
 rw [e];refine Home09_ok s.seg _ _ _ _ _ _ _ _ _ _ _ _ _ n (manyC s) (fun i=>(plsW s.ws 0 s.ks.length).getD i 0) hn xo w (hid fun W hb=> ?_) (hid fun i hi W hb=> ?_)
 · have:=Many09_ok k sa W (hin.below hb);rwa [sum_many k hin.u] at this
 · exact Place09_ok s.seg _ _ _ _ _ _ _ _ _ _ _ _ _ i (plsW s.ws 0 s.ks.length) xo W (hid fun W' hb'=>Places02_ok sa.wa sa.wc s.ws hin.u 0 s.ks.length (by have:=g.wn;have:=g.elw;omega) xo xo W' ((hin.below hb).below hb').w)
theorem Added09_ok {c:Cfg} {s:SlC} {a H:Nat} (kn:GapN c s a H) (hc:cfMay c=true) (hs:s.seg=c.seg) (sa:SlA) (hz:CapsZ sa) (n:Nat) (hn:n≤manyC s) (hf:(manyC s:Int)<c.most) (x y:Int) (w:World) (hin:SlIn w s sa):
    Calls Tryz.prog 83 #[.agg #[.int .u8 c.tag,.int .i64 c.most,.int .i64 c.seg,.int .i64 c.least,.int .i64 c.den,.int .i64 c.ll,.int .i64 c.rl,.int .i64 c.rh,.int .i64 c.lh],slV s sa,.int .i64 n,.agg #[.int .i64 x,.int .i64 y]] w (FreshSl w (putN c s a H n (x,y))):=by
 obtain ⟨p1,p2,p3,p4,p5,p6⟩:=kn.pows;obtain ⟨g,hlw⟩:=gapN_gd kn hin.u;have hcf:=cfHead_num (cfMay_head hc);have hmn:manyC s≤s.ks.length:=by have:=cntW_le s.ws 0 s.ks.length;unfold manyC;omega
 have hat:=homeC_lt p5 n;have hcseg:c.seg=((2^a:Nat):Int):=kn.cap.seg;have hwn:=g.wn;have hew:=g.elw;have hev:s.vs.length=s.ks.length:=g.elv;have HM:Hid (∀W,Below w.heap.size w W→Calls Tryz.prog 124 #[slV s sa,.int .i64 n] W (AnsB W (.int .i64 (homeC s n:Nat)))):=hid fun W hb=>home9_ok kn sa n hn W (hin.below hb)
 have HT:Hid (∀W,Below w.heap.size w W→Calls Tryz.prog 96 #[.agg #[.int .u8 c.tag,.int .i64 c.most,.int .i64 c.seg,.int .i64 c.least,.int .i64 c.den,.int .i64 c.ll,.int .i64 c.rl,.int .i64 c.rh,.int .i64 c.lh],.int .i64 s.ks.length] W (AnsB W (.int .i64 H))):=hid fun W hb=>by
  have:=Height05_ok c s.ks.length xo xo xo W;rwa [kn.cap.hgt] at this
 have HH0:=hid (fun lo hi=>home_in (s:=s) (k:=n) (lo:=lo) (hi:=hi) p5 hn);unfold putN;generalize homeC s n=at_ at *;have OW:∀h:Nat,h≤H→∀W,Calls Tryz.prog 128 #[.int .i64 c.seg,.int .i64 h,.int .i64 at_] W (AnsB W (.tuple #[.int .i64 ((wnd a h at_*2^(a+h):Nat):Int),.int .i64 (((wnd a h at_*2^(a+h):Nat):Int)+((2^(a+h):Nat):Int))])):=fun h hh W=>Of06_ok c.seg a h at_ hcseg (by have:=kn.cap.a6;omega) xo W
 have OV:Hid (∀W,Below w.heap.size w W→Calls Tryz.prog 125 #[.agg #[.int .u8 c.tag,.int .i64 c.most,.int .i64 c.seg,.int .i64 c.least,.int .i64 c.den,.int .i64 c.ll,.int .i64 c.rl,.int .i64 c.rh,.int .i64 c.lh],slV s sa,.int .i64 at_] W (AnsB W (.int .i64 (topI (ovB c s a H at_) (H+1))))):=hid fun W hb=>by
  refine over09_ok c s.seg _ _ _ _ _ _ _ _ _ _ _ _ _ a H at_ p6 (ovB c s a H at_) (fun h=>inH s a h at_) (fun h hh=>by have:=inH_bd kn hin.u hh hat;omega) W (hid fun W' hb'=>HT.out W' (below_via hb' hb hb.size)) (hid fun h hh W' hb'=>OW h hh W') (hid fun h hh W' hb'=>among9_win kn hin.u sa hh hat W' ((hin.below hb).below hb')) (hid fun h hh W' hb'=> ?_);have b:=inH_bd kn hin.u hh hat;have:=NotMany05_ok c s.ks.length a H h kn.cap hh (inH s a h at_+1) xo xo W';rwa [show fulB c H h (inH s a h at_+1)= !ovB c s a H at_ h by unfold ovB;rw [Bool.not_not]] at this
 by_cases ht:topI (ovB c s a H at_) (H+1)=H
 · rw [if_pos ht];have hLn:(prs s 0 s.ks.length).length=manyC s:=prs_length _ _ _;have hcap:=cap_facts kn (n:=manyC s+1) xo;have hil:(insL (prs s 0 s.ks.length) n (x,y)).length=manyC s+1:=by rw [insL_length (by rw [hLn];exact hn),hLn]
   refine Added_wide c s.seg _ _ _ _ _ _ _ _ _ _ _ _ _ H at_ n _ ((2^a*capM c (manyC s+1):Nat):Int) x y (prs s 0 s.ks.length) (insL (prs s 0 s.ks.length) n (x,y)) _ ht w HM OV HT (hid fun W hb=> ?_) (hid fun la pl W hb hla hlz=> ?_) (hid fun W hb=> ?_) (hid fun la pl W hb hla=> ?_)
   · exact Of04_ok s sa 0 s.ks.length xo xo (Nat.le_refl _) hev xo W (hin.below hb)
   · exact Among08_ok _ xo n xo x y la pl hlz W hla
   · have:=Takes05_ok c (cfMay_head hc) ((manyC s+1:Nat):Int) xo xo W;rw [hil];rwa [hcap.2.1] at this
   · exact Wide08_ok g sa (capM c (manyC s+1)) hcap.2.2.1 hcap.2.2.2.1 _ (by rw [hil];exact hcap.2.2.2.2.1) la pl W hla
 · rw [if_neg ht];obtain ⟨h,eh,hh,hroom⟩:=put_room kn hin.u hat ht;have hht:(topI (ovB c s a H at_) (H+1)+1).toNat=h:=xo;simp only [hht];have b:=wnd_bd (a:=a) hh (by rw [←kn.nk];exact hat);have e3:=wnd_seg a h at_;have hhi:(wnd a h at_+1)*2^(a+h)≤s.ks.length:=by rw [kn.nk];exact b.2.2.2
   have hlo0:wnd a h at_*2^(a+h)≤at_:=b.2.1;have hhi0:at_<(wnd a h at_+1)*2^(a+h):=b.2.2.1;obtain ⟨k1,k2⟩:=HH0.out _ _ hlo0 hhi0 hhi;have hlen:=prs_length s (wnd a h at_*2^(a+h)) ((wnd a h at_+1)*2^(a+h));have hil:=insL_length k2 (x,y);have hc2:=cntW_le s.ws (wnd a h at_*2^(a+h)) ((wnd a h at_+1)*2^(a+h));have ehi:((wnd a h at_*2^(a+h):Nat):Int)+((2^(a+h):Nat):Int)=(((wnd a h at_+1)*2^(a+h):Nat):Int):=by rw [←Int.natCast_add,Nat.succ_mul]
   have hlh:wnd a h at_*2^(a+h)≤(wnd a h at_+1)*2^(a+h):=Nat.mul_le_mul_right _ xo;have eww:(wnd a h at_+1)*2^(a+h)=wnd a h at_*2^(a+h)+2^(a+h):=Nat.succ_mul _ _;refine Added_spread c s.seg _ _ _ _ _ _ _ _ _ _ _ _ _ H at_ n h _ ((wnd a h at_*2^(a+h):Nat):Int) (((wnd a h at_+1)*2^(a+h):Nat):Int) (cntW s.ws 0 (wnd a h at_*2^(a+h)):Nat) (n-cntW s.ws 0 (wnd a h at_*2^(a+h))) x y (prs s (wnd a h at_*2^(a+h)) ((wnd a h at_+1)*2^(a+h))) (insL (prs s (wnd a h at_*2^(a+h)) ((wnd a h at_+1)*2^(a+h))) (n-cntW s.ws 0 (wnd a h at_*2^(a+h))) (x,y)) _ hh p6 eh ht xo xo w HM OV HT (hid fun W hb=> ?_) (hid fun W hb=> ?_) (hid fun W hb=> ?_) (hid fun la pl W hb hla hlz=> ?_) (hid fun la pl W hb hla=> ?_)
   · rw [←ehi];exact OW h hh W
   · exact among9_lo kn hin.u sa hh hat W (hin.below hb)
   · exact Of04_ok s sa _ _ xo xo hhi hev xo W (hin.below hb)
   · exact Among08_ok _ xo _ k2 x y la pl hlz W hla
   · exact Spread08_ok g hlw sa hz _ _ hlh hhi _ xo la pl W (hin.below hb) hla
end
section
open Go.RowKit Go.Shelf Go.Sort
attribute [local go_sem] Oper.semAt_some
theorem Gone_none (c:Cfg) (seg:Int) (wa ka va ca:Option Addr) (wc kc vc cc lw n lv lc:Nat) (laid:Int) (at_ k:Nat) (t:Int) (z:SlC) (hzu:U64s z.ws) (ht:t<0) (w:World)
    (PL:Hid (∀W,Below w.heap.size w W→Calls Tryz.prog 133 #[.agg #[.int .i64 seg,.slice wa lw wc,.slice ka n kc,.slice va lv vc,.slice ca lc cc,.int .u64 laid],.int .i64 k] W (AnsB W (.int .i64 at_))))
    (EM:Hid (∀W,Below w.heap.size w W→Calls Tryz.prog 122 #[.agg #[.int .i64 seg,.slice wa lw wc,.slice ka n kc,.slice va lv vc,.slice ca lc cc,.int .u64 laid],.int .i64 at_] W (FreshSl W z)))
    (UN:Hid (∀W (zb:SlA),Below w.heap.size w W→SlIn W z zb→Calls Tryz.prog 134 #[.agg #[.int .u8 c.tag,.int .i64 c.most,.int .i64 c.seg,.int .i64 c.least,.int .i64 c.den,.int .i64 c.ll,.int .i64 c.rl,.int .i64 c.rh,.int .i64 c.lh],.agg #[.int .i64 z.seg,.slice zb.wa z.ws.length zb.wc,.slice zb.ka z.ks.length zb.kc,.slice zb.va z.vs.length zb.vc,.slice zb.ca z.cs.length zb.cc,.int .u64 z.laid],.int .i64 at_] W (AnsB W (.int .i64 t)))):
    Calls Tryz.prog 89 #[.agg #[.int .u8 c.tag,.int .i64 c.most,.int .i64 c.seg,.int .i64 c.least,.int .i64 c.den,.int .i64 c.ll,.int .i64 c.rl,.int .i64 c.rh,.int .i64 c.lh],.agg #[.int .i64 seg,.slice wa lw wc,.slice ka n kc,.slice va lv vc,.slice ca lc cc,.int .u64 laid],.int .i64 k] w (FreshSl w z):=by
 have g1:decide (t<0)=true:=by simpa using ht
 have HZU:=hid hzu;clear hzu ht;go_enter Tryz.func89,Tryz.ntmps89
 go_wp2_with fail
 refine (PL.out _ xbel).mono ?_;rintro e w1 ⟨rfl,hb1⟩;have hz_w1:=hb1.size;try simp only [World.size_alloc,World.size_setCell] at hz_w1
 have hh:=bc9 hb1 (au9 (au9 (al9 (b:=w.heap.size) xsi)));obtain ⟨c_m0,c_m1,c_m2,c_m3,c_m4,c_m5,c_m6,c_m7,c_m8⟩:=hh;have z_m:=blt hb1 (auz (auz (alz (b:=w.heap.size) xsi)));have hh:=bc6 hb1 (au6 (al6 (b:=w.heap.size+1) xsi));obtain ⟨c_t0,c_t1,c_t2,c_t3,c_t4,c_t5⟩:=hh;have hh:=bf6 hb1 (auz (alz (b:=w.heap.size+1) xsi)) (auf6 (alz (b:=w.heap.size+1) xsi) (alf6 (b:=w.heap.size+1) xsi));obtain ⟨f_t0,f_t1,f_t2,f_t3,f_t4,f_t5⟩:=hh;have z_t:=blt hb1 (auz (alz (b:=w.heap.size+1) xsi));have hh:=bc6 hb1 (al6 (b:=w.heap.size+1+1) xsi);obtain ⟨c_r0,c_r1,c_r2,c_r3,c_r4,c_r5⟩:=hh;have hh:=bf6 hb1 (alz (b:=w.heap.size+1+1) xsi) (alf6 (b:=w.heap.size+1+1) xsi);obtain ⟨f_r0,f_r1,f_r2,f_r3,f_r4,f_r5⟩:=hh;have z_r:=blt hb1 (alz (b:=w.heap.size+1+1) xsi);have hB1:Below w.heap.size w w1:=xbel;have HB1:=hid hB1;have hz1:w.heap.size+1+1<w1.heap.size:=z_r;clear hb1 hB1;go_wp2_with fail
 refine (EM.out _ HB1.out).mono ?_;rintro e w4 ⟨v1,v2,v3,v4,rfl,p1,p2,p3,p4,hb4⟩;have hz_w4:=hb4.size;simp (disch:=omega) only [xcl hb4,xfr hb4] at *;replace z_m:=blt hb4 z_m;replace z_t:=blt hb4 z_t;replace z_r:=blt hb4 z_r;have HB4:=xv hb4 HB1;obtain ⟨b1,j1,rfl,-,-,y1,-,-⟩:=row_of_owns p1;obtain ⟨b2,j2,rfl,-,-,y2,-,-⟩:=row_of_owns p2;obtain ⟨b3,j3,rfl,-,-,y3,-,-⟩:=row_of_owns p3;obtain ⟨b4,j4,rfl,-,-,y4,-,-⟩:=row_of_owns p4;have HP4:=hid (And.intro p1 (And.intro p2 (And.intro p3 p4)));have HCZ:Hid (CapsZ ⟨b1,b2,b3,b4,j1,j2,j3,j4⟩):=hid ⟨fun q=>(y1 q).2,fun q=>(y2 q).2,fun q=>(y3 q).2,fun q=>(y4 q).2⟩;have hz4:w.heap.size+1+1<w4.heap.size:=z_r;clear hb4 p1 p2 p3 p4 y1 y2 y3 y4;go_upto_region 3 with (fail)
 generalize hw5:((((((w4).setCell _ _).setCell _ _).setCell _ _).setCell _ _).setCell _ _).setCell _ _=w5;have HCS:=six_some ⟨c_t0,c_t1,c_t2,c_t3,c_t4,c_t5⟩;have HES:w5=setCs w4 (w.heap.size+1) 0 [.int .i64 z.seg,.slice b1 z.ws.length j1,.slice b2 z.ks.length j2,.slice b3 z.vs.length j3,.slice b4 z.cs.length j4,.int .u64 z.laid]:=hw5.symm;replace c_t0:=xsA HES HCS 0 rfl;replace c_t1:=xsA HES HCS 1 rfl;replace c_t2:=xsA HES HCS 2 rfl;replace c_t3:=xsA HES HCS 3 rfl;replace c_t4:=xsA HES HCS 4 rfl;replace c_t5:=xsA HES HCS 5 rfl;simp (disch:=omega) only [xsO HES] at c_m0 c_m1 c_m2 c_m3 c_m4 c_m5 c_m6 c_m7 c_m8 c_r0 c_r1 c_r2 c_r3 c_r4 c_r5;simp only [xsF HES] at f_t0 f_t1 f_t2 f_t3 f_t4 f_t5 f_r0 f_r1 f_r2 f_r3 f_r4 f_r5;replace z_m:=xsZ HES z_m;replace z_t:=xsZ HES z_t;replace z_r:=xsZ HES z_r;clear HCS HES;have HB5:Hid (Below w.heap.size w w5):=by rw [←hw5];exact hid (setCs_below (b:=w.heap.size+1) xo [.int .i64 z.seg,.slice b1 z.ws.length j1,.slice b2 z.ks.length j2,.slice b3 z.vs.length j3,.slice b4 z.cs.length j4,.int .u64 z.laid] w4 0 HB4.out)
 have HP5:Hid (w5.ownsRow w1.heap.size 27 1 (.slice b1 z.ws.length j1) z.ws.length (z.ws.map (Value.int .u64))∧w5.ownsRow w1.heap.size 2 1 (.slice b2 z.ks.length j2) z.ks.length (z.ks.map (Value.int .i64))∧w5.ownsRow w1.heap.size 2 1 (.slice b3 z.vs.length j3) z.vs.length (z.vs.map (Value.int .i64))∧w5.ownsRow w1.heap.size 3 1 (.slice b4 z.cs.length j4) z.cs.length (z.cs.map (Value.int .i64))):=by
  rw [←hw5];exact hid ⟨setCs_owns (b:=w.heap.size+1) (i:=0) xo [.int .i64 z.seg,.slice b1 z.ws.length j1,.slice b2 z.ks.length j2,.slice b3 z.vs.length j3,.slice b4 z.cs.length j4,.int .u64 z.laid] HP4.out.1,setCs_owns (b:=w.heap.size+1) (i:=0) xo [.int .i64 z.seg,.slice b1 z.ws.length j1,.slice b2 z.ks.length j2,.slice b3 z.vs.length j3,.slice b4 z.cs.length j4,.int .u64 z.laid] HP4.out.2.1,setCs_owns (b:=w.heap.size+1) (i:=0) xo [.int .i64 z.seg,.slice b1 z.ws.length j1,.slice b2 z.ks.length j2,.slice b3 z.vs.length j3,.slice b4 z.cs.length j4,.int .u64 z.laid] HP4.out.2.2.1,setCs_owns (b:=w.heap.size+1) (i:=0) xo [.int .i64 z.seg,.slice b1 z.ws.length j1,.slice b2 z.ks.length j2,.slice b3 z.vs.length j3,.slice b4 z.cs.length j4,.int .u64 z.laid] HP4.out.2.2.2⟩
 clear hw5 HP4;have HN5:Hid (SlIn w5 z ⟨b1,b2,b3,b4,j1,j2,j3,j4⟩):=hid (by
  obtain ⟨q1,q2,q3,q4⟩:=HP5.out;obtain ⟨_,_,he1,i1,-⟩:=row_of_owns q1;obtain ⟨_,_,he2,i2,-⟩:=row_of_owns q2;obtain ⟨_,_,he3,i3,-⟩:=row_of_owns q3;obtain ⟨_,_,he4,i4,-⟩:=row_of_owns q4;cases he1;cases he2;cases he3;cases he4;exact ⟨i1,i2,i3,i4,HZU.out⟩)
 have UN5:=hid (UN.out w5 ⟨b1,b2,b3,b4,j1,j2,j3,j4⟩ HB5.out HN5.out);go_wp2_with fail
 refine (UN5.out).mono ?_;rintro e w6 ⟨rfl,hb6⟩;have hz_w6:=hb6.size;simp (disch:=omega) only [xcl hb6,xfr hb6] at *;replace z_m:=blt hb6 z_m;replace z_t:=blt hb6 z_t;replace z_r:=blt hb6 z_r;have HB6:=xv hb6 HB5;have HN6:=hid (HN5.out.below hb6);have HP6:=hid (And.intro (owns_below HP5.out.1 hb6) (And.intro (owns_below HP5.out.2.1 hb6) (And.intro (owns_below HP5.out.2.2.1 hb6) (owns_below HP5.out.2.2.2 hb6))));clear hb6 UN5 HN5 HP5;go_wp2
 have HC:=hid (six_some ⟨c_r0,c_r1,c_r2,c_r3,c_r4,c_r5⟩);exact end_row (W:=w6) (b:=w.heap.size+1+1) [.int .i64 z.seg,.slice b1 z.ws.length j1,.slice b2 z.ks.length j2,.slice b3 z.vs.length j3,.slice b4 z.cs.length j4,.int .u64 z.laid] HC rfl rfl (fun _ h=>results_c rfl rfl (run_loadVar_many _ Tryz.underlying29 rfl xk h)) fun _ s=>⟨_,_,_,_,rfl,s.ow hz1 HP6.out.1,s.ow hz1 HP6.out.2.1,s.ow hz1 HP6.out.2.2.1,s.ow hz1 HP6.out.2.2.2,s.be HB6.out⟩
theorem Gone_even (c:Cfg) (seg:Int) (wa ka va ca:Option Addr) (wc kc vc cc lw n lv lc:Nat) (laid:Int) (H at_ k h:Nat) (t lo hi:Int) (L:List (Int×Int)) (z d:SlC) (hzu:U64s z.ws) (hH:H≤14) (hh:h≤H) (ht0:0≤t+1) (ht1:¬t<0) (ht:t+1=(h:Nat)) (htH:t≠(H:Nat)) (w:World)
    (PL:Hid (∀W,Below w.heap.size w W→Calls Tryz.prog 133 #[.agg #[.int .i64 seg,.slice wa lw wc,.slice ka n kc,.slice va lv vc,.slice ca lc cc,.int .u64 laid],.int .i64 k] W (AnsB W (.int .i64 at_))))
    (EM:Hid (∀W,Below w.heap.size w W→Calls Tryz.prog 122 #[.agg #[.int .i64 seg,.slice wa lw wc,.slice ka n kc,.slice va lv vc,.slice ca lc cc,.int .u64 laid],.int .i64 at_] W (FreshSl W z)))
    (UN:Hid (∀W (zb:SlA),Below w.heap.size w W→SlIn W z zb→Calls Tryz.prog 134 #[.agg #[.int .u8 c.tag,.int .i64 c.most,.int .i64 c.seg,.int .i64 c.least,.int .i64 c.den,.int .i64 c.ll,.int .i64 c.rl,.int .i64 c.rh,.int .i64 c.lh],.agg #[.int .i64 z.seg,.slice zb.wa z.ws.length zb.wc,.slice zb.ka z.ks.length zb.kc,.slice zb.va z.vs.length zb.vc,.slice zb.ca z.cs.length zb.cc,.int .u64 z.laid],.int .i64 at_] W (AnsB W (.int .i64 t))))
    (HT:Hid (∀W,Below w.heap.size w W→Calls Tryz.prog 96 #[.agg #[.int .u8 c.tag,.int .i64 c.most,.int .i64 c.seg,.int .i64 c.least,.int .i64 c.den,.int .i64 c.ll,.int .i64 c.rl,.int .i64 c.rh,.int .i64 c.lh],.int .i64 z.ks.length] W (AnsB W (.int .i64 H))))
    (OW:Hid (∀W,Below w.heap.size w W→Calls Tryz.prog 128 #[.int .i64 c.seg,.int .i64 h,.int .i64 at_] W (AnsB W (.tuple #[.int .i64 lo,.int .i64 hi]))))
    (OF:Hid (∀W (zb:SlA),Below w.heap.size w W→SlIn W z zb→Calls Tryz.prog 52 #[.agg #[.int .i64 z.seg,.slice zb.wa z.ws.length zb.wc,.slice zb.ka z.ks.length zb.kc,.slice zb.va z.vs.length zb.vc,.slice zb.ca z.cs.length zb.cc,.int .u64 z.laid],.int .i64 lo,.int .i64 hi] W (FreshPr W L)))
    (SP:Hid (∀la pl W (zb:SlA),Below w.heap.size w W→SlIn W z zb→CapsZ zb→IsRow .i64 W la (prI L)→Calls Tryz.prog 130 #[.agg #[.int .i64 z.seg,.slice zb.wa z.ws.length zb.wc,.slice zb.ka z.ks.length zb.kc,.slice zb.va z.vs.length zb.vc,.slice zb.ca z.cs.length zb.cc,.int .u64 z.laid],.int .i64 lo,.int .i64 hi,.slice la L.length pl] W (FreshSl W d))):
    Calls Tryz.prog 89 #[.agg #[.int .u8 c.tag,.int .i64 c.most,.int .i64 c.seg,.int .i64 c.least,.int .i64 c.den,.int .i64 c.ll,.int .i64 c.rl,.int .i64 c.rh,.int .i64 c.lh],.agg #[.int .i64 seg,.slice wa lw wc,.slice ka n kc,.slice va lv vc,.slice ca lc cc,.int .u64 laid],.int .i64 k] w (FreshSl w d):=by
 have g1:decide (t<0)=false:=by simpa using ht1
 have g5:(t==(H:Int))=false:=by rw [beq_eq_false_iff_ne];exact htH
 have hw2:IntKind.i64.wrap (t+1)=(h:Int):=by rw [ht];exact IntWalk.i64_in _ xo
 have HZU:=hid hzu;clear hzu ht htH ht0 ht1 hh hH;go_enter Tryz.func89,Tryz.ntmps89
 go_wp2_with fail
 refine (PL.out _ xbel).mono ?_;rintro e w1 ⟨rfl,hb1⟩;have hz_w1:=hb1.size;try simp only [World.size_alloc,World.size_setCell] at hz_w1
 have hh:=bc9 hb1 (au9 (au9 (al9 (b:=w.heap.size) xsi)));obtain ⟨c_m0,c_m1,c_m2,c_m3,c_m4,c_m5,c_m6,c_m7,c_m8⟩:=hh;have z_m:=blt hb1 (auz (auz (alz (b:=w.heap.size) xsi)));have hh:=bc6 hb1 (au6 (al6 (b:=w.heap.size+1) xsi));obtain ⟨c_t0,c_t1,c_t2,c_t3,c_t4,c_t5⟩:=hh;have hh:=bf6 hb1 (auz (alz (b:=w.heap.size+1) xsi)) (auf6 (alz (b:=w.heap.size+1) xsi) (alf6 (b:=w.heap.size+1) xsi));obtain ⟨f_t0,f_t1,f_t2,f_t3,f_t4,f_t5⟩:=hh;have z_t:=blt hb1 (auz (alz (b:=w.heap.size+1) xsi));have hh:=bc6 hb1 (al6 (b:=w.heap.size+1+1) xsi);obtain ⟨c_r0,c_r1,c_r2,c_r3,c_r4,c_r5⟩:=hh;have hh:=bf6 hb1 (alz (b:=w.heap.size+1+1) xsi) (alf6 (b:=w.heap.size+1+1) xsi);obtain ⟨f_r0,f_r1,f_r2,f_r3,f_r4,f_r5⟩:=hh;have z_r:=blt hb1 (alz (b:=w.heap.size+1+1) xsi);have hB1:Below w.heap.size w w1:=xbel;have HB1:=hid hB1;have hz1:w.heap.size+1+1<w1.heap.size:=z_r;clear hb1 hB1;go_wp2_with fail
 refine (EM.out _ HB1.out).mono ?_;rintro e w4 ⟨v1,v2,v3,v4,rfl,p1,p2,p3,p4,hb4⟩;have hz_w4:=hb4.size;simp (disch:=omega) only [xcl hb4,xfr hb4] at *;replace z_m:=blt hb4 z_m;replace z_t:=blt hb4 z_t;replace z_r:=blt hb4 z_r;have HB4:=xv hb4 HB1;obtain ⟨b1,j1,rfl,-,-,y1,-,-⟩:=row_of_owns p1;obtain ⟨b2,j2,rfl,-,-,y2,-,-⟩:=row_of_owns p2;obtain ⟨b3,j3,rfl,-,-,y3,-,-⟩:=row_of_owns p3;obtain ⟨b4,j4,rfl,-,-,y4,-,-⟩:=row_of_owns p4;have HP4:=hid (And.intro p1 (And.intro p2 (And.intro p3 p4)));have HCZ:Hid (CapsZ ⟨b1,b2,b3,b4,j1,j2,j3,j4⟩):=hid ⟨fun q=>(y1 q).2,fun q=>(y2 q).2,fun q=>(y3 q).2,fun q=>(y4 q).2⟩;have hz4:w.heap.size+1+1<w4.heap.size:=z_r;clear hb4 p1 p2 p3 p4 y1 y2 y3 y4;go_upto_region 3 with (fail)
 generalize hw5:((((((w4).setCell _ _).setCell _ _).setCell _ _).setCell _ _).setCell _ _).setCell _ _=w5;have HCS:=six_some ⟨c_t0,c_t1,c_t2,c_t3,c_t4,c_t5⟩;have HES:w5=setCs w4 (w.heap.size+1) 0 [.int .i64 z.seg,.slice b1 z.ws.length j1,.slice b2 z.ks.length j2,.slice b3 z.vs.length j3,.slice b4 z.cs.length j4,.int .u64 z.laid]:=hw5.symm;replace c_t0:=xsA HES HCS 0 rfl;replace c_t1:=xsA HES HCS 1 rfl;replace c_t2:=xsA HES HCS 2 rfl;replace c_t3:=xsA HES HCS 3 rfl;replace c_t4:=xsA HES HCS 4 rfl;replace c_t5:=xsA HES HCS 5 rfl;simp (disch:=omega) only [xsO HES] at c_m0 c_m1 c_m2 c_m3 c_m4 c_m5 c_m6 c_m7 c_m8 c_r0 c_r1 c_r2 c_r3 c_r4 c_r5;simp only [xsF HES] at f_t0 f_t1 f_t2 f_t3 f_t4 f_t5 f_r0 f_r1 f_r2 f_r3 f_r4 f_r5;replace z_m:=xsZ HES z_m;replace z_t:=xsZ HES z_t;replace z_r:=xsZ HES z_r;clear HCS HES;have HB5:Hid (Below w.heap.size w w5):=by rw [←hw5];exact hid (setCs_below (b:=w.heap.size+1) xo [.int .i64 z.seg,.slice b1 z.ws.length j1,.slice b2 z.ks.length j2,.slice b3 z.vs.length j3,.slice b4 z.cs.length j4,.int .u64 z.laid] w4 0 HB4.out)
 have HP5:Hid (w5.ownsRow w1.heap.size 27 1 (.slice b1 z.ws.length j1) z.ws.length (z.ws.map (Value.int .u64))∧w5.ownsRow w1.heap.size 2 1 (.slice b2 z.ks.length j2) z.ks.length (z.ks.map (Value.int .i64))∧w5.ownsRow w1.heap.size 2 1 (.slice b3 z.vs.length j3) z.vs.length (z.vs.map (Value.int .i64))∧w5.ownsRow w1.heap.size 3 1 (.slice b4 z.cs.length j4) z.cs.length (z.cs.map (Value.int .i64))):=by
  rw [←hw5];exact hid ⟨setCs_owns (b:=w.heap.size+1) (i:=0) xo [.int .i64 z.seg,.slice b1 z.ws.length j1,.slice b2 z.ks.length j2,.slice b3 z.vs.length j3,.slice b4 z.cs.length j4,.int .u64 z.laid] HP4.out.1,setCs_owns (b:=w.heap.size+1) (i:=0) xo [.int .i64 z.seg,.slice b1 z.ws.length j1,.slice b2 z.ks.length j2,.slice b3 z.vs.length j3,.slice b4 z.cs.length j4,.int .u64 z.laid] HP4.out.2.1,setCs_owns (b:=w.heap.size+1) (i:=0) xo [.int .i64 z.seg,.slice b1 z.ws.length j1,.slice b2 z.ks.length j2,.slice b3 z.vs.length j3,.slice b4 z.cs.length j4,.int .u64 z.laid] HP4.out.2.2.1,setCs_owns (b:=w.heap.size+1) (i:=0) xo [.int .i64 z.seg,.slice b1 z.ws.length j1,.slice b2 z.ks.length j2,.slice b3 z.vs.length j3,.slice b4 z.cs.length j4,.int .u64 z.laid] HP4.out.2.2.2⟩
 clear hw5 HP4;have HN5:Hid (SlIn w5 z ⟨b1,b2,b3,b4,j1,j2,j3,j4⟩):=hid (by
  obtain ⟨q1,q2,q3,q4⟩:=HP5.out;obtain ⟨_,_,he1,i1,-⟩:=row_of_owns q1;obtain ⟨_,_,he2,i2,-⟩:=row_of_owns q2;obtain ⟨_,_,he3,i3,-⟩:=row_of_owns q3;obtain ⟨_,_,he4,i4,-⟩:=row_of_owns q4;cases he1;cases he2;cases he3;cases he4;exact ⟨i1,i2,i3,i4,HZU.out⟩)
 have UN5:=hid (UN.out w5 ⟨b1,b2,b3,b4,j1,j2,j3,j4⟩ HB5.out HN5.out);go_wp2_with fail
 refine (UN5.out).mono ?_;rintro e w6 ⟨rfl,hb6⟩;have hz_w6:=hb6.size;simp (disch:=omega) only [xcl hb6,xfr hb6] at *;replace z_m:=blt hb6 z_m;replace z_t:=blt hb6 z_t;replace z_r:=blt hb6 z_r;have HB6:=xv hb6 HB5;have HN6:=hid (HN5.out.below hb6);have HP6:=hid (And.intro (owns_below HP5.out.1 hb6) (And.intro (owns_below HP5.out.2.1 hb6) (And.intro (owns_below HP5.out.2.2.1 hb6) (owns_below HP5.out.2.2.2 hb6))));clear hb6 UN5 HN5 HP5;go_wp2_with fail
 refine (HT.out _ HB6.out).mono ?_;rintro e w7 ⟨rfl,hb7⟩;have hz_w7:=hb7.size;simp (disch:=omega) only [xcl hb7,xfr hb7] at *;replace z_m:=blt hb7 z_m;replace z_t:=blt hb7 z_t;replace z_r:=blt hb7 z_r;have HB7:=xv hb7 HB6;have HN7:=hid (HN6.out.below hb7);clear hb7;go_wp2_with fail
 refine (OW.out _ HB7.out).mono ?_;rintro e w8 ⟨rfl,hb8⟩;have hz_w8:=hb8.size;simp (disch:=omega) only [xcl hb8,xfr hb8] at *;replace z_m:=blt hb8 z_m;replace z_t:=blt hb8 z_t;replace z_r:=blt hb8 z_r;have HB8:=xv hb8 HB7;have HN8:=hid (HN7.out.below hb8);have hz8:w.heap.size+1+1<w8.heap.size:=z_r;clear hb8;go_upto_region 12 with (fail)
 refine wp_region_late 8 xk (N:=69) rfl xk xk xdd (fun w'=>Below w8.heap.size w8 w') RB (factRAt [.is (.agg #[.int .i64 z.seg,.slice b1 z.ws.length j1,.slice b2 z.ks.length j2,.slice b3 z.vs.length j3,.slice b4 z.cs.length j4,.int .u64 z.laid]),.is (.int .i64 lo),.is (.int .i64 hi),.is (.agg #[.int .i64 z.seg,.slice b1 z.ws.length j1,.slice b2 z.ks.length j2,.slice b3 z.vs.length j3,.slice b4 z.cs.length j4,.int .u64 z.laid]),.is (.int .i64 lo),.is (.int .i64 hi),prR L,.sl w8.heap.size d]) (factRAt_stays _) br.drew ?steps ?fin
 case steps=>
  refine ⟨?o0,?o1,?o2,?o3,?o4,?o5,?o6,?o7,trivial⟩
  case o0=>
   intro u a w' ev hJ hd K hK;have e4:tg a 4= .pointer (some ⟨w.heap.size+1,0,none⟩):=ev 4 xdd;have g0:=xjc hJ c_t0;have g1:=xjc hJ c_t1;have g2:=xjc hJ c_t2;have g3:=xjc hJ c_t3;have g4:=xjc hJ c_t4;have g5:=xjc hJ c_t5;have HK:=hid hK;clear hK ev hd;go_simp;exact HK.out _ _ xzc hJ rfl br
  case o1=>
   intro u a w' ev hJ hd K hK;have e10:tg a 10= .int .i64 lo:=ev 10 xdd;have HK:=hid hK;clear hK ev hd;go_simp;exact HK.out _ _ xzc hJ rfl br
  case o2=>
   intro u a w' ev hJ hd K hK;have e11:tg a 11= .int .i64 hi:=ev 11 xdd;have HK:=hid hK;clear hK ev hd;go_simp;exact HK.out _ _ xzc hJ rfl br
  case o3=>
   intro u a w' ev hJ hd K hK;have e4:tg a 4= .pointer (some ⟨w.heap.size+1,0,none⟩):=ev 4 xdd;have g0:=xjc hJ c_t0;have g1:=xjc hJ c_t1;have g2:=xjc hJ c_t2;have g3:=xjc hJ c_t3;have g4:=xjc hJ c_t4;have g5:=xjc hJ c_t5;have HK:=hid hK;clear hK ev hd;go_simp;exact HK.out _ _ xzc hJ rfl br
  case o4=>
   intro u a w' ev hJ hd K hK;have e10:tg a 10= .int .i64 lo:=ev 10 xdd;have HK:=hid hK;clear hK ev hd;go_simp;exact HK.out _ _ xzc hJ rfl br
  case o5=>
   intro u a w' ev hJ hd K hK;have e11:tg a 11= .int .i64 hi:=ev 11 xdd;have HK:=hid hK;clear hK ev hd;go_simp;exact HK.out _ _ xzc hJ rfl br
  case o6=>
   intro u a w' ev hJ hd K hK;have e64:tg a 64= .agg #[.int .i64 z.seg,.slice b1 z.ws.length j1,.slice b2 z.ks.length j2,.slice b3 z.vs.length j3,.slice b4 z.cs.length j4,.int .u64 z.laid]:=(ev 64 xdd).trans (hd 3 _ xk rfl);have e65:tg a 65= .int .i64 lo:=(ev 65 xdd).trans (hd 4 _ xk rfl);have e66:tg a 66= .int .i64 hi:=(ev 66 xdd).trans (hd 5 _ xk rfl);have HK:=hid hK;have HC:=hid (OF.out w' ⟨b1,b2,b3,b4,j1,j2,j3,j4⟩ (below_via hJ HB8.out HB8.out.size) (HN8.out.below hJ));have hzJ:=hJ.size;have HJ:=hid hJ;clear hK ev hd hJ;go_simp;refine HC.out.mono ?_;rintro e w'' ⟨v,rfl,ho,hb⟩;exact HK.out _ _ xzc (HJ.out.trans (hb.mono hzJ)) (prR_of ho) hb
  case o7=>
   intro u a w' ev hJ hd K hK;obtain ⟨la,pl,e0,hla,hlz⟩:(prR L).holds (u 67) w':=hd 6 _ xk rfl;have e67:tg a 67= .slice la L.length pl:=(ev 67 xdd).trans e0;have e61:tg a 61= .agg #[.int .i64 z.seg,.slice b1 z.ws.length j1,.slice b2 z.ks.length j2,.slice b3 z.vs.length j3,.slice b4 z.cs.length j4,.int .u64 z.laid]:=(ev 61 xdd).trans (hd 0 _ xk rfl);have e62:tg a 62= .int .i64 lo:=(ev 62 xdd).trans (hd 1 _ xk rfl);have e63:tg a 63= .int .i64 hi:=(ev 63 xdd).trans (hd 2 _ xk rfl);have HK:=hid hK;have HC:=hid (SP.out la pl w' ⟨b1,b2,b3,b4,j1,j2,j3,j4⟩ (below_via hJ HB8.out HB8.out.size) (HN8.out.below hJ) HCZ.out hla);have hzJ:=hJ.size;have HJ:=hid hJ;clear hK ev hd hJ e0 hla hlz;go_simp;refine HC.out.mono ?_;rintro e w'' ⟨v1,v2,v3,v4,rfl,p1,p2,p3,p4,hb⟩;exact HK.out _ _ xzc (HJ.out.trans (hb.mono hzJ)) (⟨v1,v2,v3,v4,rfl,owns_base p1 hzJ,owns_base p2 hzJ,owns_base p3 hzJ,owns_base p4 hzJ⟩) hb
 case fin=>
  intro u w9 hJ hG;obtain ⟨v1,v2,v3,v4,h68,p1,p2,p3,p4⟩:(FactR.sl w8.heap.size d).holds (u 68) w9:=hG 7 _ rfl;have HB9:=xv hJ HB8;have hz_w9:=hJ.size;simp (disch:=omega) only [xcl hJ,xfr hJ] at *;replace z_m:=blt hJ z_m;replace z_t:=blt hJ z_t;replace z_r:=blt hJ z_r;obtain ⟨a1,k1,rfl,-,-,-,-,-⟩:=row_of_owns p1;obtain ⟨a2,k2,rfl,-,-,-,-,-⟩:=row_of_owns p2;obtain ⟨a3,k3,rfl,-,-,-,-,-⟩:=row_of_owns p3;obtain ⟨a4,k4,rfl,-,-,-,-,-⟩:=row_of_owns p4;have HP:=hid (And.intro p1 (And.intro p2 (And.intro p3 p4)));clear p1 p2 p3 p4 hJ hG;simp only [mixFrame,mixL,dstsOf,List.take_succ_cons,List.take_zero,List.filterMap_cons,List.filterMap_nil,List.contains_cons,List.contains_nil,Nat.reduceBEq,Bool.or_false,Bool.false_or,Bool.or_true,Bool.true_or,if_true,if_false,Bool.false_eq_true,Nat.reduceAdd,Nat.zero_add,List.drop_succ_cons,List.drop_zero,h68];go_wp2
  have HC:=hid (six_some ⟨c_r0,c_r1,c_r2,c_r3,c_r4,c_r5⟩);exact end_row (W:=w9) (b:=w.heap.size+1+1) [.int .i64 d.seg,.slice a1 d.ws.length k1,.slice a2 d.ks.length k2,.slice a3 d.vs.length k3,.slice a4 d.cs.length k4,.int .u64 d.laid] HC rfl rfl (fun _ h=>results_c rfl rfl (run_loadVar_many _ Tryz.underlying29 rfl xk h)) fun _ s=>⟨_,_,_,_,rfl,s.ow hz8 HP.out.1,s.ow hz8 HP.out.2.1,s.ow hz8 HP.out.2.2.1,s.ow hz8 HP.out.2.2.2,s.be HB9.out⟩
theorem Gone_wide (c:Cfg) (seg:Int) (wa ka va ca:Option Addr) (wc kc vc cc lw n lv lc:Nat) (laid:Int) (a H at_ k m:Nat) (t:Int) (L:List (Int×Int)) (z d:SlC) (hzu:U64s z.ws) (hk:CapC c z.ks.length a H) (hm:m≤z.ks.length) (ht:t=(H:Nat)) (w:World)
    (PL:Hid (∀W,Below w.heap.size w W→Calls Tryz.prog 133 #[.agg #[.int .i64 seg,.slice wa lw wc,.slice ka n kc,.slice va lv vc,.slice ca lc cc,.int .u64 laid],.int .i64 k] W (AnsB W (.int .i64 at_))))
    (EM:Hid (∀W,Below w.heap.size w W→Calls Tryz.prog 122 #[.agg #[.int .i64 seg,.slice wa lw wc,.slice ka n kc,.slice va lv vc,.slice ca lc cc,.int .u64 laid],.int .i64 at_] W (FreshSl W z)))
    (UN:Hid (∀W (zb:SlA),Below w.heap.size w W→SlIn W z zb→Calls Tryz.prog 134 #[.agg #[.int .u8 c.tag,.int .i64 c.most,.int .i64 c.seg,.int .i64 c.least,.int .i64 c.den,.int .i64 c.ll,.int .i64 c.rl,.int .i64 c.rh,.int .i64 c.lh],.agg #[.int .i64 z.seg,.slice zb.wa z.ws.length zb.wc,.slice zb.ka z.ks.length zb.kc,.slice zb.va z.vs.length zb.vc,.slice zb.ca z.cs.length zb.cc,.int .u64 z.laid],.int .i64 at_] W (AnsB W (.int .i64 t))))
    (HT:Hid (∀W,Below w.heap.size w W→Calls Tryz.prog 96 #[.agg #[.int .u8 c.tag,.int .i64 c.most,.int .i64 c.seg,.int .i64 c.least,.int .i64 c.den,.int .i64 c.ll,.int .i64 c.rl,.int .i64 c.rh,.int .i64 c.lh],.int .i64 z.ks.length] W (AnsB W (.int .i64 H))))
    (MA:Hid (∀W (zb:SlA),Below w.heap.size w W→SlIn W z zb→Calls Tryz.prog 107 #[.agg #[.int .i64 z.seg,.slice zb.wa z.ws.length zb.wc,.slice zb.ka z.ks.length zb.kc,.slice zb.va z.vs.length zb.vc,.slice zb.ca z.cs.length zb.cc,.int .u64 z.laid]] W (AnsB W (.int .i64 m))))
    (OF:Hid (∀W (zb:SlA),Below w.heap.size w W→SlIn W z zb→Calls Tryz.prog 52 #[.agg #[.int .i64 z.seg,.slice zb.wa z.ws.length zb.wc,.slice zb.ka z.ks.length zb.kc,.slice zb.va z.vs.length zb.vc,.slice zb.ca z.cs.length zb.cc,.int .u64 z.laid],.int .i64 0,.int .i64 z.ks.length] W (FreshPr W L)))
    (WI:Hid (∀la pl W (zb:SlA),Below w.heap.size w W→SlIn W z zb→IsRow .i64 W la (prI L)→Calls Tryz.prog 127 #[.agg #[.int .i64 z.seg,.slice zb.wa z.ws.length zb.wc,.slice zb.ka z.ks.length zb.kc,.slice zb.va z.vs.length zb.vc,.slice zb.ca z.cs.length zb.cc,.int .u64 z.laid],.int .i64 (narF c m 20 z.ks.length),.slice la L.length pl] W (FreshSl W d))):
    Calls Tryz.prog 89 #[.agg #[.int .u8 c.tag,.int .i64 c.most,.int .i64 c.seg,.int .i64 c.least,.int .i64 c.den,.int .i64 c.ll,.int .i64 c.rl,.int .i64 c.rh,.int .i64 c.lh],.agg #[.int .i64 seg,.slice wa lw wc,.slice ka n kc,.slice va lv vc,.slice ca lc cc,.int .u64 laid],.int .i64 k] w (FreshSl w d):=by
 have g1:decide (t<0)=false:=by rw [ht];simp
 have g5:((H:Int)==(H:Int))=true:=by simp
 have HZU:=hid hzu;have HK:=hid hk;have HM:=hid hm;subst ht;clear hzu hk hm;go_enter Tryz.func89,Tryz.ntmps89
 go_wp2_with fail
 refine (PL.out _ xbel).mono ?_;rintro e w1 ⟨rfl,hb1⟩;have hz_w1:=hb1.size;try simp only [World.size_alloc,World.size_setCell] at hz_w1
 have hh:=bc9 hb1 (au9 (au9 (al9 (b:=w.heap.size) xsi)));obtain ⟨c_m0,c_m1,c_m2,c_m3,c_m4,c_m5,c_m6,c_m7,c_m8⟩:=hh;have z_m:=blt hb1 (auz (auz (alz (b:=w.heap.size) xsi)));have hh:=bc6 hb1 (au6 (al6 (b:=w.heap.size+1) xsi));obtain ⟨c_t0,c_t1,c_t2,c_t3,c_t4,c_t5⟩:=hh;have hh:=bf6 hb1 (auz (alz (b:=w.heap.size+1) xsi)) (auf6 (alz (b:=w.heap.size+1) xsi) (alf6 (b:=w.heap.size+1) xsi));obtain ⟨f_t0,f_t1,f_t2,f_t3,f_t4,f_t5⟩:=hh;have z_t:=blt hb1 (auz (alz (b:=w.heap.size+1) xsi));have hh:=bc6 hb1 (al6 (b:=w.heap.size+1+1) xsi);obtain ⟨c_r0,c_r1,c_r2,c_r3,c_r4,c_r5⟩:=hh;have hh:=bf6 hb1 (alz (b:=w.heap.size+1+1) xsi) (alf6 (b:=w.heap.size+1+1) xsi);obtain ⟨f_r0,f_r1,f_r2,f_r3,f_r4,f_r5⟩:=hh;have z_r:=blt hb1 (alz (b:=w.heap.size+1+1) xsi);have hB1:Below w.heap.size w w1:=xbel;have HB1:=hid hB1;have hz1:w.heap.size+1+1<w1.heap.size:=z_r;clear hb1 hB1;go_wp2_with fail
 refine (EM.out _ HB1.out).mono ?_;rintro e w4 ⟨v1,v2,v3,v4,rfl,p1,p2,p3,p4,hb4⟩;have hz_w4:=hb4.size;simp (disch:=omega) only [xcl hb4,xfr hb4] at c_m0 c_m1 c_m2 c_m3 c_m4 c_m5 c_m6 c_m7 c_m8 c_t0 c_t1 c_t2 c_t3 c_t4 c_t5 c_r0 c_r1 c_r2 c_r3 c_r4 c_r5 f_t0 f_t1 f_t2 f_t3 f_t4 f_t5 f_r0 f_r1 f_r2 f_r3 f_r4 f_r5;replace z_m:=blt hb4 z_m;replace z_t:=blt hb4 z_t;replace z_r:=blt hb4 z_r;have HB4:=xv hb4 HB1;obtain ⟨b1,j1,rfl,-,-,y1,-,-⟩:=row_of_owns p1;obtain ⟨b2,j2,rfl,-,-,y2,-,-⟩:=row_of_owns p2;obtain ⟨b3,j3,rfl,-,-,y3,-,-⟩:=row_of_owns p3;obtain ⟨b4,j4,rfl,-,-,y4,-,-⟩:=row_of_owns p4;have HP4:=hid (And.intro p1 (And.intro p2 (And.intro p3 p4)));have HCZ:Hid (CapsZ ⟨b1,b2,b3,b4,j1,j2,j3,j4⟩):=hid ⟨fun q=>(y1 q).2,fun q=>(y2 q).2,fun q=>(y3 q).2,fun q=>(y4 q).2⟩;have hz4:w.heap.size+1+1<w4.heap.size:=z_r;clear hb4 p1 p2 p3 p4 y1 y2 y3 y4;go_upto_region 3 with (fail)
 generalize hw5:((((((w4).setCell _ _).setCell _ _).setCell _ _).setCell _ _).setCell _ _).setCell _ _=w5;have HCS:=six_some ⟨c_t0,c_t1,c_t2,c_t3,c_t4,c_t5⟩;have HES:w5=setCs w4 (w.heap.size+1) 0 [.int .i64 z.seg,.slice b1 z.ws.length j1,.slice b2 z.ks.length j2,.slice b3 z.vs.length j3,.slice b4 z.cs.length j4,.int .u64 z.laid]:=hw5.symm;replace c_t0:=xsA HES HCS 0 rfl;replace c_t1:=xsA HES HCS 1 rfl;replace c_t2:=xsA HES HCS 2 rfl;replace c_t3:=xsA HES HCS 3 rfl;replace c_t4:=xsA HES HCS 4 rfl;replace c_t5:=xsA HES HCS 5 rfl;simp (disch:=omega) only [xsO HES] at c_m0 c_m1 c_m2 c_m3 c_m4 c_m5 c_m6 c_m7 c_m8 c_r0 c_r1 c_r2 c_r3 c_r4 c_r5;simp only [xsF HES] at f_t0 f_t1 f_t2 f_t3 f_t4 f_t5 f_r0 f_r1 f_r2 f_r3 f_r4 f_r5;replace z_m:=xsZ HES z_m;replace z_t:=xsZ HES z_t;replace z_r:=xsZ HES z_r;clear HCS HES;have HB5:Hid (Below w.heap.size w w5):=by rw [←hw5];exact hid (setCs_below (b:=w.heap.size+1) xo [.int .i64 z.seg,.slice b1 z.ws.length j1,.slice b2 z.ks.length j2,.slice b3 z.vs.length j3,.slice b4 z.cs.length j4,.int .u64 z.laid] w4 0 HB4.out)
 have HP5:Hid (w5.ownsRow w1.heap.size 27 1 (.slice b1 z.ws.length j1) z.ws.length (z.ws.map (Value.int .u64))∧w5.ownsRow w1.heap.size 2 1 (.slice b2 z.ks.length j2) z.ks.length (z.ks.map (Value.int .i64))∧w5.ownsRow w1.heap.size 2 1 (.slice b3 z.vs.length j3) z.vs.length (z.vs.map (Value.int .i64))∧w5.ownsRow w1.heap.size 3 1 (.slice b4 z.cs.length j4) z.cs.length (z.cs.map (Value.int .i64))):=by
  rw [←hw5];exact hid ⟨setCs_owns (b:=w.heap.size+1) (i:=0) xo [.int .i64 z.seg,.slice b1 z.ws.length j1,.slice b2 z.ks.length j2,.slice b3 z.vs.length j3,.slice b4 z.cs.length j4,.int .u64 z.laid] HP4.out.1,setCs_owns (b:=w.heap.size+1) (i:=0) xo [.int .i64 z.seg,.slice b1 z.ws.length j1,.slice b2 z.ks.length j2,.slice b3 z.vs.length j3,.slice b4 z.cs.length j4,.int .u64 z.laid] HP4.out.2.1,setCs_owns (b:=w.heap.size+1) (i:=0) xo [.int .i64 z.seg,.slice b1 z.ws.length j1,.slice b2 z.ks.length j2,.slice b3 z.vs.length j3,.slice b4 z.cs.length j4,.int .u64 z.laid] HP4.out.2.2.1,setCs_owns (b:=w.heap.size+1) (i:=0) xo [.int .i64 z.seg,.slice b1 z.ws.length j1,.slice b2 z.ks.length j2,.slice b3 z.vs.length j3,.slice b4 z.cs.length j4,.int .u64 z.laid] HP4.out.2.2.2⟩
 clear hw5 HP4;have HN5:Hid (SlIn w5 z ⟨b1,b2,b3,b4,j1,j2,j3,j4⟩):=hid (by
  obtain ⟨q1,q2,q3,q4⟩:=HP5.out;obtain ⟨_,_,he1,i1,-⟩:=row_of_owns q1;obtain ⟨_,_,he2,i2,-⟩:=row_of_owns q2;obtain ⟨_,_,he3,i3,-⟩:=row_of_owns q3;obtain ⟨_,_,he4,i4,-⟩:=row_of_owns q4;cases he1;cases he2;cases he3;cases he4;exact ⟨i1,i2,i3,i4,HZU.out⟩)
 have UN5:=hid (UN.out w5 ⟨b1,b2,b3,b4,j1,j2,j3,j4⟩ HB5.out HN5.out);go_wp2_with fail
 refine (UN5.out).mono ?_;rintro e w6 ⟨rfl,hb6⟩;have hz_w6:=hb6.size;simp (disch:=omega) only [xcl hb6,xfr hb6] at c_m0 c_m1 c_m2 c_m3 c_m4 c_m5 c_m6 c_m7 c_m8 c_t0 c_t1 c_t2 c_t3 c_t4 c_t5 c_r0 c_r1 c_r2 c_r3 c_r4 c_r5 f_t0 f_t1 f_t2 f_t3 f_t4 f_t5 f_r0 f_r1 f_r2 f_r3 f_r4 f_r5;replace z_m:=blt hb6 z_m;replace z_t:=blt hb6 z_t;replace z_r:=blt hb6 z_r;have HB6:=xv hb6 HB5;have HN6:=hid (HN5.out.below hb6);have HP6:=hid (And.intro (owns_below HP5.out.1 hb6) (And.intro (owns_below HP5.out.2.1 hb6) (And.intro (owns_below HP5.out.2.2.1 hb6) (owns_below HP5.out.2.2.2 hb6))));clear hb6 UN5 HN5 HP5;go_wp2_with fail
 refine (HT.out _ HB6.out).mono ?_;rintro e w7 ⟨rfl,hb7⟩;have hz_w7:=hb7.size;simp (disch:=omega) only [xcl hb7,xfr hb7] at c_m0 c_m1 c_m2 c_m3 c_m4 c_m5 c_m6 c_m7 c_m8 c_t0 c_t1 c_t2 c_t3 c_t4 c_t5 c_r0 c_r1 c_r2 c_r3 c_r4 c_r5 f_t0 f_t1 f_t2 f_t3 f_t4 f_t5 f_r0 f_r1 f_r2 f_r3 f_r4 f_r5;replace z_m:=blt hb7 z_m;replace z_t:=blt hb7 z_t;replace z_r:=blt hb7 z_r;have HB7:=xv hb7 HB6;have HN7:=hid (HN6.out.below hb7);have hz7:w.heap.size+1+1<w7.heap.size:=z_r;clear hb7 HP6;go_wp2
 go_loopg [9] 20 (fun gk sv wr=>∃(sz:Int) (H':Nat),H'<gk∧sv= .int .i64 sz∧CapC c sz a H'∧(m:Int)≤sz∧Hid (narF c m 20 z.ks.length=narF c m gk sz)∧Hid (Below w7.heap.size w7 wr))
 case atStart=>exact ⟨z.ks.length,H,by have:=HK.out.h14;omega,rfl,HK.out,by have:=HM.out;omega,hid rfl,hid br⟩
 case round=>
  obtain ⟨sz,H',hg,rfl,k',hmz,HNA,HBL⟩:=hrel;obtain ⟨g,rfl⟩:∃g,gk=g+1:=⟨gk-1,by omega⟩
  have hbr:=HBL.out;have hz_wr:=hbr.size;simp (disch:=omega) only [xcl hbr,xfr hbr] at c_m0 c_m1 c_m2 c_m3 c_m4 c_m5 c_m6 c_m7 c_m8 c_t0 c_t1 c_t2 c_t3 c_t4 c_t5 c_r0 c_r1 c_r2 c_r3 c_r4 c_r5 f_t0 f_t1 f_t2 f_t3 f_t4 f_t5 f_r0 f_r1 f_r2 f_r3 f_r4 f_r5;replace z_m:=blt hbr z_m;replace z_t:=blt hbr z_t;replace z_r:=blt hbr z_r;have HBr:=xv hbr HB7;have HNr:=hid (HN7.out.below hbr);have hall:=k'.all;have hbig:=k'.big;have hs1:1≤c.seg:=by rw [k'.seg];have:=Nat.two_pow_pos a;omega
  have HTr:=hid (fun W=>Height05_ok c sz xo xo hs1 W);rw [k'.hgt] at HTr;have NFr:=hid (fun W=>NotFew05_ok c sz a H' H' k' (Nat.le_refl _) (m:Int) xo xo W);have hw1:sz.tdiv 2=sz/2:=Int.tdiv_eq_ediv_of_nonneg xo;have hw2:IntKind.i64.wrap (sz/2)=sz/2:=IntWalk.i64_in _ xo;have hst:Hid (sprB c sz H' H' m=false→∃H2,H2<g∧CapC c (sz/2) a H2∧(m:Int)≤sz/2):=hid fun hs=>by
   obtain ⟨H2,rfl,k2,h8⟩:=nar_step k' hs;exact ⟨H2,by omega,k2,by omega⟩
  have hn1:Hid (sprB c sz H' H' m=true→narF c m (g+1) sz=sz):=hid fun hs=>by rw [narF,k'.hgt,if_pos hs]
  have hn2:Hid (sprB c sz H' H' m=false→narF c m (g+1) sz=narF c m g (sz/2)):=hid fun hs=>by rw [narF,k'.hgt,if_neg (by rw [hs];decide)]
  generalize sprB c sz H' H' m=b at *;clear hbr k' hall hbig hg hs1;go_upto_region 8 with (fail)
  have K0:=hid (fun d os=>kr wr d os (HTr.out _));have K1:=hid (fun d os=>kr wr d os (MA.out _ ⟨b1,b2,b3,b4,j1,j2,j3,j4⟩ (below_via (below_regrown wr d os) HBr.out HBr.out.size) (HNr.out.below (below_regrown wr d os))));have K2:=hid (fun d os=>kr wr d os (NFr.out _));have q0:=cg c_m0;have q1:=cg c_m1;have q2:=cg c_m2;have q3:=cg c_m3;have q4:=cg c_m4;have q5:=cg c_m5;have q6:=cg c_m6;have q7:=cg c_m7;have q8:=cg c_m8;have q9:=cg c_t0;have q10:=cg c_t1;have q11:=cg c_t2;have q12:=cg c_t3;have q13:=cg c_t4;have q14:=cg c_t5;refine wp_region_quiet_below xk xk ?_;repeat (go_big_quiet_step (first|with_reducible exact K0.out _ _|with_reducible exact K1.out _ _|with_reducible exact K2.out _ _|exact K0.out _ _|exact K1.out _ _|exact K2.out _ _))
  refine wpQuiet_nil ?_;intro _ hw';obtain ⟨⟨dq,osq⟩,hw''⟩:=hw';subst hw'';have hbq:=below_regrown wr dq osq;clear q0 q1 q2 q3 q4 q5 q6 q7 q8 q9 q10 q11 q12 q13 q14 K0 K1 K2;generalize Sort.grow (redrawn wr dq) osq=w8 at *;have HB8:=xv hbq HBr;have HN8:=hid (HNr.out.below hbq);have HC8:=xv hbq HBL;have hz_w8:=hbq.size;simp (disch:=omega) only [xcl hbq,xfr hbq] at c_m0 c_m1 c_m2 c_m3 c_m4 c_m5 c_m6 c_m7 c_m8 c_t0 c_t1 c_t2 c_t3 c_t4 c_t5 c_r0 c_r1 c_r2 c_r3 c_r4 c_r5 f_t0 f_t1 f_t2 f_t3 f_t4 f_t5 f_r0 f_r1 f_r2 f_r3 f_r4 f_r5;replace z_m:=blt hbq z_m;replace z_t:=blt hbq z_t;replace z_r:=blt hbq z_r;have hz8:w.heap.size+1+1<w8.heap.size:=z_r;clear hbq HTr NFr HBr HNr HBL;cases b with
  | true=>
   have HV:=hid (HNA.out.trans (hn1.out rfl));rw [HV.out] at WI;clear hn1 hn2 hst HNA HV;go_upto_region 10 with (fail)
   refine wp_region_late 8 xk (N:=69) rfl xk xk xdd (fun w'=>Below w8.heap.size w8 w') RB (factRAt [.is (.agg #[.int .i64 z.seg,.slice b1 z.ws.length j1,.slice b2 z.ks.length j2,.slice b3 z.vs.length j3,.slice b4 z.cs.length j4,.int .u64 z.laid]),.is (.int .i64 sz),.is (.agg #[.int .i64 z.seg,.slice b1 z.ws.length j1,.slice b2 z.ks.length j2,.slice b3 z.vs.length j3,.slice b4 z.cs.length j4,.int .u64 z.laid]),.is (.pointer (some ⟨w.heap.size+1,2,none⟩)),.is (.slice b2 z.ks.length j2),.is (.int .i64 z.ks.length),prR L,.sl w8.heap.size d]) (factRAt_stays _) br.drew ?steps ?fin
   case steps=>
    refine ⟨?o0,?o1,?o2,?o3,?o4,?o5,?o6,?o7,trivial⟩
    case o0=>
     intro u a w' ev hJ hd K hK;have e4:tg a 4= .pointer (some ⟨w.heap.size+1,0,none⟩):=ev 4 xdd;have g0:=xjc hJ c_t0;have g1:=xjc hJ c_t1;have g2:=xjc hJ c_t2;have g3:=xjc hJ c_t3;have g4:=xjc hJ c_t4;have g5:=xjc hJ c_t5;have HK:=hid hK;clear hK ev hd;go_simp;exact HK.out _ _ xzc hJ rfl br
    case o1=>
     intro u a w' ev hJ hd K hK;have e9:tg a 9= .int .i64 sz:=ev 9 xdd;have HK:=hid hK;clear hK ev hd;go_simp;exact HK.out _ _ xzc hJ rfl br
    case o2=>
     intro u a w' ev hJ hd K hK;have e4:tg a 4= .pointer (some ⟨w.heap.size+1,0,none⟩):=ev 4 xdd;have g0:=xjc hJ c_t0;have g1:=xjc hJ c_t1;have g2:=xjc hJ c_t2;have g3:=xjc hJ c_t3;have g4:=xjc hJ c_t4;have g5:=xjc hJ c_t5;have HK:=hid hK;clear hK ev hd;go_simp;exact HK.out _ _ xzc hJ rfl br
    case o3=>
     intro u a w' ev hJ hd K hK;have e4:tg a 4= .pointer (some ⟨w.heap.size+1,0,none⟩):=ev 4 xdd;have HK:=hid hK;clear hK ev hd;go_simp;exact HK.out _ _ xzc hJ rfl br
    case o4=>
     intro u a w' ev hJ hd K hK;have e47:tg a 47= .pointer (some ⟨w.heap.size+1,2,none⟩):=(ev 47 xdd).trans (hd 3 _ xk rfl);have g0:=xjc hJ c_t2;have HK:=hid hK;clear hK ev hd;go_simp;exact HK.out _ _ xzc hJ rfl br
    case o5=>
     intro u a w' ev hJ hd K hK;have e48:tg a 48= .slice b2 z.ks.length j2:=(ev 48 xdd).trans (hd 4 _ xk rfl);have HK:=hid hK;clear hK ev hd;go_simp;exact HK.out _ _ xzc hJ rfl br
    case o6=>
     intro u a w' ev hJ hd K hK;have e46:tg a 46= .agg #[.int .i64 z.seg,.slice b1 z.ws.length j1,.slice b2 z.ks.length j2,.slice b3 z.vs.length j3,.slice b4 z.cs.length j4,.int .u64 z.laid]:=(ev 46 xdd).trans (hd 2 _ xk rfl);have e49:tg a 49= .int .i64 z.ks.length:=(ev 49 xdd).trans (hd 5 _ xk rfl);have HK:=hid hK;have HC:=hid (OF.out w' ⟨b1,b2,b3,b4,j1,j2,j3,j4⟩ (below_via hJ HB8.out HB8.out.size) (HN8.out.below hJ));have hzJ:=hJ.size;have HJ:=hid hJ;clear hK ev hd hJ;go_simp;refine HC.out.mono ?_;rintro e w'' ⟨v,rfl,ho,hb⟩;exact HK.out _ _ xzc (HJ.out.trans (hb.mono hzJ)) (prR_of ho) hb
    case o7=>
     intro u a w' ev hJ hd K hK;obtain ⟨la,pl,e0,hla,hlz⟩:(prR L).holds (u 50) w':=hd 6 _ xk rfl;have e50:tg a 50= .slice la L.length pl:=(ev 50 xdd).trans e0;have e44:tg a 44= .agg #[.int .i64 z.seg,.slice b1 z.ws.length j1,.slice b2 z.ks.length j2,.slice b3 z.vs.length j3,.slice b4 z.cs.length j4,.int .u64 z.laid]:=(ev 44 xdd).trans (hd 0 _ xk rfl);have e45:tg a 45= .int .i64 sz:=(ev 45 xdd).trans (hd 1 _ xk rfl);have HK:=hid hK;have HC:=hid (WI.out la pl w' ⟨b1,b2,b3,b4,j1,j2,j3,j4⟩ (below_via hJ HB8.out HB8.out.size) (HN8.out.below hJ) hla);have hzJ:=hJ.size;have HJ:=hid hJ;clear hK ev hd hJ e0 hla hlz;go_simp;refine HC.out.mono ?_;rintro e w'' ⟨v1,v2,v3,v4,rfl,p1,p2,p3,p4,hb⟩;exact HK.out _ _ xzc (HJ.out.trans (hb.mono hzJ)) (⟨v1,v2,v3,v4,rfl,owns_base p1 hzJ,owns_base p2 hzJ,owns_base p3 hzJ,owns_base p4 hzJ⟩) hb
   case fin=>
    intro u w9 hJ hG;obtain ⟨v1,v2,v3,v4,h51,p1,p2,p3,p4⟩:(FactR.sl w8.heap.size d).holds (u 51) w9:=hG 7 _ rfl;have HB9:=xv hJ HB8;have hz_w9:=hJ.size;simp (disch:=omega) only [xcl hJ,xfr hJ] at c_m0 c_m1 c_m2 c_m3 c_m4 c_m5 c_m6 c_m7 c_m8 c_t0 c_t1 c_t2 c_t3 c_t4 c_t5 c_r0 c_r1 c_r2 c_r3 c_r4 c_r5 f_t0 f_t1 f_t2 f_t3 f_t4 f_t5 f_r0 f_r1 f_r2 f_r3 f_r4 f_r5;replace z_m:=blt hJ z_m;replace z_t:=blt hJ z_t;replace z_r:=blt hJ z_r;obtain ⟨a1,k1,rfl,-,-,-,-,-⟩:=row_of_owns p1;obtain ⟨a2,k2,rfl,-,-,-,-,-⟩:=row_of_owns p2;obtain ⟨a3,k3,rfl,-,-,-,-,-⟩:=row_of_owns p3;obtain ⟨a4,k4,rfl,-,-,-,-,-⟩:=row_of_owns p4;have HP:=hid (And.intro p1 (And.intro p2 (And.intro p3 p4)));clear p1 p2 p3 p4 hJ hG;simp only [mixFrame,mixL,dstsOf,List.take_succ_cons,List.take_zero,List.filterMap_cons,List.filterMap_nil,List.contains_cons,List.contains_nil,Nat.reduceBEq,Bool.or_false,Bool.false_or,Bool.or_true,Bool.true_or,if_true,if_false,Bool.false_eq_true,Nat.reduceAdd,Nat.zero_add,List.drop_succ_cons,List.drop_zero,h51];go_wp2
    have HC:=hid (six_some ⟨c_r0,c_r1,c_r2,c_r3,c_r4,c_r5⟩);exact end_row (W:=w9) (b:=w.heap.size+1+1) [.int .i64 d.seg,.slice a1 d.ws.length k1,.slice a2 d.ks.length k2,.slice a3 d.vs.length k3,.slice a4 d.cs.length k4,.int .u64 d.laid] HC rfl rfl (fun _ h=>results_c rfl rfl (run_loadVar_many _ Tryz.underlying29 rfl xk h)) fun _ s=>⟨_,_,_,_,rfl,s.ow hz8 HP.out.1,s.ow hz8 HP.out.2.1,s.ow hz8 HP.out.2.2.1,s.ow hz8 HP.out.2.2.2,s.be HB9.out⟩
  | false=>
   obtain ⟨H2,q1,q2,q3⟩:=hst.out rfl;have HQ:=hid q2;have HV:=hid (HNA.out.trans (hn2.out rfl));clear q2 hn1 hn2 hst;go_wp2
   go_roundg g
   case measure=>omega
   case rel=>exact ⟨sz/2,H2,q1,by first|rfl|rw [hw2],HQ.out,q3,HV,HC8⟩
end
end Go.Proofs.YtmnlagmmbfjbeaaGreatDoor

/- Merged: PutW, PutL, ApFull, InvEff, PutK, Amg8, With. -/
import Derived.Test.YtjhpblejlchhjaaGreatDoorOmMovesP13
import Derived.Test.YtjhpblejlchhjaaGreatDoorOmMovesP6
import Derived.Test.YtjhpblejlchhjaaGreatDoorOmMovesP10
import Derived.Test.YtjhpblejlchhjaaGreatDoorOmMovesP7
import Derived.Test.YtjhpblejlchhjaaGreatDoorOmMovesP5
import Derived.Test.YtjhpblejlchhjaaGreatDoorOmMovesP1
import Derived.Test.YtjhpblejlchhjaaGreatDoorOmMovesP12
import Derived.Test.YtjhpblejlchhjaaGreatDoorOmMovesP11
namespace Go.Proofs.YtjhpblejlchhjaaGreatDoor
set_option maxRecDepth 100000
set_option maxHeartbeats 40000000
set_option linter.unusedVariables false
set_option linter.unusedSimpArgs false
section
open Go.RowKit Go.Shelf Go.Sort
theorem home_ok (seg:Int) (wa ka va ca:Option Addr) (wc kc vc cc lw n lv lc:Nat) (laid:Int) (k at_:Nat) (e:Int) (hk:k≤65536) (w:World) (NT:Hid (∀W,Below w.heap.size w W→Calls Tryz.prog 69 #[.slice wa lw wc,.int .i64 n,.int .i64 ((k-1:Nat):Int)] W (AnsB W (.tuple #[.int .i64 at_,.int .i64 e])))):
    Calls Tryz.prog 99 #[.agg #[.int .i64 seg,.slice wa lw wc,.slice ka n kc,.slice va lv vc,.slice ca lc cc,.int .u64 laid],.int .i64 k] w (AnsB w (.int .i64 at_)):=by
 rcases Nat.eq_zero_or_pos k with rfl|hk0
 · rw [show ((0-1:Nat):Int)=0 from rfl] at NT;clear hk;go_enter Tryz.func99,Tryz.ntmps99
   go_wp2_with fail
   refine (NT.out _ xbel).mono ?_;rintro e w1 ⟨rfl,hb1⟩;have hz_w1:=hb1.size;try simp only [World.size_alloc,World.size_setCell] at hz_w1
   have hh:=bc6 hb1 (al6 (b:=w.heap.size) xsi);obtain ⟨c_t0,c_t1,c_t2,c_t3,c_t4,c_t5⟩:=hh;have z_t:=blt hb1 (alz (b:=w.heap.size) xsi);have hB1:Below w.heap.size w w1:=xbel;go_wp2
   go_ret
   exact ⟨rfl,hB1⟩
 · have hw1:IntKind.i64.wrap ((k:Int)-1)=((k-1:Nat):Int):=by rw [show (k:Int)-1=((k-1:Nat):Int) by omega];exact IntWalk.i64_in _ xo
   have hlt:¬(((k-1:Nat):Int)<0):=xo;have hld:decide (((k-1:Nat):Int)<0)=false:=by simp
   have hgt:decide ((0:Int)<((k-1:Nat):Int))=decide ((0:Int)<((k-1:Nat):Int)):=rfl;clear hgt;go_enter Tryz.func99,Tryz.ntmps99
   go_wp2_with fail
   refine (NT.out _ xbel).mono ?_;rintro e w1 ⟨rfl,hb1⟩;have hz_w1:=hb1.size;try simp only [World.size_alloc,World.size_setCell] at hz_w1
   have hh:=bc6 hb1 (al6 (b:=w.heap.size) xsi);obtain ⟨c_t0,c_t1,c_t2,c_t3,c_t4,c_t5⟩:=hh;have z_t:=blt hb1 (alz (b:=w.heap.size) xsi);have hB1:Below w.heap.size w w1:=xbel;go_wp2
   go_ret
   exact ⟨rfl,hB1⟩
theorem putIs_ok (c:Cfg) (size:Int) (h:Nat) (n:Int) (f:Bool) (x:Int) (b1 b2:Nat) (hn:0≤n∧n≤65536) (w:World)
    (c_m0:w.cell? ⟨b1,0,none⟩=some (.int .u8 c.tag))
    (c_m1:w.cell? ⟨b1,1,none⟩=some (.int .i64 c.most))
    (c_m2:w.cell? ⟨b1,2,none⟩=some (.int .i64 c.seg))
    (c_m3:w.cell? ⟨b1,3,none⟩=some (.int .i64 c.least))
    (c_m4:w.cell? ⟨b1,4,none⟩=some (.int .i64 c.den))
    (c_m5:w.cell? ⟨b1,5,none⟩=some (.int .i64 c.ll))
    (c_m6:w.cell? ⟨b1,6,none⟩=some (.int .i64 c.rl))
    (c_m7:w.cell? ⟨b1,7,none⟩=some (.int .i64 c.rh))
    (c_m8:w.cell? ⟨b1,8,none⟩=some (.int .i64 c.lh))
    (c_s0:w.cell? ⟨b2,0,none⟩=some (.int .i64 size))
    (FU:Hid (∀W,Below w.heap.size w W→Calls Tryz.prog 91 #[.agg #[.int .u8 c.tag,.int .i64 c.most,.int .i64 c.seg,.int .i64 c.least,.int .i64 c.den,.int .i64 c.ll,.int .i64 c.rl,.int .i64 c.rh,.int .i64 c.lh],.int .i64 size,.int .i64 h,.int .i64 (n+1)] W (AnsB W (.tuple #[.bool f,.int .i64 x])))):
    Calls Tryz.prog 98 #[.int .i64 h,.int .i64 n,.pointer (some ⟨b1,0,none⟩),.pointer (some ⟨b2,0,none⟩)] w (AnsB w (.bool !f)):=by
 have hw1:IntKind.i64.wrap (n+1)=n+1:=IntWalk.i64_in _ xo;go_enter Tryz.func98,Tryz.ntmps98
 go_wp2_with fail
 refine (FU.out _ xbel).mono ?_;rintro e w1 ⟨rfl,hb1⟩;go_wp2
 go_ret
 exact ⟨rfl,hb1⟩
theorem takeIs_ok (c:Cfg) (seg:Int) (wa ka va ca:Option Addr) (wc kc vc cc lw n lv lc:Nat) (laid:Int) (h:Nat) (m:Int) (f:Bool) (x:Int) (b1 b2:Nat) (w:World)
    (c_m0:w.cell? ⟨b1,0,none⟩=some (.int .u8 c.tag))
    (c_m1:w.cell? ⟨b1,1,none⟩=some (.int .i64 c.most))
    (c_m2:w.cell? ⟨b1,2,none⟩=some (.int .i64 c.seg))
    (c_m3:w.cell? ⟨b1,3,none⟩=some (.int .i64 c.least))
    (c_m4:w.cell? ⟨b1,4,none⟩=some (.int .i64 c.den))
    (c_m5:w.cell? ⟨b1,5,none⟩=some (.int .i64 c.ll))
    (c_m6:w.cell? ⟨b1,6,none⟩=some (.int .i64 c.rl))
    (c_m7:w.cell? ⟨b1,7,none⟩=some (.int .i64 c.rh))
    (c_m8:w.cell? ⟨b1,8,none⟩=some (.int .i64 c.lh))
    (c_s0:w.cell? ⟨b2,0,none⟩=some (.int .i64 seg))
    (c_s1:w.cell? ⟨b2,1,none⟩=some (.slice wa lw wc))
    (c_s2:w.cell? ⟨b2,2,none⟩=some (.slice ka n kc))
    (c_s3:w.cell? ⟨b2,3,none⟩=some (.slice va lv vc))
    (c_s4:w.cell? ⟨b2,4,none⟩=some (.slice ca lc cc))
    (c_s5:w.cell? ⟨b2,5,none⟩=some (.int .u64 laid))
    (FU:Hid (∀W,Below w.heap.size w W→Calls Tryz.prog 72 #[.agg #[.int .u8 c.tag,.int .i64 c.most,.int .i64 c.seg,.int .i64 c.least,.int .i64 c.den,.int .i64 c.ll,.int .i64 c.rl,.int .i64 c.rh,.int .i64 c.lh],.int .i64 n,.int .i64 h,.int .i64 m] W (AnsB W (.tuple #[.bool f,.int .i64 x])))):
    Calls Tryz.prog 71 #[.int .i64 h,.int .i64 m,.pointer (some ⟨b1,0,none⟩),.pointer (some ⟨b2,0,none⟩)] w (AnsB w (.bool !f)):=by
 go_enter Tryz.func71,Tryz.ntmps71
 go_wp2_with fail
 refine (FU.out _ xbel).mono ?_;rintro e w1 ⟨rfl,hb1⟩;go_wp2
 go_ret
 exact ⟨rfl,hb1⟩
def HighR (w:World) (a at_ H:Nat) (t:Int) (e:Ending) (w':World):Prop:=
  ∃v,e= .returned (.tuple #[.int .i64 t,v])∧w'.ownsRow w.heap.size 122 2 v (H+1) ((prI (winsL a at_ (H+1))).map (Value.int .i64))∧Below w.heap.size w w'
theorem highest_ok (seg:Int) (wa ka va ca:Option Addr) (wc kc vc cc lw n lv lc:Nat) (laid:Int) (a H at_:Nat) (hH:H≤14) (p:Nat→Bool) (m:Nat→Int) (gf:FuncId) (lb:Array Value) (eg:∀args w,(callFunc gf args).run Tryz.prog w= .ok (.enter gf args) w) (w:World)
    (PA:Hid (∀W,Below w.heap.size w W→Calls Tryz.prog 125 #[.int .i64 seg,.int .i64 n,.int .i64 at_] W (FreshW2 W (winsL a at_ (H+1)) (.int .i64 0))))
    (AM:Hid (∀h,h≤H→∀W,Below w.heap.size w W→Calls Tryz.prog 68 #[.agg #[.int .i64 seg,.slice wa lw wc,.slice ka n kc,.slice va lv vc,.slice ca lc cc,.int .u64 laid],.int .i64 ((wnd a h at_*2^(a+h):Nat):Int),.int .i64 (((wnd a h at_*2^(a+h):Nat):Int)+((2^(a+h):Nat):Int))] W (AnsB W (.int .i64 (m h)))))
    (IS:Hid (∀h:Nat,h≤H→∀W,Below w.heap.size w W→Calls Tryz.prog gf (#[.int .i64 h,.int .i64 (m h)]++lb) W (AnsB W (.bool (p h))))):
    Calls Tryz.prog 73 #[.agg #[.int .i64 seg,.slice wa lw wc,.slice ka n kc,.slice va lv vc,.slice ca lc cc,.int .u64 laid],.int .i64 at_,.func (.func gf) #[] lb] w (HighR w a at_ H (topI p (H+1))):=by
 have HWL:=hid (winsL_length a at_ (H+1));have HWG:=hid (fun i (h:i<H+1)=>winsL_get (a:=a) (at_:=at_) h);go_enter Tryz.func73,Tryz.ntmps73
 go_wp2
 refine wp_scope_loop 0 (fun _ _ _=>False) rfl (fun _ _ _ h=>h.elim) ?_;intro HQ hHQ hpass;clear hHQ hpass;go_wp2_with fail
 refine (PA.out _ xbel).mono ?_;rintro e w1 ⟨v1,rfl,ho1,hb1⟩;have hz_w1:=hb1.size;try simp only [World.size_alloc,World.size_setCell] at hz_w1
 have hh:=bc6 hb1 (al6 (b:=w.heap.size) xsi);obtain ⟨c_t0,c_t1,c_t2,c_t3,c_t4,c_t5⟩:=hh;have z_t:=blt hb1 (alz (b:=w.heap.size) xsi);have hB1:Below w.heap.size w w1:=xbel;have HB1:=hid hB1;have hz1:=hB1.size;obtain ⟨ra,rc,rfl,hi1,-,-,hrc,-⟩:=row_of_owns ho1;rw [HWL.out] at hrc ho1 ⊢;have hw1:IntKind.i64.wrap (((H+1:Nat):Int)-1)=((H+1:Nat):Int)-1:=IntWalk.i64_in _ xo;have HR1:=hid hi1;have HO1:=hid ho1;clear hb1 hB1 hi1 ho1;go_wp2
 refine wp_label ?_;go_wp2
 go_loopg [10] (H+1) (fun gk iv wr=>gk≤H+1∧iv= .int .i64 ((gk:Int)-1)∧Hid (topI p (H+1)=topI p gk)∧Hid (Below w1.heap.size w1 wr))
 case atStart=>exact ⟨Nat.le_refl _,by congr 1;omega,hid rfl,hid br⟩
 case round=>
  obtain ⟨hg,rfl,HT,HB⟩:=hrel;rcases Nat.eq_zero_or_pos gk with rfl|hg0
  · have d1:decide ((0:Int)≤((0:Nat):Int)-1)=false:=by decide
    have HB2:=hid (below_via HB.out HB1.out hz1);have HO2:=hid (owns_base (base':=w.heap.size) (owns_below HO1.out HB.out) (by first|omega|(simp;done)));have HV:=hid (HT.out.trans (topI_zero p));go_wp2
    simp only [Exit.jump];go_ret2
    exact ⟨_,by rw [HV.out];rfl,HO2.out,HB2.out⟩
  · obtain ⟨h,rfl⟩:∃h,gk=h+1:=⟨gk-1,by omega⟩
    have e1:(((h+1:Nat):Int)-1)=(h:Int):=xo;rw [e1];have hbr:=HB.out;have hz_wr:=hbr.size;simp (disch:=omega) only [xcl hbr] at c_t0 c_t1 c_t2 c_t3 c_t4 c_t5;replace z_t:=blt hbr z_t;have HB2:=hid (below_via hbr HB1.out hz1);have HO2:=hid (owns_base (base':=w.heap.size) (owns_below HO1.out hbr) (by first|omega|(simp;done)));have hpr:=prI_get (l:=winsL a at_ (H+1)) (i:=h) (by rw [HWL.out];omega);rw [HWG.out h xo] at hpr;obtain ⟨pb,po,x,y,rfl,hx,hy,hc0,hc1,-⟩:=(HR1.out.below hbr).get2 (i:=h) (by rw [prI_length,HWL.out];omega);have ex:((wnd a h at_*2^(a+h):Nat):Int)=x:=by rw [←hx.out,hpr.1]
    have ey:((wnd a h at_*2^(a+h):Nat):Int)+((2^(a+h):Nat):Int)=y:=by rw [←hy.out,hpr.2]
    have hhH:h≤H:=xo;have AM2:=hid (AM.out h hhH);have IS2:=hid (IS.out h hhH);have TY:=hid (fun (q:p h=true)=>topI_yes q);have TN:=hid (fun (q:p h=false)=>topI_no q);have hsub:IntKind.i64.wrap ((h:Int)-1)=(h:Int)-1:=IntWalk.i64_in _ xo;rw [ey,ex] at AM2;generalize m h=mh at *;generalize p h=ph at *;clear hpr hx hy ex ey e1 hbr;go_upto_region 5 with (fail)
    have K0:=hid (fun d os=>kr wr d os (AM2.out _ (below_via (below_regrown wr d os) HB2.out HB2.out.size)));have K1:=hid (fun d os=>kr wr d os (IS2.out _ (below_via (below_regrown wr d os) HB2.out HB2.out.size)));have q0:=cg c_t0;have q1:=cg c_t1;have q2:=cg c_t2;have q3:=cg c_t3;have q4:=cg c_t4;have q5:=cg c_t5;have q6:=cg hc0;have q7:=cg hc1;refine wp_region_quiet_below xk xk ?_;repeat (go_big_quiet_step (first|with_reducible exact K0.out _ _|with_reducible exact K1.out _ _|exact K0.out _ _|exact K1.out _ _))
    refine wpQuiet_nil ?_;intro _ hw';obtain ⟨⟨dq,osq⟩,hw''⟩:=hw';subst hw'';have hbq:=below_regrown wr dq osq;clear q0 q1 q2 q3 q4 q5 q6 q7 K0 K1;generalize Sort.grow (redrawn wr dq) osq=wx at *;have HB4:=xv hbq HB2;have HC4:=xv hbq HB;have HO4:=hid (owns_below HO2.out hbq);clear hbq;cases ph with
    | true=>
     have HV:=hid (HT.out.trans (TY.out rfl));clear TY TN;go_wp2
     simp only [Exit.jump];go_ret2
     exact ⟨_,by rw [HV.out];rfl,HO4.out,HB4.out⟩
    | false=>
     have HV:=hid (HT.out.trans (TN.out rfl));clear TY TN;go_wp2
     go_roundg h
     case measure=>omega
     case rel=>exact ⟨by omega,by first|rfl|rw [hsub]|go_num,HV,HC4⟩
end
section
open Go.RowKit Go.Shelf Go.Sort
theorem Even_core (seg:Int) (wa ka va ca:Option Addr) (wc kc vc cc lw n lv lc:Nat) (laid:Int) (lo hi:Int) (L:List (Int×Int)) (d:SlC) (w:World)
    (PR:Hid (∀W,Below w.heap.size w W→Calls Tryz.prog 49 #[.agg #[.int .i64 seg,.slice wa lw wc,.slice ka n kc,.slice va lv vc,.slice ca lc cc,.int .u64 laid],.int .i64 lo,.int .i64 hi] W (FreshPr2 W L (.int .i64 0))))
    (OV:Hid (∀la pl W,Below w.heap.size w W→IsRow .i64 W la (prI L)→Calls Tryz.prog 126 #[.agg #[.int .i64 seg,.slice wa lw wc,.slice ka n kc,.slice va lv vc,.slice ca lc cc,.int .u64 laid],.int .i64 lo,.int .i64 hi,.slice la L.length pl] W (FreshSl2 W d (.int .i64 0)))):
    Calls Tryz.prog 76 #[.agg #[.int .i64 seg,.slice wa lw wc,.slice ka n kc,.slice va lv vc,.slice ca lc cc,.int .u64 laid],.int .i64 lo,.int .i64 hi] w (FreshSl2 w d (.int .i64 0)):=by
 go_enter Tryz.func76,Tryz.ntmps76
 go_wp2_with fail
 refine (PR.out _ xbel).mono ?_;rintro e w1 ⟨v,rfl,ho1,hb1⟩;have hz_w1:=hb1.size;try simp only [World.size_alloc,World.size_setCell] at hz_w1
 have hh:=bc6 hb1 (au6 (al6 (b:=w.heap.size) xsi));obtain ⟨c_t0,c_t1,c_t2,c_t3,c_t4,c_t5⟩:=hh;have z_t:=blt hb1 (auz (alz (b:=w.heap.size) xsi));have hh:=bc6 hb1 (al6 (b:=w.heap.size+1) xsi);obtain ⟨c_r0,c_r1,c_r2,c_r3,c_r4,c_r5⟩:=hh;have hh:=bf6 hb1 (alz (b:=w.heap.size+1) xsi) (alf6 (b:=w.heap.size+1) xsi);obtain ⟨f_r0,f_r1,f_r2,f_r3,f_r4,f_r5⟩:=hh;have z_r:=blt hb1 (alz (b:=w.heap.size+1) xsi);have hB1:Below w.heap.size w w1:=xbel;have hza:=z_r;obtain ⟨la,pl,rfl,hi1,-,-,-,-⟩:=row_of_owns ho1;have OV1:=hid (OV.out la pl w1 hB1 hi1);have HB1:=hid hB1;clear hb1 hB1 ho1 hi1;go_wp2_with fail
 refine (OV1.out).mono ?_;rintro e w2 ⟨v1,v2,v3,v4,rfl,p1,p2,p3,p4,hb2⟩;have hz_w2:=hb2.size;simp (disch:=omega) only [xcl hb2,xfr hb2] at *;replace z_t:=blt hb2 z_t;replace z_r:=blt hb2 z_r;have hB2:=below_via hb2 HB1.out HB1.out.size;obtain ⟨a1,k1,rfl,-,-,-,-,-⟩:=row_of_owns p1;obtain ⟨a2,k2,rfl,-,-,-,-,-⟩:=row_of_owns p2;obtain ⟨a3,k3,rfl,-,-,-,-,-⟩:=row_of_owns p3;obtain ⟨a4,k4,rfl,-,-,-,-,-⟩:=row_of_owns p4;have HP:=hid (And.intro p1 (And.intro p2 (And.intro p3 p4)));clear p1 p2 p3 p4 hb2;have hz1:w.heap.size+1<w1.heap.size:=hza;go_wp2
 have HC:=hid (six_some ⟨c_r0,c_r1,c_r2,c_r3,c_r4,c_r5⟩);exact end_row (W:=w2) (b:=w.heap.size+1) [.int .i64 d.seg,.slice a1 d.ws.length k1,.slice a2 d.ks.length k2,.slice a3 d.vs.length k3,.slice a4 d.cs.length k4,.int .u64 d.laid] HC rfl rfl (fun _ h=>results_ct rfl rfl (run_loadVar_many _ Tryz.underlying29 rfl xk h)) fun _ s=>⟨_,_,_,_,rfl,s.ow hz1 HP.out.1,s.ow hz1 HP.out.2.1,s.ow hz1 HP.out.2.2.1,s.ow hz1 HP.out.2.2.2,s.be hB2⟩
end
section
open Go.RowKit
section
variable {P:Program}
theorem run_append_full (w:World) (base:Nat) (t ty e:TypeId) (z:Value) (size bytes:Nat) (ht:P.underlying t=some (.slice e))
    (hinfo:(P.info? e).map (fun i=>(i.zero,i.size,i.bytes))=some (some z,size,bytes)) (hzs:z.cells.size=size) (hsz:0<size)
    (bo:Option Addr) (n:Nat) (xs:List Value) (hlo:xs.length=n*size) (hb0:bo=none→n=0) (holds:∀b,bo=some b→∀j u,xs[j]? =some u→w.cell? (b.add j)=some u)
    (ad:Addr) (m c:Nat) (news:List Value) (hl:news.length=m*size) (hnews:∀j u,news[j]? =some u→w.cell? (ad.add j)=some u) (h1:∀u ∈ news,u.oneCell'=true)
    (hm:0<m) (h63:n+m≤4294967296) (hbytes:bytes≤1024) (hbase:base≤w.heap.size):
    ∃ v' w',(Builtin.append_ #[t,t] ty #[.slice bo n n,.slice (some ad) m c]).run P w= .ok v' w'∧w'.ownsRow base e size v' (n+m) (xs++news)∧w.grownBy w' none∧
      (∀k,v'.ownBlock=some k→w.heap.size≤k):=by
 have hm1:n+m≤maxLen:=by unfold maxLen;omega
 have hm2:(n+m)*bytes≤140737488355328:=Nat.le_trans (Nat.mul_le_mul h63 hbytes) xdd;cases bo with
 | none=>
  obtain rfl:=hb0 rfl;have hx:xs=[]:=List.eq_nil_of_length_eq_zero (by simpa using hlo);subst hx;obtain ⟨v',w',hr,ho,hg,hv⟩:=run_append_x (P:=P) w base t ty e z size bytes ht hinfo hzs hsz (.slice none 0 0) 0 [] (World.ownsRow_nil w _ e size) (some ad) m c news hl xzc (fun a h=>by cases h;exact hnews) h1 h63 hbytes hbase;refine ⟨v',w',hr,ho,hg,?_⟩;intro k hk;rcases hv with hv|hv
  · rw [hk] at hv;cases hv
  · exact hv k hk
 | some b=>
  obtain ⟨i,hi,hz,hs,hb⟩:=info_parts hinfo;have hr:=run_append_grow (P:=P) w t ty e i z ht hi hz b n n xs (by rw [hs];exact hlo) (holds b rfl) ad m c news (by rw [hs];exact hl) hnews xo xo (growslice_fits xo (by rw [hb];exact hm2));have hge:=grownCap_ge w (n+m) n e;have hcm:grownCap w (n+m) n e≤maxLen:=grownCap_le_maxLen w (n+m) n e hm1;have hlen:(xs++news).length=(n+m)*size:=by rw [List.length_append,hlo,hl,Nat.add_mul]
  refine ⟨_,_,hr,⟨hlen,.inr ⟨w.heap.size,_,_,rfl,hbase,heap_alloc_new w.drew _,hge,hcm,?_,?_⟩⟩,⟨rfl,rfl,rfl,by simp,fun k hk _=>heap_alloc_old w.drew _ hk⟩,fun k hk=>by cases hk;exact Nat.le_refl _⟩
  · simp only [Array.size_append,List.size_toArray,size_zeroCells,hzs,hlo,hl,←Nat.add_mul];congr 1
    omega
  · simp only [Array.toList_append,List.append_assoc];rw [←List.append_assoc,←hlen];exact List.take_left
end
end
section
open Go.RowKit
section
variable {P:Program} {ops:Array Oper} {Q:Exit→Act→World→Prop}
def OpsOkE (P:Program) (ops:Array Oper) (Q:Exit→Act→World→Prop) (D:List Nat) (t0:Array Value) (n:Nat) (ds:List Deferred) (J:World→Prop) (Ext:Nat→World→World→Prop) (G:Nat→(Nat→Value)→World→Prop):Nat→List Oper→Prop
  | _,[]=>True
  | k,o::rest=>OpOkR P ops Q D t0 n ds J (Ext k) G k o∧OpsOkE P ops Q D t0 n ds J Ext G (k+1) rest
theorem OpsOkE.at {D:List Nat} {t0:Array Value} {n:Nat} {ds:List Deferred} {J:World→Prop} {Ext:Nat→World→World→Prop} {G:Nat→(Nat→Value)→World→Prop}:∀ {l:List Oper} {k:Nat},OpsOkE P ops Q D t0 n ds J Ext G k l→∀ {i:Nat} {o:Oper},l[i]? =some o→OpOkR P ops Q D t0 n ds J (Ext (k+i)) G (k+i) o
  | [],_,_,i,o,ho=>by simp at ho
  | x::rest,k,h,0,o,ho=>by simp at ho;subst ho;exact h.1
  | x::rest,k,h,i+1,o,ho=>by
   have:=OpsOkE.at h.2 (i:=i) (o:=o) (by simpa using ho);rwa [Nat.add_assoc,Nat.add_comm 1 i] at this
theorem wp_region_eff {id:Nat} {l:List Oper} {t0:Array Value} {ds:List Deferred} {w0:World} {N:Nat} (n:Nat) (hm:P.follows .mixedOrders=true) (hn:t0.size=N) (hB:regionL (l.take n) N=true) (hT:tailL l n=true) (hle:n≤l.length)
    (J:World→Prop) (Ext:Nat→World→World→Prop) (G:Nat→(Nat→Value)→World→Prop) (hst:∀i k x w w',k≠i→Ext i w w'→G k x w→G k x w') (hdep:∀(k:Nat) (u u':Nat→Value) (w:World),(∀(j:Nat) (p o:Oper),l[j]? =some p→l[k]? =some o→(j=k∨(o.after.any fun e=>Region.binds .any e&&e.on==j)=true)→valOf u' p=valOf u p)→G k u w→G k u' w) (hJ:J w0.drew)
    (hop:OpsOkE P l.toArray Q (dstsOf (l.take n)) t0 N ds J Ext G 0 (l.take n))
    (hdone:∀(u:Nat→Value) (w:World),J w→(∀(k:Nat) (o:Oper),(l.take n)[k]? =some o→G k u w)→wpList P l.toArray Q (l.drop n) {tmps:=mixFrame (dstsOf (l.take n)) u t0,defers:=ds} w):
    (Code.region id l.toArray true).wp P Q {tmps:=t0,defers:=ds} w0:=by
 subst hn;simp only [regionL,Bool.and_eq_true,List.all_eq_true,decide_eq_true_eq] at hB;obtain ⟨⟨⟨hnd,hlt⟩,hgd⟩,hac⟩:=hB;simp only [tailL,List.all_eq_true,List.mem_range,Bool.or_eq_true,decide_eq_true_eq] at hT;have htk:∀ {k:Nat} {o:Oper},(l.take n)[k]? =some o↔k<n∧l[k]? =some o:=by
  intro k o;rw [List.getElem?_take];by_cases h:k<n
  · rw [if_pos h];exact ⟨fun h1=>⟨h,h1⟩,fun h1=>h1.2⟩
  · rw [if_neg h];exact ⟨fun h1=>(by cases h1),fun h1=>absurd h1.1 h⟩
 refine wp_region_any hm (wpAny_invL (ops:=l.toArray)
   (fun L a w=>((∀i,n≤i→L.getD i false=false)∧∃u:Nat→Value,a= {tmps:=mixFrame (dstsOf (l.take n)) u t0,defers:=ds}∧J w∧∀(k:Nat) (o:Oper),(l.take n)[k]? =some o→L.getD k false=true→G k u w) ∨
     (∃m,n≤m∧m≤l.length∧(∀i,i<m→L.getD i false=true)∧(∀i,m≤i→L.getD i false=false)∧wpList P l.toArray Q (l.drop m) a w))
   ?_ ?_ ?_ _ _ _ _ xsi (leftOf_le _ _) (fun j p hp hj=>by simp [Array.getD] at hj) (.inl ⟨fun i _=>by rw [List.size_toArray];simp [Array.getD],fun t=>t0.getD t undef,by rw [mixFrame_start],hJ,fun k o _ h=> ?_⟩))
 · intro i o ho e he hb;have hi:i<l.length:=(Array.getElem?_eq_some_iff.1 ho).1;rw [List.getElem?_toArray] at ho;by_cases hin:i<n
   · have h1:(l.take n)[i]? =some o:=htk.2 ⟨hin,ho⟩;have:=hac i (List.mem_range.2 (List.getElem?_eq_some_iff.1 h1).1);rw [h1] at this;have h2:=Array.all_eq_true_iff_forall_mem.1 this e he;rw [hb] at h2;simpa using h2
   · have h1:=hT i hi;rcases h1 with h1|h1
     · omega
     · rw [ho] at h1;simp only [Bool.and_eq_true] at h1;have h2:=Array.all_eq_true_iff_forall_mem.1 h1.2 e he;rw [hb] at h2;simpa using h2
 · rintro L a w i o hs ho hi hall hcl hI;rw [List.getElem?_toArray] at ho;have hil:i<l.length:=(List.getElem?_eq_some_iff.1 ho).1;have hilt:i<L.size:=by rw [hs];simpa using hil
   have ahead:n≤i→∀j,j<i→L.getD j false=true:=by
    intro hin j hj;have h1:=hT i hil;rcases h1 with h1|h1
    · omega
    · simp only [Bool.and_eq_true,decide_eq_true_eq] at h1;have hbit:((masksOf l []).getD i 0).testBit j=true:=by
       have h2:=congrArg (fun m=>Nat.testBit m j) h1.1;simp only [Nat.testBit_mod_two_pow,Nat.testBit_two_pow_sub_one,decide_eq_true hj,Bool.true_and] at h2;exact h2
      exact masks_sound hcl l [] 0 rfl (fun j=>by rw [Nat.zero_add]) (fun i hi=>by omega) i o ho hall j hbit
   have later:∀(m:Nat),n≤m→m=i→(∀j,m≤j→L.getD j false=false)→(∀j,j<m→L.getD j false=true)→wpList P l.toArray Q (l.drop m) a w→
       wpOp P l.toArray Q i (fun a' w'=>((∀k,n≤k→(L.setIfInBounds i true).getD k false=false)∧∃u:Nat→Value,a'= {tmps:=mixFrame (dstsOf (l.take n)) u t0,defers:=ds}∧J w'∧∀(k:Nat) (o:Oper),(l.take n)[k]? =some o→(L.setIfInBounds i true).getD k false=true→G k u w') ∨
         (∃m,n≤m∧m≤l.length∧(∀k,k<m→(L.setIfInBounds i true).getD k false=true)∧(∀k,m≤k→(L.setIfInBounds i true).getD k false=false)∧wpList P l.toArray Q (l.drop m) a' w')) a w:=by
    rintro m hnm rfl hno hyes hw;refine wpOp_mono (fun a' w' h=> .inr ⟨m+1,by omega,by omega,fun k hk=> ?_,fun k hk=> ?_,h⟩) (wpOp_of_list ho hw)
    · by_cases e:k=m
      · subst e;exact set_same hilt
      · rw [set_else e];exact hyes k xo
    · rw [set_else xo];exact hno k xo
   rcases hI with ⟨hno,u,rfl,hJw,hG⟩ | ⟨m,hnm,hml,hyes,hno,hw⟩
   · by_cases hin:i<n
     · have htki:(l.take n)[i]? =some o:=htk.2 ⟨hin,ho⟩;have hok:=hop.at htki;rw [Nat.zero_add] at hok;have hg:o.guard=none:=by
        have:=hgd o (List.mem_of_getElem? htki);cases hx:o.guard with
        | none=>rfl
        | some x=>rw [hx] at this;cases this
       unfold wpOp;simp only [List.getElem?_toArray,ho];rw [if_pos (by simp [Region.wanted,hg])];left;refine hok u _ w (fun t ht=>mixFrame_get ht) hJw (fun j p hj hp=> ?_) _ (fun v w' hv hJ' hG' hE=> .inl ⟨fun k hk=>by rw [set_else xo];exact hno k hk,?_⟩)
       · rw [List.getElem?_toArray] at hp;obtain ⟨e,he,hbe⟩:=Array.any_eq_true.1 hj;simp only [Bool.and_eq_true,beq_iff_eq] at hbe;have hl:=hall _ (Array.getElem_mem he) hbe.1;rw [hbe.2] at hl;have hjn:j<n:=by
          by_cases h:j<n
          · exact h
          · rw [hno j xo] at hl;cases hl
         exact hG j p (htk.2 ⟨hjn,hp⟩) hl
       · cases hd:o.dst with
         | none=>
          refine ⟨u,rfl,hJ',fun k p hp hk=> ?_⟩;by_cases e:k=i
          · subst e;have:=hG';unfold updR at this;rw [hd] at this;exact this
          · rw [set_else e] at hk;exact hst _ _ _ _ _ e hE (hG k p hp hk)
         | some d=>
          have hdm:(dstsOf (l.take n)).contains d=true:=by
           simp only [List.contains_iff_mem];exact List.mem_filterMap.2 ⟨o,List.mem_of_getElem? htki,hd⟩
          refine ⟨fun t=>if t=d then v else u t,by simp only [Act.put,mixFrame_put hdm],hJ',fun k p hp hk=> ?_⟩;by_cases e:k=i
          · subst e;have:=hG';unfold updR at this;rw [hd] at this;exact this
          · rw [set_else e] at hk;refine hst _ _ _ _ _ e hE (hdep k u _ w (fun j p' o' hj ho' hor=> ?_) (hG k p hp hk));have hjl:L.getD j false=true:=by
             rcases hor with rfl|hor
             · exact hk
             · obtain ⟨e',he',hbe⟩:=Array.any_eq_true.1 hor;simp only [Bool.and_eq_true,beq_iff_eq] at hbe;have:=hcl k o' (by rw [List.getElem?_toArray];exact ho') hk _ (Array.getElem_mem he') hbe.1;rw [hbe.2] at this;exact this
            have hji:j≠i:=fun h=>by rw [h,hi] at hjl;cases hjl
            have hjn:j<n:=by
             by_cases h:j<n
             · exact h
             · rw [hno j xo] at hjl;cases hjl
            have hne:=nodup_slot hnd htki (htk.2 ⟨hjn,hj⟩) (fun h=>hji h.symm) hd;unfold valOf;cases hpd:p'.dst with
            | none=>rfl
            | some d'=>exact if_neg (fun h=>hne (by rw [hpd,h]))
     · have hin':n=i:=by
         by_cases e:n=i
         · exact e
         · have:=ahead xo n xo;rw [hno n (Nat.le_refl _)] at this;cases this
       refine later n (Nat.le_refl _) hin' hno (fun j hj=>ahead xo j xo) (hdone u w hJw fun k p hp=>hG k p hp (ahead xo k ?_));have:=(htk.1 hp).1;omega
   · have him:m≤i:=by
       by_cases h:m≤i
       · exact h
       · have:=hyes i xo;rw [hi] at this;cases this
     have hmi:m=i:=by
      by_cases e:m=i
      · exact e
      · have:=ahead xo m xo;rw [hno m (Nat.le_refl _)] at this;cases this
     exact later m hnm hmi hno hyes hw
 · rintro L a w hs hall hI;rw [List.size_toArray] at hall;rcases hI with ⟨hno,u,rfl,hJw,hG⟩ | ⟨m,hnm,hml,hyes,hno,hw⟩
   · have hnl:n=l.length:=by
       by_cases e:n=l.length
       · exact e
       · have:=hall n xo;rw [hno n (Nat.le_refl _)] at this;cases this
     have hq:=hdone u w hJw fun k p hp=>hG k p hp (hall k (by have:=(htk.1 hp).1;omega))
     have hd:l.drop n=[]:=by rw [hnl];exact List.drop_length
     rw [hd] at hq;exact hq
   · have hml':m=l.length:=by
       by_cases e:m=l.length
       · exact e
       · have:=hall m xo;rw [hno m (Nat.le_refl _)] at this;cases this
     rw [hml',List.drop_length] at hw;exact hw
 · rw [List.size_toArray] at h;simp [Array.getD] at h
end
end
section
open Go.RowKit
theorem prI_take (L:List (Int×Int)):∀k,prI (L.take k)=(prI L).take (k*2):=by
 induction L with
 | nil=>intro k;simp [prI]
 | cons x L ih=>
  intro k;cases k with
  | zero=>simp [prI]
  | succ k=>
   have:=ih k;rw [List.take_succ_cons,show (k+1)*2=k*2+1+1 by omega];simp only [prI,List.flatMap_cons,List.cons_append,List.nil_append,List.take_succ_cons] at this ⊢;rw [this]
theorem prI_drop (L:List (Int×Int)):∀k,prI (L.drop k)=(prI L).drop (k*2):=by
 induction L with
 | nil=>intro k;simp [prI]
 | cons x L ih=>
  intro k;cases k with
  | zero=>simp [prI]
  | succ k=>
   have:=ih k;rw [List.drop_succ_cons,show (k+1)*2=k*2+1+1 by omega];simp only [prI,List.flatMap_cons,List.cons_append,List.nil_append,List.drop_succ_cons] at this ⊢;rw [this]
section
variable {P:Program}
theorem wp_scope_fwd {c B:Code} (l:Nat) {Q:Exit→Act→World→Prop} {a:Act} {w:World} (hf:findLabel c l=some (.seq .skip B))
    (h:c.wp P (Exit.jump l (fun a w=>B.wp P (Exit.jump l (fun _ _=>False) Q) a w) Q) a w):(Code.scope c).wp P Q a w:=by
 refine wp_scope_loop l (fun _ a w=>B.wp P (Exit.jump l (fun _ _=>False) Q) a w) hf ?_ ?_
 · intro n a w h H _;refine Code.wp_mono ?_ h;intro e a' w' q;cases e<;>simp only [Exit.jump] at q ⊢ <;> first|exact q|skip
   exact q.2.elim
 · intro H hJ _;refine Code.wp_mono ?_ h;intro e a' w' q;cases e<;>simp only [Exit.jump] at q ⊢ <;> first|exact q|skip
   exact ⟨q.1,hJ 0 _ _ q.2⟩
theorem exec_slice_from {o:Oper} {a:Act} {w:World} (t e:TypeId) (x y:Operand) (size:Nat) (ao:Option Addr) (m pl k:Nat) (ho:o.op= .slice t x (some y) none none)
    (ht:P.underlying t=some (.slice e)) (hs:(P.info? e).map (·.size)=some size) (hx:a.eval x= .slice ao m pl) (hy:a.eval y= .int .i64 k) (hk:k≤m) (hm:m≤pl):
    (execOp a.eval o).run P w= .ok (.value (.slice (if pl=k then ao else ao.map (·.add (k*size))) (m-k) (pl-k))) w:=by
 obtain ⟨i,hi,rfl⟩:=Option.map_eq_some_iff.1 hs;unfold execOp;simp [ho,hx,hy,Instr.sliceAt,Instr.slice,Instr.sliceBounds,Instr.sliceBound,asIntOf,run_underlying ht,sizeOf,typeInfo,hi,hk,hm]
theorem exec_slice_full {o:Oper} {a:Act} {w:World} (t e:TypeId) (x y z:Operand) (size:Nat) (ao:Option Addr) (m pl k:Nat) (ho:o.op= .slice t x none (some y) (some z))
    (ht:P.underlying t=some (.slice e)) (hs:(P.info? e).map (·.size)=some size) (hx:a.eval x= .slice ao m pl) (hy:a.eval y= .int .i64 k) (hz:a.eval z= .int .i64 k) (hk:k≤pl):
    (execOp a.eval o).run P w= .ok (.value (.slice ao k k)) w:=by
 obtain ⟨i,hi,rfl⟩:=Option.map_eq_some_iff.1 hs;have e:∀ad:Addr,ad.add 0=ad:=fun ad=>by cases ad;rfl
 unfold execOp;simp [ho,hx,hy,hz,Instr.sliceAt,Instr.slice,Instr.sliceBounds,Instr.sliceBound,asIntOf,run_underlying ht,sizeOf,typeInfo,hi,hk,e]
theorem exec_slice_from2 {o:Oper} {a:Act} {w:World} (t e:TypeId) (x y:Operand) (size:Nat) (ao:Option Addr) (m pl k:Nat) (da:Option Addr) (hda:(if pl=k then ao else ao.map (·.add (k*size)))=da) (ho:o.op= .slice t x (some y) none none)
    (ht:P.underlying t=some (.slice e)) (hs:(P.info? e).map (·.size)=some size) (hx:a.eval x= .slice ao m pl) (hy:a.eval y= .int .i64 k) (hk:k≤m) (hm:m≤pl):
    (execOp a.eval o).run P w= .ok (.value (.slice da (m-k) (pl-k))) w:=by
 rw [←hda];exact exec_slice_from t e x y size ao m pl k ho ht hs hx hy hk hm
theorem wp_value {o:Oper} {a:Act} {w w':World} {v:Value} {K:Act→World→Prop} {Q:Exit→Act→World→Prop} (h:(execOp a.eval o).run P w= .ok (.value v) w') (hk:K (a.put o.dst v) w'):Oper.wp P o a w K Q:=by
 unfold Oper.wp;simp only [h];exact hk
theorem wp_slice_from {w:World} {o:Oper} {a:Act} {K:Act→World→Prop} {Q:Exit→Act→World→Prop} (t e:TypeId) (x y:Operand) (size:Nat) (ao:Option Addr) (m pl k:Nat) (da:Option Addr) (hda:(if pl=k then ao else ao.map (·.add (k*size)))=da) (ho:o.op= .slice t x (some y) none none) (ht:P.underlying t=some (.slice e)) (hs:(P.info? e).map (·.size)=some size) (hx:a.eval x= .slice ao m pl) (hy:a.eval y= .int .i64 k) (hk:k≤m) (hm:m≤pl)
    (h:K (a.put o.dst (.slice da (m-k) (pl-k))) w):Oper.wp P o a w K Q:=
  wp_value (exec_slice_from2 (o:=o) (a:=a) (w:=w) t e x y size ao m pl k da hda ho ht hs hx hy hk hm) h
theorem wp_slice_full {w:World} {o:Oper} {a:Act} {K:Act→World→Prop} {Q:Exit→Act→World→Prop} (t e:TypeId) (x y z:Operand) (size:Nat) (ao:Option Addr) (m pl k:Nat) (ho:o.op= .slice t x none (some y) (some z)) (ht:P.underlying t=some (.slice e)) (hs:(P.info? e).map (·.size)=some size) (hx:a.eval x= .slice ao m pl) (hy:a.eval y= .int .i64 k) (hz:a.eval z= .int .i64 k) (hk:k≤pl)
    (h:K (a.put o.dst (.slice ao k k)) w):Oper.wp P o a w K Q:=
  wp_value (exec_slice_full (o:=o) (a:=a) (w:=w) t e x y z size ao m pl k ho ht hs hx hy hz hk) h
theorem exec_append {o:Oper} {a:Act} {w w':World} {v:Value} {s x:Operand} {t:TypeId} {vs vx:Value} (ho:o.op= .call {callee:= .builtin .append,args:= #[s,x],argTypes:= #[t,t]}) (hs:a.eval s=vs) (hx:a.eval x=vx)
    (hr:(Builtin.append_ #[t,t] o.type #[vs,vx]).run P w= .ok v w'):(execOp a.eval o).run P w= .ok (.value v) w':=by
 unfold execOp;simp only [ho,resolve,invoke,builtin,Sem.run_bind,Sem.run_pure,Result.andThen_ok,List.map_toArray,List.map_cons,List.map_nil,hs,hx,hr]
theorem run_append_cap (w:World) (base:Nat) (t ty e:TypeId) (z:Value) (size bytes:Nat) (ht:P.underlying t=some (.slice e))
    (hinfo:(P.info? e).map (fun i=>(i.zero,i.size,i.bytes))=some (some z,size,bytes)) (hzs:z.cells.size=size) (hsz:0<size)
    (b:Addr) (n:Nat) (xs:List Value) (hown:w.ownsRow base e size (.slice (some b) n n) n xs)
    (ao:Option Addr) (m c:Nat) (news:List Value) (hl:news.length=m*size) (hnone:ao=none→m=0∧c=0)
    (hnews:∀ad,ao=some ad→∀j u,news[j]? =some u→w.cell? (ad.add j)=some u) (h1:∀u ∈ news,u.oneCell'=true)
    (h63:n+m≤4294967296) (hbytes:bytes≤1024) (hbase:base≤w.heap.size):
    ∃v' w',(Builtin.append_ #[t,t] ty #[.slice (some b) n n,.slice ao m c]).run P w= .ok v' w'∧w'.ownsRow base e size v' (n+m) (xs++news)∧Below w.heap.size w w':=by
 rcases Nat.eq_zero_or_pos m with rfl|hm
 · have hn:news=[]:=List.eq_nil_of_length_eq_zero (by simpa using hl);subst hn;obtain ⟨i,hi,hz,hs,hb⟩:=info_parts hinfo;refine ⟨.slice (some b) n n,w,?_,by simpa using hown,Below.refl _ _⟩;cases ao with
   | none=>
    obtain ⟨-,rfl⟩:=hnone rfl;exact run_append_owned_none w base t ty e i size ht hi _ n xs hown
   | some ad=>simp [Builtin.append_,run_underlying ht,sizeOf,typeInfo,hi,Builtin.lenOf,Builtin.firstCells,loadCells,loadCellsFrom,storeCells]
 · cases ao with
   | none=>have:=(hnone rfl).1;omega
   | some ad=>
    obtain ⟨g,rfl⟩:∃g,b=⟨g,0,none⟩:=by
     obtain ⟨-,⟨h,-⟩ | ⟨g,cap,cur,h,-⟩⟩:=hown
     · cases h
     · cases h;exact ⟨g,rfl⟩
    obtain ⟨v',w',hr,ho,hg,-⟩:=run_append_full (P:=P) w base t ty e z size bytes ht hinfo hzs hsz (some ⟨g,0,none⟩) n xs hown.1 xzc (fun b' hb' j u hj=>by
     cases hb';exact World.ownsRow.cells hown (g:=g) rfl j u hj) ad m c news hl (hnews ad rfl) h1 hm h63 hbytes hbase
    exact ⟨v',w',hr,ho,br.grown hg (Nat.le_refl _) (fun k hk=>by cases hk)⟩
end
theorem setCs_frozen {W:World} {b:Nat}:∀(l:List Value) (i:Nat) (a:Addr),(setCs W b i l).frozen? a=W.frozen? a
  | l,i,a=>by
   induction l generalizing W i with
   | nil=>rfl
   | cons v l ih=>rw [setCs,ih];exact World.frozen?_setCell _ _ _ _
theorem setCs_size:∀(l:List Value) (W:World) (b i:Nat),(setCs W b i l).heap.size=W.heap.size
  | [],_,_,_=>rfl
  | v::l,W,b,i=>by rw [setCs,setCs_size l,World.size_setCell]
section
variable {P:Program}
theorem run_append_y (w:World) (base:Nat) (t ty e:TypeId) (z:Value) (size bytes:Nat) (ht:P.underlying t=some (.slice e))
    (hinfo:(P.info? e).map (fun i=>(i.zero,i.size,i.bytes))=some (some z,size,bytes)) (hzs:z.cells.size=size) (hsz:0<size)
    (v:Value) (n:Nat) (xs:List Value) (hown:w.ownsRow base e size v n xs)
    (ao:Option Addr) (m c:Nat) (news:List Value) (hl:news.length=m*size) (hnone:ao=none→m=0∧c=0)
    (hnews:∀ad,ao=some ad→∀j u,news[j]? =some u→w.cell? (ad.add j)=some u) (h1:∀u ∈ news,u.oneCell'=true)
    (h63:n+m≤4294967296) (hbytes:bytes≤1024) (hbase:base≤w.heap.size):
    ∃v' w',(Builtin.append_ #[t,t] ty #[v,.slice ao m c]).run P w= .ok v' w'∧w'.ownsRow base e size v' (n+m) (xs++news)∧w.grownBy w' v.ownBlock∧w'.ownsRow base e size v n xs:=by
 obtain ⟨i,hi,hz,hs,hb⟩:=info_parts hinfo;obtain ⟨v',w',hr,ho,hg,-⟩:=run_append_x (P:=P) w base t ty e z size bytes ht hinfo hzs hsz v n xs hown ao m c news hl hnone hnews h1 h63 hbytes hbase;refine ⟨v',w',hr,ho,hg,?_⟩;cases ao with
 | none=>
  obtain ⟨rfl,rfl⟩:=hnone rfl;have hr2:=run_append_owned_none (P:=P) w base t ty e i size ht hi v n xs hown;rw [hr] at hr2;cases hr2;exact hown
 | some ad=>
  have hc:=hnews ad rfl;have hm1:n+m≤maxLen:=by unfold maxLen;omega
  have hm2:(n+m)*bytes≤140737488355328:=Nat.le_trans (Nat.mul_le_mul h63 hbytes) xdd;obtain ⟨hx,⟨rfl,rfl⟩ | ⟨g,cap,cur,rfl,hbg,hgg,hnc,hcm,hcs,htake⟩⟩:=hown
  · have hx0:xs=[]:=List.eq_nil_of_length_eq_zero (by simpa using hx);subst hx0;exact World.ownsRow_nil _ _ _ _
  · by_cases hroom:n+m≤cap
    · obtain ⟨w2,hr2,_⟩:=run_append_fits (P:=P) w base t ty e i size ht hi hs g n cap xs ⟨hx,.inr ⟨g,cap,cur,rfl,hbg,hgg,hnc,hcm,hcs,htake⟩⟩ ad m c news hl hc h1 hroom;rw [hr] at hr2;cases hr2;obtain ⟨hx',⟨h,-⟩ | ⟨g',cap',cur',he,hbg',hgg',hnc',hcm',hcs',htake'⟩⟩:=ho
      · cases h
      · cases he;refine ⟨hx,.inr ⟨g,cap,cur',rfl,hbg',hgg',hnc,hcm',hcs',?_⟩⟩;have:=congrArg (List.take (n*size)) htake';rw [List.take_take,Nat.min_eq_left (Nat.mul_le_mul_right _ xo),List.take_append_of_le_length (Nat.le_of_eq hx.symm),List.take_of_length_le (Nat.le_of_eq hx)] at this;exact this
    · have holds:=World.ownsRow.cells (w:=w) (base:=base) (e:=e) (size:=size) (n:=n) (xs:=xs) ⟨hx,.inr ⟨g,cap,cur,rfl,hbg,hgg,hnc,hcm,hcs,htake⟩⟩ (g:=g) rfl;have hr2:=run_append_grow (P:=P) w t ty e i z ht hi hz ⟨g,0,none⟩ n cap xs (by rw [hs];exact hx) holds ad m c news (by rw [hs];exact hl) hc xo xo (growslice_fits xo (by rw [hb];exact hm2));rw [hr] at hr2;cases hr2;exact (World.ownsRow.drew ⟨hx,.inr ⟨g,cap,cur,rfl,hbg,hgg,hnc,hcm,hcs,htake⟩⟩).alloc _
end
theorem row_from {w:World} {ao:Option Addr} {L:List (Int×Int)} {m pl k:Nat} (h:IsRow .i64 w ao (prI L)) (hL:L.length=m) (hpl:m≤pl) (hk:k≤m) (hn:ao=none→pl=0):
    IsRow .i64 w (if pl=k then ao else ao.map (·.add (k*2))) (prI (L.drop k))∧((if pl=k then ao else ao.map (·.add (k*2)))=none→m-k=0∧pl-k=0):=by
 have hlen:(prI (L.drop k)).length=(m-k)*2:=by rw [prI_length,List.length_drop,hL]
 by_cases hp:pl=k
 · rw [if_pos hp];refine ⟨fun i hi=> ?_,fun _=>by omega⟩;rw [hlen] at hi;omega
 · rw [if_neg hp];refine ⟨fun i hi=> ?_,fun e=> ?_⟩
   · rw [hlen] at hi;obtain ⟨b,off,ha,hlt,hc⟩:=h (k*2+i) (by rw [prI_length,hL];omega);subst ha;refine ⟨b,off+k*2,?_,hlt,fun j hj=> ?_⟩
     · simp only [Option.map_some,Addr.add];split
       · rename_i hz;rw [hz];rfl
       · rfl
     rw [hlen] at hj;have:=hc (k*2+j) (by rw [prI_length,hL];omega);rw [←Nat.add_assoc] at this;rw [this];congr 2
     rw [show prI (L.drop k)=(prI L).drop (k*2) from ?_,List.getD_eq_getElem?_getD,List.getD_eq_getElem?_getD,List.getElem?_drop];exact prI_drop L k
   · cases ao with
     | none=>have:=hn rfl;omega
     | some ad=>cases e
theorem row_take {w:World} {ao:Option Addr} {L:List (Int×Int)} {k:Nat} (h:IsRow .i64 w ao (prI L)) (hk:k≤L.length):IsRow .i64 w ao (prI (L.take k)):=by
 rw [prI_take];exact h.take _ (by rw [prI_length];omega)
structure FactY (RA:World→World→Prop) where
 holds:Value→World→Prop
 own:Bool
 stB:∀v w w',RB w w'→holds v w→holds v w'
 stA:own=false→∀v w w',RA w w'→holds v w→holds v w'
def yAny (RA:World→World→Prop):FactY RA:=⟨fun _ _=>True,false,fun _ _ _ _ _=>trivial,fun _ _ _ _ _ _=>trivial⟩
def yIs (RA:World→World→Prop) (x:Value):FactY RA:=⟨fun v _=>v=x,false,fun _ _ _ _ h=>h,fun _ _ _ _ _ h=>h⟩
def yRow (RA:World→World→Prop) (base n:Nat) (xs:List Value):FactY RA:=⟨fun v w=>w.ownsRow base 91 2 v n xs,true,fun _ _ _ h h1=>owns_below h1 h,fun h=>by cases h⟩
theorem owns_keep {w w':World} {base:Nat} {e:TypeId} {s:Nat} {v:Value} {n:Nat} {xs:List Value} (h:w.ownsRow base e s v n xs) (hk:∀k,base≤k→k<w.heap.size→w'.heap[k]? =w.heap[k]?):w'.ownsRow base e s v n xs:=
  owns_heap h fun k hb=>hk k (h.lt k hb).1 (h.lt k hb).2
def ySl {RA:World→World→Prop} (base:Nat) (hA:∀w w',RA w w'→∀k,base≤k→k<w.heap.size→w'.heap[k]? =w.heap[k]?) (c:SlC):FactY RA:=
  ⟨(FactR.sl base c).holds,false,fun v w w' h h1=>(FactR.sl base c).stays v w w' h h1,
    fun _ v w w' h ⟨v1,v2,v3,v4,e,h1,h2,h3,h4⟩=>⟨v1,v2,v3,v4,e,owns_keep h1 (hA w w' h),owns_keep h2 (hA w w' h),owns_keep h3 (hA w w' h),owns_keep h4 (hA w w' h)⟩⟩
def ySl2 {RA:World→World→Prop} (base:Nat) (hA:∀w w',RA w w'→∀k,base≤k→k<w.heap.size→w'.heap[k]? =w.heap[k]?) (c:SlC) (x:Value):FactY RA:=
  ⟨fun v w=>∃y,v= .tuple #[y,x]∧(ySl base hA c).holds y w,false,fun _ _ _ h ⟨y,e,h1⟩=>⟨y,e,(ySl base hA c).stB _ _ _ h h1⟩,fun _ _ _ _ h ⟨y,e,h1⟩=>⟨y,e,(ySl base hA c).stA rfl _ _ _ h h1⟩⟩
def yAt {RA:World→World→Prop} (n:Nat) (ds:List Nat) (fs:List (FactY RA)) (k:Nat) (u:Nat→Value) (w:World):Prop:=k<n→(fs.getD k (yAny RA)).holds (u (ds.getD k 0)) w
def yExt (m:Nat) (RA:World→World→Prop) (i:Nat) (w w':World):Prop:=(i=m→RA w w')∧(i≠m→RB w w')
theorem y_stays {RA:World→World→Prop} {n m:Nat} {ds:List Nat} {fs:List (FactY RA)} (h:∀k,k<n→k≠m→(fs.getD k (yAny RA)).own=false):∀i k u w w',k≠i→yExt m RA i w w'→yAt n ds fs k u w→yAt n ds fs k u w':=by
 intro i k u w w' hne hE hG hk;by_cases e:i=m
 · exact (fs.getD k (yAny RA)).stA (h k hk (fun q=>hne (q.trans e.symm))) _ _ _ (hE.1 e) (hG hk)
 · exact (fs.getD k (yAny RA)).stB _ _ _ (hE.2 e) (hG hk)
theorem y_dep {RA:World→World→Prop} {l:List Oper} {n:Nat} {ds:List Nat} {fs:List (FactY RA)} (h:(List.range n).all (fun k=>match l[k]? with|some o=>o.dst==some (ds.getD k 0)|none=>false)=true):
    ∀(k:Nat) (u u':Nat→Value) (w:World),(∀(j:Nat) (p o:Oper),l[j]? =some p→l[k]? =some o→(j=k∨(o.after.any fun e=>Region.binds .any e&&e.on==j)=true)→valOf u' p=valOf u p)→yAt n ds fs k u w→yAt n ds fs k u' w:=by
 intro k u u' w hv hg hk;have h1:=List.all_eq_true.1 h k (List.mem_range.2 hk);cases ho:l[k]? with
 | none=>rw [ho] at h1;cases h1
 | some o=>
  rw [ho] at h1;have h2:o.dst=some (ds.getD k 0):=by simpa using h1
  have h3:=hv k o o ho ho (.inl rfl);have e:u' (ds.getD k 0)=u (ds.getD k 0):=by simpa [valOf,h2] using h3
  rw [e];exact hg hk
end
section
open Go.RowKit Go.Shelf
theorem insL_prI (L:List (Int×Int)) (k:Nat) (p:Int×Int):prI (insL L k p)=prI (L.take k)++[p.1,p.2]++prI (L.drop k):=by
 rw [insL,prI_append,show p::L.drop k=[p]++L.drop k from rfl,prI_append,List.append_assoc];rfl
structure AtZ (a:Option Addr) (m pl:Nat):Prop where
 off:∀x,a=some x→x.off=0∧x.spot=none
 no:a=none→m=0∧pl=0
 le:m≤pl
theorem AtZ.cases {a:Option Addr} {m pl:Nat} (h:AtZ a m pl):(a=none∧m=0∧pl=0)∨∃g,a=some ⟨g,0,none⟩:=by
 cases a with
 | none=>exact .inl ⟨rfl,(h.no rfl).1,(h.no rfl).2⟩
 | some x=>
  obtain ⟨h1,h2⟩:=h.off x rfl;obtain ⟨b,o,s⟩:=x;dsimp only at h1 h2;subst h1 h2;exact .inr ⟨b,rfl⟩
theorem atz_owns {w:World} {B:Nat} {e:TypeId} {s m cap:Nat} {a:Option Addr} {k:IntKind} {xs:List Int} (h:w.ownsRow B e s (.slice a m cap) m (xs.map (Value.int k))):AtZ a m cap:=by
 obtain ⟨a',c',he,-,h1,h2,h3,-⟩:=row_of_owns h;cases he;exact ⟨fun x hx=>⟨(h1 x hx).2.2.1,(h1 x hx).2.2.2⟩,h2,h3⟩
end
section
open Go.RowKit Go.Shelf Go.Sort
attribute [local go_sem] Oper.semAt_some
def oneR (base:Nat) (xs:List Value):FactR RB:=⟨fun v w=>∃b,v= .slice (some ⟨b,0,none⟩) 1 1∧w.ownsRow base 91 2 v 1 xs,fun _ _ _ h ⟨b,e,h1⟩=>⟨b,e,owns_below h1 h⟩⟩
def ownR (base n:Nat) (xs:List Value):FactR RB:=⟨fun v w=>w.ownsRow base 91 2 v n xs,fun _ _ _ h h1=>owns_below h1 h⟩
theorem With_core (seg:Int) (wa ka va ca:Option Addr) (wc kc vc cc lw n lv lc:Nat) (laid:Int) (lo hi k:Nat) (x y:Int) (L:List (Int×Int)) (hL:L.length≤65536) (hk:k≤L.length) (hroom:lo+L.length<hi) (hhi:hi≤65536) (d:SlC) (w:World)
    (PR:Hid (∀W,Below w.heap.size w W→Calls Tryz.prog 49 #[.agg #[.int .i64 seg,.slice wa lw wc,.slice ka n kc,.slice va lv vc,.slice ca lc cc,.int .u64 laid],.int .i64 lo,.int .i64 hi] W (FreshPr2 W L (.int .i64 0))))
    (OV:Hid (∀la pl W,Below w.heap.size w W→IsRow .i64 W la (prI (insL L k (x,y)))→Calls Tryz.prog 126 #[.agg #[.int .i64 seg,.slice wa lw wc,.slice ka n kc,.slice va lv vc,.slice ca lc cc,.int .u64 laid],.int .i64 lo,.int .i64 hi,.slice la (L.length+1) pl] W (FreshSl2 W d (.int .i64 0)))):
    Calls Tryz.prog 100 #[.agg #[.int .i64 seg,.slice wa lw wc,.slice ka n kc,.slice va lv vc,.slice ca lc cc,.int .u64 laid],.int .i64 lo,.int .i64 hi,.int .i64 k,.agg #[.int .i64 x,.int .i64 y]] w (FreshSl2 w d (.int .i64 0)):=by
 have hw1:IntKind.i64.wrap ((hi:Int)-(lo:Int))=(hi:Int)-(lo:Int):=IntWalk.i64_in _ xo;have g1:((L.length:Int)==(hi:Int)-(lo:Int))=false:=by rw [beq_eq_false_iff_ne];omega
 have g2:¬((L.length:Int)<(k:Int)):=xo;have HRW:=hid (fun (w:World) la pl (h:IsRow .i64 w la (prI L)) (hz:AtZ la L.length pl)=>And.intro (row_take h hk) (row_from h rfl hz.le hk (fun e=>(hz.no e).2)));have HLT:=hid (show (prI (L.take k)).length=k*2 by rw [prI_length,List.length_take];omega);have HLD:=hid (show (prI (L.drop k)).length=(L.length-k)*2 by rw [prI_length,List.length_drop]);have HIN:=hid (insL_prI L k (x,y));go_enter Tryz.func100,Tryz.ntmps100
 go_wp2_with fail
 refine (PR.out _ xbel).mono ?_;rintro e w1 ⟨v,rfl,ho1,hb1⟩;have hz_w1:=hb1.size;try simp only [World.size_alloc,World.size_setCell] at hz_w1
 have hh:=bc6 hb1 (au6 (au6 (al6 (b:=w.heap.size) xsi)));obtain ⟨c_t0,c_t1,c_t2,c_t3,c_t4,c_t5⟩:=hh;have z_t:=blt hb1 (auz (auz (alz (b:=w.heap.size) xsi)));have hh:=bc2 hb1 (au2 (al2 (b:=w.heap.size+1) xsi));obtain ⟨c_p0,c_p1⟩:=hh;have z_p:=blt hb1 (auz (alz (b:=w.heap.size+1) xsi));have hh:=bc6 hb1 (al6 (b:=w.heap.size+1+1) xsi);obtain ⟨c_r0,c_r1,c_r2,c_r3,c_r4,c_r5⟩:=hh;have hh:=bf6 hb1 (alz (b:=w.heap.size+1+1) xsi) (alf6 (b:=w.heap.size+1+1) xsi);obtain ⟨f_r0,f_r1,f_r2,f_r3,f_r4,f_r5⟩:=hh;have z_r:=blt hb1 (alz (b:=w.heap.size+1+1) xsi);have hB1:Below w.heap.size w w1:=xbel;obtain ⟨la,pl,rfl,hi1,-,-,-,-⟩:=row_of_owns ho1;have hz:=atz_owns ho1;have HR:=hid (HRW.out w1 la pl hi1 hz);have HN:=hid (fun h:la=none=>(hz.no h));have HK0:=hid (And.intro hk (And.intro hz.le (Nat.le_trans hk hz.le)));have HM:=hid hL;obtain ⟨da,hda⟩:∃da,(if pl=k then la else la.map (·.add (k*2)))=da:=⟨_,rfl⟩
 rw [hda] at HR;have HDA:=hid hda;have HT:=hid HR.out.1;have HD:=hid HR.out.2;have HB1:=hid hB1;have hzp:w.heap.size+1+1<w1.heap.size:=z_r;clear hb1 hB1 ho1 hi1 hz HR HRW hda hk hL hroom hhi PR;generalize prI (L.take k)=T at *;generalize prI (L.drop k)=D at *;generalize prI (insL L k (x,y))=Z at *;generalize L.length=m at *;go_upto_region 8 with (fail)
 refine wp_region_late 7 xk (N:=63) rfl xk xk xdd (fun w'=>Below w1.heap.size w1 w') RB (factRAt [.is (.slice la m pl),.is (.int .i64 k),.is (.int .i64 k),.is (.slice la k k),.is (.agg #[.int .i64 x,.int .i64 y]),oneR w1.heap.size [.int .i64 x,.int .i64 y],ownR w1.heap.size (k+1) (T.map (Value.int .i64)++[.int .i64 x,.int .i64 y])]) (factRAt_stays _) br.drew ?steps ?fin
 case steps=>
  refine ⟨?o0,?o1,?o2,?o3,?o4,?o5,?o6,trivial⟩
  case o0=>
   intro u a w' ev hJ hd K hK;have e12:tg a 12= .slice la m pl:=ev 12 xdd;have HK:=hid hK;clear hK ev hd;go_simp;exact HK.out _ _ xzc hJ rfl br
  case o1=>
   intro u a w' ev hJ hd K hK;have e3:tg a 3= .int .i64 k:=ev 3 xdd;have HK:=hid hK;clear hK ev hd;go_simp;exact HK.out _ _ xzc hJ rfl br
  case o2=>
   intro u a w' ev hJ hd K hK;have e3:tg a 3= .int .i64 k:=ev 3 xdd;have HK:=hid hK;clear hK ev hd;go_simp;exact HK.out _ _ xzc hJ rfl br
  case o3=>
   intro u a w' ev hJ hd K hK;have e45:tg a 45= .slice la m pl:=(ev 45 xdd).trans (hd 0 _ xk rfl);have e46:tg a 46= .int .i64 k:=(ev 46 xdd).trans (hd 1 _ xk rfl);have e47:tg a 47= .int .i64 k:=(ev 47 xdd).trans (hd 2 _ xk rfl);have hzJ:=hJ.size;exact wp_slice_full 87 91 (.tmp 45) (.tmp 46) (.tmp 47) 2 la m pl k rfl Tryz.underlying87 xk e45 e46 e47 HK0.out.2.2 (hK _ _ xzc hJ rfl br)
  case o4=>
   intro u a w' ev hJ hd K hK;have e9:tg a 9= .pointer (some ⟨w.heap.size+1,0,none⟩):=ev 9 xdd;have g0:=xjc hJ c_p0;have g1:=xjc hJ c_p1;have HK:=hid hK;clear hK ev hd;go_simp;exact HK.out _ _ xzc hJ rfl br
  case o5=>
   intro u a w' ev hJ hd K hK;have e49:tg a 49= .agg #[.int .i64 x,.int .i64 y]:=(ev 49 xdd).trans (hd 4 _ xk rfl);have f49:a.tmps[49]?.getD undef= .agg #[.int .i64 x,.int .i64 y]:=by rw [←Array.getD_eq_getD_getElem?];exact e49
   have HK:=hid hK;have hzJ:=hJ.size;clear hK ev hd;go_simp;exact HK.out _ _ xzc (hJ.alloc hzJ _) ⟨_,rfl,World.ownsRow_lit _ _ 1 hzJ xdd rfl⟩ (br.alloc (Nat.le_refl _) _)
  case o6=>
   intro u a w' ev hJ hd K hK;have e48:tg a 48= .slice la k k:=(ev 48 xdd).trans (hd 3 _ xk rfl);obtain ⟨bb,h50,hown⟩:(oneR w1.heap.size [.int .i64 x,.int .i64 y]).holds (u 50) w':=hd 5 _ xk rfl;have e50:tg a 50= .slice (some ⟨bb,0,none⟩) 1 1:=(ev 50 xdd).trans h50;rw [h50] at hown;have hzJ:=hJ.size;obtain ⟨v',w'',hr,ho,hg,-⟩:=run_append_full (P:=Tryz.prog) w' w1.heap.size 87 _ 91 (.agg #[.int .i64 0,.int .i64 0]) 2 16 Tryz.underlying87 info_Pair rfl xdd la k (T.map (Value.int .i64)) (by rw [List.length_map,HLT.out]) (fun h=>by have:=HN.out h;have:=HK0.out;omega) (row_news' (HT.out.below hJ)) ⟨bb,0,none⟩ 1 1 [.int .i64 x,.int .i64 y] rfl (World.ownsRow.cells hown (g:=bb) rfl) (by simp [Value.oneCell']) xdd (by have:=HM.out;have:=HK0.out;omega) xdd hzJ;have hbw:Below w'.heap.size w' w'':=br.grown hg (Nat.le_refl _) (fun k hk=>by cases hk);exact wp_value (exec_append rfl e48 e50 hr) (hK _ _ xzc (hJ.trans (hbw.mono hzJ)) ho hbw)
 case fin=>
  intro u w2 hJ hG;have hrow:(ownR w1.heap.size (k+1) (T.map (Value.int .i64)++[.int .i64 x,.int .i64 y])).holds (u 51) w2:=hG 6 _ rfl;obtain ⟨a2,c2,h51,-⟩:=owns_news hrow;change w2.ownsRow _ _ _ (u 51) _ _ at hrow;rw [h51] at hrow;have HO2:=hid hrow;have HC2:=hid hJ;clear hG hrow hJ;simp only [mixFrame,mixL,dstsOf,List.take_succ_cons,List.take_zero,List.filterMap_cons,List.filterMap_nil,List.contains_cons,List.contains_nil,Nat.reduceBEq,Bool.or_false,Bool.false_or,Bool.or_true,Bool.true_or,if_true,if_false,Bool.false_eq_true,Nat.reduceAdd,Nat.zero_add,List.drop_succ_cons,List.drop_zero,h51];go_upto_region 9 with (fail)
  obtain ⟨RA,hRA⟩:∃RA:World→World→Prop,RA=fun w w'=>Below w1.heap.size w w'∧∀z,w2.heap.size≤z→z<w.heap.size→w'.heap[z]? =w.heap[z]? :=⟨_,rfl⟩
  have hA:∀w w',RA w w'→∀z,w2.heap.size≤z→z<w.heap.size→w'.heap[z]? =w.heap[z]? :=fun w w' h=>by rw [hRA] at h;exact h.2
  refine wp_region_eff 11 xk (N:=63) rfl xk xk xdd (fun w'=>Below w1.heap.size w1 w'∧w'.ownsRow w1.heap.size 91 2 (.slice a2 (k+1) c2) (k+1) (T.map (Value.int .i64)++[.int .i64 x,.int .i64 y])∧w2.heap.size≤w'.heap.size) (yExt 7 RA) (yAt 11 [52,53,54,55,56,57,58,59,60,61,62] [yIs RA (.agg #[.int .i64 seg,.slice wa lw wc,.slice ka n kc,.slice va lv vc,.slice ca lc cc,.int .u64 laid]),yIs RA (.int .i64 lo),yIs RA (.int .i64 hi),yIs RA (.slice a2 (k+1) c2),yIs RA (.slice la m pl),yIs RA (.int .i64 k),yIs RA (.slice da (m-k) (pl-k)),yRow RA w1.heap.size (m+1) (T.map (Value.int .i64)++[.int .i64 x,.int .i64 y]++D.map (Value.int .i64)),ySl2 w2.heap.size hA d (.int .i64 0),ySl w2.heap.size hA d,yIs RA (.int .i64 0)]) (y_stays (by intro k h1 h2;rcases k with _|_|_|_|_|_|_|_|_|_|_|k<;>first|rfl|omega)) (y_dep xk) ⟨HC2.out.drew,HO2.out.drew,Nat.le_refl _⟩ ?steps9 ?fin9
  case steps9=>
   refine ⟨?o0,?o1,?o2,?o3,?o4,?o5,?o6,?o7,?o8,?o9,?o10,trivial⟩
   case o0=>
    intro u a w' ev hJ hd K hK;obtain ⟨hJ1,hJ2,hJ3⟩:=hJ;have e5:tg a 5= .pointer (some ⟨w.heap.size,0,none⟩):=ev 5 xdd;have g0:=xjc hJ1 c_t0;have g1:=xjc hJ1 c_t1;have g2:=xjc hJ1 c_t2;have g3:=xjc hJ1 c_t3;have g4:=xjc hJ1 c_t4;have g5:=xjc hJ1 c_t5;have HK:=hid hK;clear hK ev hd;go_simp;exact HK.out _ _ xzc ⟨hJ1,hJ2,hJ3⟩ (fun _=>by simp [updR,yIs]) ⟨fun h=>absurd h xdd,fun _=>Below.refl _ _⟩
   case o1=>
    intro u a w' ev hJ hd K hK;obtain ⟨hJ1,hJ2,hJ3⟩:=hJ;have e1:tg a 1= .int .i64 lo:=ev 1 xdd;have HK:=hid hK;clear hK ev hd;go_simp;exact HK.out _ _ xzc ⟨hJ1,hJ2,hJ3⟩ (fun _=>by simp [updR,yIs]) ⟨fun h=>absurd h xdd,fun _=>Below.refl _ _⟩
   case o2=>
    intro u a w' ev hJ hd K hK;obtain ⟨hJ1,hJ2,hJ3⟩:=hJ;have e2:tg a 2= .int .i64 hi:=ev 2 xdd;have HK:=hid hK;clear hK ev hd;go_simp;exact HK.out _ _ xzc ⟨hJ1,hJ2,hJ3⟩ (fun _=>by simp [updR,yIs]) ⟨fun h=>absurd h xdd,fun _=>Below.refl _ _⟩
   case o3=>
    intro u a w' ev hJ hd K hK;obtain ⟨hJ1,hJ2,hJ3⟩:=hJ;have e14:tg a 14= .slice a2 (k+1) c2:=ev 14 xdd;have HK:=hid hK;clear hK ev hd;go_simp;exact HK.out _ _ xzc ⟨hJ1,hJ2,hJ3⟩ (fun _=>by simp [updR,yIs]) ⟨fun h=>absurd h xdd,fun _=>Below.refl _ _⟩
   case o4=>
    intro u a w' ev hJ hd K hK;obtain ⟨hJ1,hJ2,hJ3⟩:=hJ;have e12:tg a 12= .slice la m pl:=ev 12 xdd;have HK:=hid hK;clear hK ev hd;go_simp;exact HK.out _ _ xzc ⟨hJ1,hJ2,hJ3⟩ (fun _=>by simp [updR,yIs]) ⟨fun h=>absurd h xdd,fun _=>Below.refl _ _⟩
   case o5=>
    intro u a w' ev hJ hd K hK;obtain ⟨hJ1,hJ2,hJ3⟩:=hJ;have e3:tg a 3= .int .i64 k:=ev 3 xdd;have HK:=hid hK;clear hK ev hd;go_simp;exact HK.out _ _ xzc ⟨hJ1,hJ2,hJ3⟩ (fun _=>by simp [updR,yIs]) ⟨fun h=>absurd h xdd,fun _=>Below.refl _ _⟩
   case o6=>
    intro u a w' ev hJ hd K hK;obtain ⟨hJ1,hJ2,hJ3⟩:=hJ;have e56:tg a 56= .slice la m pl:=(ev 56 xdd).trans ((hd 4 _ xk rfl) xdd);have e57:tg a 57= .int .i64 k:=(ev 57 xdd).trans ((hd 5 _ xk rfl) xdd);exact wp_slice_from 87 91 (.tmp 56) (.tmp 57) 2 la m pl k da HDA.out rfl Tryz.underlying87 xk e56 e57 HK0.out.1 HK0.out.2.1 (hK _ _ xzc ⟨hJ1,hJ2,hJ3⟩ (fun _=>by simp [updR,yIs]) ⟨fun h=>absurd h xdd,fun _=>Below.refl _ _⟩)
   case o7=>
    intro u a w' ev hJ hd K hK;obtain ⟨hJ1,hJ2,hJ3⟩:=hJ;have e55:tg a 55= .slice a2 (k+1) c2:=(ev 55 xdd).trans ((hd 3 _ xk rfl) xdd);have e58:tg a 58= .slice da (m-k) (pl-k):=(ev 58 xdd).trans ((hd 6 _ xk rfl) xdd);obtain ⟨v',w'',hr,ho,hg,ho2⟩:=run_append_y (P:=Tryz.prog) w' w1.heap.size 87 _ 91 (.agg #[.int .i64 0,.int .i64 0]) 2 16 Tryz.underlying87 info_Pair rfl xdd (.slice a2 (k+1) c2) (k+1) (T.map (Value.int .i64)++[.int .i64 x,.int .i64 y]) hJ2 da (m-k) (pl-k) (D.map (Value.int .i64)) (by rw [List.length_map,HLD.out]) HD.out.2 (row_news' (HD.out.1.below hJ1)) (numCells _) (by have:=HM.out;have:=HK0.out;omega) xdd hJ1.size;have hbw:Below w1.heap.size w' w'':=(Below.refl w1.heap.size w').grown hg hJ1.size (fun z hz=>(hJ2.lt z hz).1);have hlen:k+1+(m-k)=m+1:=by have:=HK0.out;omega
    rw [hlen] at ho;exact wp_value (exec_append rfl e55 e58 hr) (hK _ _ xzc ⟨hJ1.trans hbw,ho2,Nat.le_trans hJ3 hg.size⟩ (fun _=>by simpa [updR,yRow] using ho) ⟨fun _=>by rw [hRA];exact ⟨hbw,fun z h1 h2=>hg.block z h2 (fun e=>by have:=(HO2.out.lt z e.symm).2;omega)⟩,fun h=>absurd rfl h⟩)
   case o8=>
    intro u a w' ev hJ hd K hK;obtain ⟨hJ1,hJ2,hJ3⟩:=hJ;have e52:tg a 52= .agg #[.int .i64 seg,.slice wa lw wc,.slice ka n kc,.slice va lv vc,.slice ca lc cc,.int .u64 laid]:=(ev 52 xdd).trans ((hd 0 _ xk rfl) xdd);have e53:tg a 53= .int .i64 lo:=(ev 53 xdd).trans ((hd 1 _ xk rfl) xdd);have e54:tg a 54= .int .i64 hi:=(ev 54 xdd).trans ((hd 2 _ xk rfl) xdd);have ho3:w'.ownsRow w1.heap.size 91 2 (u 59) (m+1) (T.map (Value.int .i64)++[.int .i64 x,.int .i64 y]++D.map (Value.int .i64)):=(hd 7 _ xk rfl) xdd;obtain ⟨a3,c3,h59,-⟩:=owns_news ho3;rw [h59] at ho3;have e59:tg a 59= .slice a3 (m+1) c3:=(ev 59 xdd).trans h59;have hrow3:IsRow .i64 w' a3 Z:=by
     rw [HIN.out];rw [show T.map (Value.int .i64)++[.int .i64 x,.int .i64 y]++D.map (Value.int .i64)=(T++[x,y]++D).map (Value.int .i64) by simp] at ho3;obtain ⟨a',c',he,hh,-⟩:=row_of_owns ho3;cases he;exact hh
    have HC:=hid (OV.out a3 c3 w' (below_via hJ1 HB1.out HB1.out.size) hrow3);have HK:=hid hK;have HJ:=hid (And.intro hJ1 (And.intro hJ2 hJ3));clear hK ev hd hJ1 hJ2 hJ3 ho3 hrow3 h59;go_simp;refine HC.out.mono ?_;rintro e w'' ⟨v1,v2,v3,v4,rfl,p1,p2,p3,p4,hb⟩;obtain ⟨hJ1,hJ2,hJ3⟩:=HJ.out;exact HK.out _ _ xzc ⟨hJ1.trans (hb.mono hJ1.size),owns_below hJ2 hb,Nat.le_trans hJ3 hb.size⟩ (fun _=>⟨_,by simp [updR],v1,v2,v3,v4,rfl,owns_base p1 hJ3,owns_base p2 hJ3,owns_base p3 hJ3,owns_base p4 hJ3⟩) ⟨fun h=>absurd h xdd,fun _=>hb⟩
   case o9=>
    intro u a w' ev hJ hd K hK;obtain ⟨hJ1,hJ2,hJ3⟩:=hJ;obtain ⟨y,h60,hy⟩:(ySl2 w2.heap.size hA d (.int .i64 0)).holds (u 60) w':=(hd 8 _ xk rfl) xdd;have e60:tg a 60= .tuple #[y,.int .i64 0]:=(ev 60 xdd).trans h60;have HK:=hid hK;have HY:=hid hy;clear hK ev hd hy;go_simp;exact HK.out _ _ xzc ⟨hJ1,hJ2,hJ3⟩ (fun _=>by simpa [updR] using HY.out) ⟨fun h=>absurd h xdd,fun _=>Below.refl _ _⟩
   case o10=>
    intro u a w' ev hJ hd K hK;obtain ⟨hJ1,hJ2,hJ3⟩:=hJ;obtain ⟨y,h60,hy⟩:(ySl2 w2.heap.size hA d (.int .i64 0)).holds (u 60) w':=(hd 8 _ xk rfl) xdd;have e60:tg a 60= .tuple #[y,.int .i64 0]:=(ev 60 xdd).trans h60;have HK:=hid hK;have HY:=hid hy;clear hK ev hd hy;go_simp;exact HK.out _ _ xzc ⟨hJ1,hJ2,hJ3⟩ (fun _=>by simp [updR,yIs]) ⟨fun h=>absurd h xdd,fun _=>Below.refl _ _⟩
  case fin9=>
   intro u w4 hJ hG;obtain ⟨v1,v2,v3,v4,h61,p1,p2,p3,p4⟩:(ySl w2.heap.size hA d).holds (u 61) w4:=(hG 9 _ rfl) xdd;have h62:u 62= .int .i64 0:=(hG 10 _ rfl) xdd;have hb4:=hJ.1;have hB4:=below_via hb4 HB1.out HB1.out.size;have hz_w4:=hb4.size;simp (disch:=omega) only [xcl hb4,xfr hb4] at *;replace z_t:=blt hb4 z_t;replace z_p:=blt hb4 z_p;replace z_r:=blt hb4 z_r;have hz21:=HC2.out.size;obtain ⟨a1,k1,rfl,-,-,-,-,-⟩:=row_of_owns p1;obtain ⟨a2,k2,rfl,-,-,-,-,-⟩:=row_of_owns p2;obtain ⟨a3,k3,rfl,-,-,-,-,-⟩:=row_of_owns p3;obtain ⟨a4,k4,rfl,-,-,-,-,-⟩:=row_of_owns p4;have HP:=hid (And.intro p1 (And.intro p2 (And.intro p3 p4)));clear p1 p2 p3 p4 hb4 hG hJ;have hz1:w.heap.size+1+1<w2.heap.size:=xo;simp only [mixFrame,mixL,dstsOf,List.take_succ_cons,List.take_zero,List.filterMap_cons,List.filterMap_nil,List.contains_cons,List.contains_nil,Nat.reduceBEq,Bool.or_false,Bool.false_or,Bool.or_true,Bool.true_or,if_true,if_false,Bool.false_eq_true,Nat.reduceAdd,Nat.zero_add,List.drop_succ_cons,List.drop_zero,h61,h62];go_wp2
   have HC:=hid (six_some ⟨c_r0,c_r1,c_r2,c_r3,c_r4,c_r5⟩);exact end_row (W:=w4) (b:=w.heap.size+1+1) [.int .i64 d.seg,.slice a1 d.ws.length k1,.slice a2 d.ks.length k2,.slice a3 d.vs.length k3,.slice a4 d.cs.length k4,.int .u64 d.laid] HC rfl rfl (fun _ h=>results_ct rfl rfl (run_loadVar_many _ Tryz.underlying29 rfl xk h)) fun _ s=>⟨_,_,_,_,rfl,s.ow hz1 HP.out.1,s.ow hz1 HP.out.2.1,s.ow hz1 HP.out.2.2.1,s.ow hz1 HP.out.2.2.2,s.be hB4⟩
end
end Go.Proofs.YtjhpblejlchhjaaGreatDoor

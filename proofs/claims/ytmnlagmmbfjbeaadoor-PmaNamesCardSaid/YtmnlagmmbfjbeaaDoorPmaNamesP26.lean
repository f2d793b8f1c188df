/- Merged: PutW, PutL, ApFull, InvEff. -/
import Derived.Test.YtmnlagmmbfjbeaaDoorPmaNamesP25
import Derived.Test.YtmnlagmmbfjbeaaDoorPmaNamesP12
import Derived.Test.YtmnlagmmbfjbeaaDoorPmaNamesP20
import Derived.Test.YtmnlagmmbfjbeaaDoorPmaNamesP21
import Derived.Test.YtmnlagmmbfjbeaaDoorPmaNamesP10
import Derived.Test.YtmnlagmmbfjbeaaDoorPmaNamesP1
import Derived.Test.YtmnlagmmbfjbeaaDoorPmaNamesP14
namespace Go.Proofs.YtmnlagmmbfjbeaaDoor
set_option maxRecDepth 100000
set_option maxHeartbeats 40000000
set_option linter.unusedVariables false
set_option linter.unusedSimpArgs false
section
open Go.RowKit Go.Shelf Go.Sort
theorem home_ok (seg:Int) (wa ka va ca:Option Addr) (wc kc vc cc lw n lv lc:Nat) (laid:Int) (k at_:Nat) (e:Int) (hk:k≤65536) (w:World) (NT:Hid (∀W,Below w.heap.size w W→Calls Tryd.prog 44 #[.slice wa lw wc,.int .i64 n,.int .i64 ((k-1:Nat):Int)] W (AnsB W (.tuple #[.int .i64 at_,.int .i64 e])))):
    Calls Tryd.prog 39 #[.agg #[.int .i64 seg,.slice wa lw wc,.slice ka n kc,.slice va lv vc,.slice ca lc cc,.int .u64 laid],.int .i64 k] w (AnsB w (.int .i64 at_)):=by
 rcases Nat.eq_zero_or_pos k with rfl|hk0
 · rw [show ((0-1:Nat):Int)=0 from rfl] at NT;clear hk;go_enter Tryd.func39,Tryd.ntmps39
   go_wp2_with fail
   refine (NT.out _ xbel).mono ?_;rintro e w1 ⟨rfl,hb1⟩;have hz_w1:=hb1.size;try simp only [World.size_alloc,World.size_setCell] at hz_w1
   have hh:=bc6 hb1 (al6 (b:=w.heap.size) xsi);obtain ⟨c_t0,c_t1,c_t2,c_t3,c_t4,c_t5⟩:=hh;have z_t:=blt hb1 (alz (b:=w.heap.size) xsi);have hB1:Below w.heap.size w w1:=xbel;go_wp2
   go_ret
   exact ⟨rfl,hB1⟩
 · have hw1:IntKind.i64.wrap ((k:Int)-1)=((k-1:Nat):Int):=by rw [show (k:Int)-1=((k-1:Nat):Int) by omega];exact IntWalk.i64_in _ xo
   have hlt:¬(((k-1:Nat):Int)<0):=xo;have hld:decide (((k-1:Nat):Int)<0)=false:=by simp
   have hgt:decide ((0:Int)<((k-1:Nat):Int))=decide ((0:Int)<((k-1:Nat):Int)):=rfl;clear hgt;go_enter Tryd.func39,Tryd.ntmps39
   go_wp2_with fail
   refine (NT.out _ xbel).mono ?_;rintro e w1 ⟨rfl,hb1⟩;have hz_w1:=hb1.size;try simp only [World.size_alloc,World.size_setCell] at hz_w1
   have hh:=bc6 hb1 (al6 (b:=w.heap.size) xsi);obtain ⟨c_t0,c_t1,c_t2,c_t3,c_t4,c_t5⟩:=hh;have z_t:=blt hb1 (alz (b:=w.heap.size) xsi);have hB1:Below w.heap.size w w1:=xbel;go_wp2
   go_ret
   exact ⟨rfl,hB1⟩
theorem putIs_ok (c:Cfg) (size:Int) (h:Nat) (n:Int) (f:Bool) (x:Int) (b1 b2:Nat) (hn:0≤n∧n≤65536) (w:World)
    (c_m0:w.cell? ⟨b1,0,none⟩=some (.int .u8 c.tag))
    (c_m1:w.cell? ⟨b1,1,none⟩=some (.int .i64 c.most))
    (c_m2:w.cell? ⟨b1,2,none⟩=some (.int .i64 c.seg))
    (c_m3:w.cell? ⟨b1,3,none⟩=some (.int .i64 c.least))
    (c_m4:w.cell? ⟨b1,4,none⟩=some (.int .i64 c.den))
    (c_m5:w.cell? ⟨b1,5,none⟩=some (.int .i64 c.ll))
    (c_m6:w.cell? ⟨b1,6,none⟩=some (.int .i64 c.rl))
    (c_m7:w.cell? ⟨b1,7,none⟩=some (.int .i64 c.rh))
    (c_m8:w.cell? ⟨b1,8,none⟩=some (.int .i64 c.lh))
    (c_s0:w.cell? ⟨b2,0,none⟩=some (.int .i64 size))
    (FU:Hid (∀W,Below w.heap.size w W→Calls Tryd.prog 37 #[.agg #[.int .u8 c.tag,.int .i64 c.most,.int .i64 c.seg,.int .i64 c.least,.int .i64 c.den,.int .i64 c.ll,.int .i64 c.rl,.int .i64 c.rh,.int .i64 c.lh],.int .i64 size,.int .i64 h,.int .i64 (n+1)] W (AnsB W (.tuple #[.bool f,.int .i64 x])))):
    Calls Tryd.prog 36 #[.int .i64 h,.int .i64 n,.pointer (some ⟨b1,0,none⟩),.pointer (some ⟨b2,0,none⟩)] w (AnsB w (.bool !f)):=by
 have hw1:IntKind.i64.wrap (n+1)=n+1:=IntWalk.i64_in _ xo;go_enter Tryd.func36,Tryd.ntmps36
 go_wp2_with fail
 refine (FU.out _ xbel).mono ?_;rintro e w1 ⟨rfl,hb1⟩;go_wp2
 go_ret
 exact ⟨rfl,hb1⟩
theorem takeIs_ok (c:Cfg) (seg:Int) (wa ka va ca:Option Addr) (wc kc vc cc lw n lv lc:Nat) (laid:Int) (h:Nat) (m:Int) (f:Bool) (x:Int) (b1 b2:Nat) (w:World)
    (c_m0:w.cell? ⟨b1,0,none⟩=some (.int .u8 c.tag))
    (c_m1:w.cell? ⟨b1,1,none⟩=some (.int .i64 c.most))
    (c_m2:w.cell? ⟨b1,2,none⟩=some (.int .i64 c.seg))
    (c_m3:w.cell? ⟨b1,3,none⟩=some (.int .i64 c.least))
    (c_m4:w.cell? ⟨b1,4,none⟩=some (.int .i64 c.den))
    (c_m5:w.cell? ⟨b1,5,none⟩=some (.int .i64 c.ll))
    (c_m6:w.cell? ⟨b1,6,none⟩=some (.int .i64 c.rl))
    (c_m7:w.cell? ⟨b1,7,none⟩=some (.int .i64 c.rh))
    (c_m8:w.cell? ⟨b1,8,none⟩=some (.int .i64 c.lh))
    (c_s0:w.cell? ⟨b2,0,none⟩=some (.int .i64 seg))
    (c_s1:w.cell? ⟨b2,1,none⟩=some (.slice wa lw wc))
    (c_s2:w.cell? ⟨b2,2,none⟩=some (.slice ka n kc))
    (c_s3:w.cell? ⟨b2,3,none⟩=some (.slice va lv vc))
    (c_s4:w.cell? ⟨b2,4,none⟩=some (.slice ca lc cc))
    (c_s5:w.cell? ⟨b2,5,none⟩=some (.int .u64 laid))
    (FU:Hid (∀W,Below w.heap.size w W→Calls Tryd.prog 47 #[.agg #[.int .u8 c.tag,.int .i64 c.most,.int .i64 c.seg,.int .i64 c.least,.int .i64 c.den,.int .i64 c.ll,.int .i64 c.rl,.int .i64 c.rh,.int .i64 c.lh],.int .i64 n,.int .i64 h,.int .i64 m] W (AnsB W (.tuple #[.bool f,.int .i64 x])))):
    Calls Tryd.prog 46 #[.int .i64 h,.int .i64 m,.pointer (some ⟨b1,0,none⟩),.pointer (some ⟨b2,0,none⟩)] w (AnsB w (.bool !f)):=by
 go_enter Tryd.func46,Tryd.ntmps46
 go_wp2_with fail
 refine (FU.out _ xbel).mono ?_;rintro e w1 ⟨rfl,hb1⟩;go_wp2
 go_ret
 exact ⟨rfl,hb1⟩
def HighR (w:World) (a at_ H:Nat) (t:Int) (e:Ending) (w':World):Prop:=
  ∃v,e= .returned (.tuple #[.int .i64 t,v])∧w'.ownsRow w.heap.size 77 2 v (H+1) ((prI (winsL a at_ (H+1))).map (Value.int .i64))∧Below w.heap.size w w'
theorem highest_ok (seg:Int) (wa ka va ca:Option Addr) (wc kc vc cc lw n lv lc:Nat) (laid:Int) (a H at_:Nat) (hH:H≤14) (p:Nat→Bool) (m:Nat→Int) (gf:FuncId) (lb:Array Value) (eg:∀args w,(callFunc gf args).run Tryd.prog w= .ok (.enter gf args) w) (w:World)
    (PA:Hid (∀W,Below w.heap.size w W→Calls Tryd.prog 66 #[.int .i64 seg,.int .i64 n,.int .i64 at_] W (FreshW2 W (winsL a at_ (H+1)) (.int .i64 0))))
    (AM:Hid (∀h,h≤H→∀W,Below w.heap.size w W→Calls Tryd.prog 35 #[.agg #[.int .i64 seg,.slice wa lw wc,.slice ka n kc,.slice va lv vc,.slice ca lc cc,.int .u64 laid],.int .i64 ((wnd a h at_*2^(a+h):Nat):Int),.int .i64 (((wnd a h at_*2^(a+h):Nat):Int)+((2^(a+h):Nat):Int))] W (AnsB W (.int .i64 (m h)))))
    (IS:Hid (∀h:Nat,h≤H→∀W,Below w.heap.size w W→Calls Tryd.prog gf (#[.int .i64 h,.int .i64 (m h)]++lb) W (AnsB W (.bool (p h))))):
    Calls Tryd.prog 38 #[.agg #[.int .i64 seg,.slice wa lw wc,.slice ka n kc,.slice va lv vc,.slice ca lc cc,.int .u64 laid],.int .i64 at_,.func (.func gf) #[] lb] w (HighR w a at_ H (topI p (H+1))):=by
 have HWL:=hid (winsL_length a at_ (H+1));have HWG:=hid (fun i (h:i<H+1)=>winsL_get (a:=a) (at_:=at_) h);go_enter Tryd.func38,Tryd.ntmps38
 go_wp2
 refine wp_scope_loop 0 (fun _ _ _=>False) rfl (fun _ _ _ h=>h.elim) ?_;intro HQ hHQ hpass;clear hHQ hpass;go_wp2_with fail
 refine (PA.out _ xbel).mono ?_;rintro e w1 ⟨v1,rfl,ho1,hb1⟩;have hz_w1:=hb1.size;try simp only [World.size_alloc,World.size_setCell] at hz_w1
 have hh:=bc6 hb1 (al6 (b:=w.heap.size) xsi);obtain ⟨c_t0,c_t1,c_t2,c_t3,c_t4,c_t5⟩:=hh;have z_t:=blt hb1 (alz (b:=w.heap.size) xsi);have hB1:Below w.heap.size w w1:=xbel;have HB1:=hid hB1;have hz1:=hB1.size;obtain ⟨ra,rc,rfl,hi1,-,-,hrc,-⟩:=row_of_owns ho1;rw [HWL.out] at hrc ho1 ⊢;have hw1:IntKind.i64.wrap (((H+1:Nat):Int)-1)=((H+1:Nat):Int)-1:=IntWalk.i64_in _ xo;have HR1:=hid hi1;have HO1:=hid ho1;clear hb1 hB1 hi1 ho1;go_wp2
 refine wp_label ?_;go_wp2
 go_loopg [10] (H+1) (fun gk iv wr=>gk≤H+1∧iv= .int .i64 ((gk:Int)-1)∧Hid (topI p (H+1)=topI p gk)∧Hid (Below w1.heap.size w1 wr))
 case atStart=>exact ⟨Nat.le_refl _,by congr 1;omega,hid rfl,hid br⟩
 case round=>
  obtain ⟨hg,rfl,HT,HB⟩:=hrel;rcases Nat.eq_zero_or_pos gk with rfl|hg0
  · have d1:decide ((0:Int)≤((0:Nat):Int)-1)=false:=by decide
    have HB2:=hid (below_via HB.out HB1.out hz1);have HO2:=hid (owns_base (base':=w.heap.size) (owns_below HO1.out HB.out) (by first|omega|(simp;done)));have HV:=hid (HT.out.trans (topI_zero p));go_wp2
    simp only [Exit.jump];go_ret2
    exact ⟨_,by rw [HV.out];rfl,HO2.out,HB2.out⟩
  · obtain ⟨h,rfl⟩:∃h,gk=h+1:=⟨gk-1,by omega⟩
    have e1:(((h+1:Nat):Int)-1)=(h:Int):=xo;rw [e1];have hbr:=HB.out;have hz_wr:=hbr.size;simp (disch:=omega) only [xcl hbr] at c_t0 c_t1 c_t2 c_t3 c_t4 c_t5;replace z_t:=blt hbr z_t;have HB2:=hid (below_via hbr HB1.out hz1);have HO2:=hid (owns_base (base':=w.heap.size) (owns_below HO1.out hbr) (by first|omega|(simp;done)));have hpr:=prI_get (l:=winsL a at_ (H+1)) (i:=h) (by rw [HWL.out];omega);rw [HWG.out h xo] at hpr;obtain ⟨pb,po,x,y,rfl,hx,hy,hc0,hc1,-⟩:=(HR1.out.below hbr).get2 (i:=h) (by rw [prI_length,HWL.out];omega);have ex:((wnd a h at_*2^(a+h):Nat):Int)=x:=by rw [←hx.out,hpr.1]
    have ey:((wnd a h at_*2^(a+h):Nat):Int)+((2^(a+h):Nat):Int)=y:=by rw [←hy.out,hpr.2]
    have hhH:h≤H:=xo;have AM2:=hid (AM.out h hhH);have IS2:=hid (IS.out h hhH);have TY:=hid (fun (q:p h=true)=>topI_yes q);have TN:=hid (fun (q:p h=false)=>topI_no q);have hsub:IntKind.i64.wrap ((h:Int)-1)=(h:Int)-1:=IntWalk.i64_in _ xo;rw [ey,ex] at AM2;generalize m h=mh at *;generalize p h=ph at *;clear hpr hx hy ex ey e1 hbr;go_upto_region 5 with (fail)
    have K0:=hid (fun d os=>kr wr d os (AM2.out _ (below_via (below_regrown wr d os) HB2.out HB2.out.size)));have K1:=hid (fun d os=>kr wr d os (IS2.out _ (below_via (below_regrown wr d os) HB2.out HB2.out.size)));have q0:=cg c_t0;have q1:=cg c_t1;have q2:=cg c_t2;have q3:=cg c_t3;have q4:=cg c_t4;have q5:=cg c_t5;have q6:=cg hc0;have q7:=cg hc1;refine wp_region_quiet_below xk xk ?_;repeat (go_big_quiet_step (first|with_reducible exact K0.out _ _|with_reducible exact K1.out _ _|exact K0.out _ _|exact K1.out _ _))
    refine wpQuiet_nil ?_;intro _ hw';obtain ⟨⟨dq,osq⟩,hw''⟩:=hw';subst hw'';have hbq:=below_regrown wr dq osq;clear q0 q1 q2 q3 q4 q5 q6 q7 K0 K1;generalize Sort.grow (redrawn wr dq) osq=wx at *;have HB4:=xv hbq HB2;have HC4:=xv hbq HB;have HO4:=hid (owns_below HO2.out hbq);clear hbq;cases ph with
    | true=>
     have HV:=hid (HT.out.trans (TY.out rfl));clear TY TN;go_wp2
     simp only [Exit.jump];go_ret2
     exact ⟨_,by rw [HV.out];rfl,HO4.out,HB4.out⟩
    | false=>
     have HV:=hid (HT.out.trans (TN.out rfl));clear TY TN;go_wp2
     go_roundg h
     case measure=>omega
     case rel=>exact ⟨by omega,by first|rfl|rw [hsub]|go_num,HV,HC4⟩
end
section
open Go.RowKit Go.Shelf Go.Sort
theorem Even_core (seg:Int) (wa ka va ca:Option Addr) (wc kc vc cc lw n lv lc:Nat) (laid:Int) (lo hi:Int) (L:List (Int×Int)) (d:SlC) (w:World)
    (PR:Hid (∀W,Below w.heap.size w W→Calls Tryd.prog 41 #[.agg #[.int .i64 seg,.slice wa lw wc,.slice ka n kc,.slice va lv vc,.slice ca lc cc,.int .u64 laid],.int .i64 lo,.int .i64 hi] W (FreshPr2 W L (.int .i64 0))))
    (OV:Hid (∀la pl W,Below w.heap.size w W→IsRow .i64 W la (prI L)→Calls Tryd.prog 67 #[.agg #[.int .i64 seg,.slice wa lw wc,.slice ka n kc,.slice va lv vc,.slice ca lc cc,.int .u64 laid],.int .i64 lo,.int .i64 hi,.slice la L.length pl] W (FreshSl2 W d (.int .i64 0)))):
    Calls Tryd.prog 49 #[.agg #[.int .i64 seg,.slice wa lw wc,.slice ka n kc,.slice va lv vc,.slice ca lc cc,.int .u64 laid],.int .i64 lo,.int .i64 hi] w (FreshSl2 w d (.int .i64 0)):=by
 go_enter Tryd.func49,Tryd.ntmps49
 go_wp2_with fail
 refine (PR.out _ xbel).mono ?_;rintro e w1 ⟨v,rfl,ho1,hb1⟩;have hz_w1:=hb1.size;try simp only [World.size_alloc,World.size_setCell] at hz_w1
 have hh:=bc6 hb1 (au6 (al6 (b:=w.heap.size) xsi));obtain ⟨c_t0,c_t1,c_t2,c_t3,c_t4,c_t5⟩:=hh;have z_t:=blt hb1 (auz (alz (b:=w.heap.size) xsi));have hh:=bc6 hb1 (al6 (b:=w.heap.size+1) xsi);obtain ⟨c_r0,c_r1,c_r2,c_r3,c_r4,c_r5⟩:=hh;have hh:=bf6 hb1 (alz (b:=w.heap.size+1) xsi) (alf6 (b:=w.heap.size+1) xsi);obtain ⟨f_r0,f_r1,f_r2,f_r3,f_r4,f_r5⟩:=hh;have z_r:=blt hb1 (alz (b:=w.heap.size+1) xsi);have hB1:Below w.heap.size w w1:=xbel;have hza:=z_r;obtain ⟨la,pl,rfl,hi1,-,-,-,-⟩:=row_of_owns ho1;have OV1:=hid (OV.out la pl w1 hB1 hi1);have HB1:=hid hB1;clear hb1 hB1 ho1 hi1;go_wp2_with fail
 refine (OV1.out).mono ?_;rintro e w2 ⟨v1,v2,v3,v4,rfl,p1,p2,p3,p4,hb2⟩;have hz_w2:=hb2.size;simp (disch:=omega) only [xcl hb2,xfr hb2] at *;replace z_t:=blt hb2 z_t;replace z_r:=blt hb2 z_r;have hB2:=below_via hb2 HB1.out HB1.out.size;obtain ⟨a1,k1,rfl,-,-,-,-,-⟩:=row_of_owns p1;obtain ⟨a2,k2,rfl,-,-,-,-,-⟩:=row_of_owns p2;obtain ⟨a3,k3,rfl,-,-,-,-,-⟩:=row_of_owns p3;obtain ⟨a4,k4,rfl,-,-,-,-,-⟩:=row_of_owns p4;have HP:=hid (And.intro p1 (And.intro p2 (And.intro p3 p4)));clear p1 p2 p3 p4 hb2;have hz1:w.heap.size+1<w1.heap.size:=hza;go_wp2
 have HC:=hid (six_some ⟨c_r0,c_r1,c_r2,c_r3,c_r4,c_r5⟩);exact end_row (W:=w2) (b:=w.heap.size+1) [.int .i64 d.seg,.slice a1 d.ws.length k1,.slice a2 d.ks.length k2,.slice a3 d.vs.length k3,.slice a4 d.cs.length k4,.int .u64 d.laid] HC rfl rfl (fun _ h=>results_ct rfl rfl (run_loadVar_many _ Tryd.underlying29 rfl xk h)) fun _ s=>⟨_,_,_,_,rfl,s.ow hz1 HP.out.1,s.ow hz1 HP.out.2.1,s.ow hz1 HP.out.2.2.1,s.ow hz1 HP.out.2.2.2,s.be hB2⟩
end
section
open Go.RowKit
section
variable {P:Program}
theorem run_append_full (w:World) (base:Nat) (t ty e:TypeId) (z:Value) (size bytes:Nat) (ht:P.underlying t=some (.slice e))
    (hinfo:(P.info? e).map (fun i=>(i.zero,i.size,i.bytes))=some (some z,size,bytes)) (hzs:z.cells.size=size) (hsz:0<size)
    (bo:Option Addr) (n:Nat) (xs:List Value) (hlo:xs.length=n*size) (hb0:bo=none→n=0) (holds:∀b,bo=some b→∀j u,xs[j]? =some u→w.cell? (b.add j)=some u)
    (ad:Addr) (m c:Nat) (news:List Value) (hl:news.length=m*size) (hnews:∀j u,news[j]? =some u→w.cell? (ad.add j)=some u) (h1:∀u ∈ news,u.oneCell'=true)
    (hm:0<m) (h63:n+m≤4294967296) (hbytes:bytes≤1024) (hbase:base≤w.heap.size):
    ∃ v' w',(Builtin.append_ #[t,t] ty #[.slice bo n n,.slice (some ad) m c]).run P w= .ok v' w'∧w'.ownsRow base e size v' (n+m) (xs++news)∧w.grownBy w' none∧
      (∀k,v'.ownBlock=some k→w.heap.size≤k):=by
 have hm1:n+m≤maxLen:=by unfold maxLen;omega
 have hm2:(n+m)*bytes≤140737488355328:=Nat.le_trans (Nat.mul_le_mul h63 hbytes) xdd;cases bo with
 | none=>
  obtain rfl:=hb0 rfl;have hx:xs=[]:=List.eq_nil_of_length_eq_zero (by simpa using hlo);subst hx;obtain ⟨v',w',hr,ho,hg,hv⟩:=run_append_x (P:=P) w base t ty e z size bytes ht hinfo hzs hsz (.slice none 0 0) 0 [] (World.ownsRow_nil w _ e size) (some ad) m c news hl xzc (fun a h=>by cases h;exact hnews) h1 h63 hbytes hbase;refine ⟨v',w',hr,ho,hg,?_⟩;intro k hk;rcases hv with hv|hv
  · rw [hk] at hv;cases hv
  · exact hv k hk
 | some b=>
  obtain ⟨i,hi,hz,hs,hb⟩:=info_parts hinfo;have hr:=run_append_grow (P:=P) w t ty e i z ht hi hz b n n xs (by rw [hs];exact hlo) (holds b rfl) ad m c news (by rw [hs];exact hl) hnews xo xo (growslice_fits xo (by rw [hb];exact hm2));have hge:=grownCap_ge w (n+m) n e;have hcm:grownCap w (n+m) n e≤maxLen:=grownCap_le_maxLen w (n+m) n e hm1;have hlen:(xs++news).length=(n+m)*size:=by rw [List.length_append,hlo,hl,Nat.add_mul]
  refine ⟨_,_,hr,⟨hlen,.inr ⟨w.heap.size,_,_,rfl,hbase,heap_alloc_new w.drew _,hge,hcm,?_,?_⟩⟩,⟨rfl,rfl,rfl,by simp,fun k hk _=>heap_alloc_old w.drew _ hk⟩,fun k hk=>by cases hk;exact Nat.le_refl _⟩
  · simp only [Array.size_append,List.size_toArray,size_zeroCells,hzs,hlo,hl,←Nat.add_mul];congr 1
    omega
  · simp only [Array.toList_append,List.append_assoc];rw [←List.append_assoc,←hlen];exact List.take_left
end
end
section
open Go.RowKit
section
variable {P:Program} {ops:Array Oper} {Q:Exit→Act→World→Prop}
def OpsOkE (P:Program) (ops:Array Oper) (Q:Exit→Act→World→Prop) (D:List Nat) (t0:Array Value) (n:Nat) (ds:List Deferred) (J:World→Prop) (Ext:Nat→World→World→Prop) (G:Nat→(Nat→Value)→World→Prop):Nat→List Oper→Prop
  | _,[]=>True
  | k,o::rest=>OpOkR P ops Q D t0 n ds J (Ext k) G k o∧OpsOkE P ops Q D t0 n ds J Ext G (k+1) rest
theorem OpsOkE.at {D:List Nat} {t0:Array Value} {n:Nat} {ds:List Deferred} {J:World→Prop} {Ext:Nat→World→World→Prop} {G:Nat→(Nat→Value)→World→Prop}:∀ {l:List Oper} {k:Nat},OpsOkE P ops Q D t0 n ds J Ext G k l→∀ {i:Nat} {o:Oper},l[i]? =some o→OpOkR P ops Q D t0 n ds J (Ext (k+i)) G (k+i) o
  | [],_,_,i,o,ho=>by simp at ho
  | x::rest,k,h,0,o,ho=>by simp at ho;subst ho;exact h.1
  | x::rest,k,h,i+1,o,ho=>by
   have:=OpsOkE.at h.2 (i:=i) (o:=o) (by simpa using ho);rwa [Nat.add_assoc,Nat.add_comm 1 i] at this
theorem wp_region_eff {id:Nat} {l:List Oper} {t0:Array Value} {ds:List Deferred} {w0:World} {N:Nat} (n:Nat) (hm:P.follows .mixedOrders=true) (hn:t0.size=N) (hB:regionL (l.take n) N=true) (hT:tailL l n=true) (hle:n≤l.length)
    (J:World→Prop) (Ext:Nat→World→World→Prop) (G:Nat→(Nat→Value)→World→Prop) (hst:∀i k x w w',k≠i→Ext i w w'→G k x w→G k x w') (hdep:∀(k:Nat) (u u':Nat→Value) (w:World),(∀(j:Nat) (p o:Oper),l[j]? =some p→l[k]? =some o→(j=k∨(o.after.any fun e=>Region.binds .any e&&e.on==j)=true)→valOf u' p=valOf u p)→G k u w→G k u' w) (hJ:J w0.drew)
    (hop:OpsOkE P l.toArray Q (dstsOf (l.take n)) t0 N ds J Ext G 0 (l.take n))
    (hdone:∀(u:Nat→Value) (w:World),J w→(∀(k:Nat) (o:Oper),(l.take n)[k]? =some o→G k u w)→wpList P l.toArray Q (l.drop n) {tmps:=mixFrame (dstsOf (l.take n)) u t0,defers:=ds} w):
    (Code.region id l.toArray true).wp P Q {tmps:=t0,defers:=ds} w0:=by
 subst hn;simp only [regionL,Bool.and_eq_true,List.all_eq_true,decide_eq_true_eq] at hB;obtain ⟨⟨⟨hnd,hlt⟩,hgd⟩,hac⟩:=hB;simp only [tailL,List.all_eq_true,List.mem_range,Bool.or_eq_true,decide_eq_true_eq] at hT;have htk:∀ {k:Nat} {o:Oper},(l.take n)[k]? =some o↔k<n∧l[k]? =some o:=by
  intro k o;rw [List.getElem?_take];by_cases h:k<n
  · rw [if_pos h];exact ⟨fun h1=>⟨h,h1⟩,fun h1=>h1.2⟩
  · rw [if_neg h];exact ⟨fun h1=>(by cases h1),fun h1=>absurd h1.1 h⟩
 refine wp_region_any hm (wpAny_invL (ops:=l.toArray)
   (fun L a w=>((∀i,n≤i→L.getD i false=false)∧∃u:Nat→Value,a= {tmps:=mixFrame (dstsOf (l.take n)) u t0,defers:=ds}∧J w∧∀(k:Nat) (o:Oper),(l.take n)[k]? =some o→L.getD k false=true→G k u w) ∨
     (∃m,n≤m∧m≤l.length∧(∀i,i<m→L.getD i false=true)∧(∀i,m≤i→L.getD i false=false)∧wpList P l.toArray Q (l.drop m) a w))
   ?_ ?_ ?_ _ _ _ _ xsi (leftOf_le _ _) (fun j p hp hj=>by simp [Array.getD] at hj) (.inl ⟨fun i _=>by rw [List.size_toArray];simp [Array.getD],fun t=>t0.getD t undef,by rw [mixFrame_start],hJ,fun k o _ h=> ?_⟩))
 · intro i o ho e he hb;have hi:i<l.length:=(Array.getElem?_eq_some_iff.1 ho).1;rw [List.getElem?_toArray] at ho;by_cases hin:i<n
   · have h1:(l.take n)[i]? =some o:=htk.2 ⟨hin,ho⟩;have:=hac i (List.mem_range.2 (List.getElem?_eq_some_iff.1 h1).1);rw [h1] at this;have h2:=Array.all_eq_true_iff_forall_mem.1 this e he;rw [hb] at h2;simpa using h2
   · have h1:=hT i hi;rcases h1 with h1|h1
     · omega
     · rw [ho] at h1;simp only [Bool.and_eq_true] at h1;have h2:=Array.all_eq_true_iff_forall_mem.1 h1.2 e he;rw [hb] at h2;simpa using h2
 · rintro L a w i o hs ho hi hall hcl hI;rw [List.getElem?_toArray] at ho;have hil:i<l.length:=(List.getElem?_eq_some_iff.1 ho).1;have hilt:i<L.size:=by rw [hs];simpa using hil
   have ahead:n≤i→∀j,j<i→L.getD j false=true:=by
    intro hin j hj;have h1:=hT i hil;rcases h1 with h1|h1
    · omega
    · simp only [Bool.and_eq_true,decide_eq_true_eq] at h1;have hbit:((masksOf l []).getD i 0).testBit j=true:=by
       have h2:=congrArg (fun m=>Nat.testBit m j) h1.1;simp only [Nat.testBit_mod_two_pow,Nat.testBit_two_pow_sub_one,decide_eq_true hj,Bool.true_and] at h2;exact h2
      exact masks_sound hcl l [] 0 rfl (fun j=>by rw [Nat.zero_add]) (fun i hi=>by omega) i o ho hall j hbit
   have later:∀(m:Nat),n≤m→m=i→(∀j,m≤j→L.getD j false=false)→(∀j,j<m→L.getD j false=true)→wpList P l.toArray Q (l.drop m) a w→
       wpOp P l.toArray Q i (fun a' w'=>((∀k,n≤k→(L.setIfInBounds i true).getD k false=false)∧∃u:Nat→Value,a'= {tmps:=mixFrame (dstsOf (l.take n)) u t0,defers:=ds}∧J w'∧∀(k:Nat) (o:Oper),(l.take n)[k]? =some o→(L.setIfInBounds i true).getD k false=true→G k u w') ∨
         (∃m,n≤m∧m≤l.length∧(∀k,k<m→(L.setIfInBounds i true).getD k false=true)∧(∀k,m≤k→(L.setIfInBounds i true).getD k false=false)∧wpList P l.toArray Q (l.drop m) a' w')) a w:=by
    rintro m hnm rfl hno hyes hw;refine wpOp_mono (fun a' w' h=> .inr ⟨m+1,by omega,by omega,fun k hk=> ?_,fun k hk=> ?_,h⟩) (wpOp_of_list ho hw)
    · by_cases e:k=m
      · subst e;exact set_same hilt
      · rw [set_else e];exact hyes k xo
    · rw [set_else xo];exact hno k xo
   rcases hI with ⟨hno,u,rfl,hJw,hG⟩ | ⟨m,hnm,hml,hyes,hno,hw⟩
   · by_cases hin:i<n
     · have htki:(l.take n)[i]? =some o:=htk.2 ⟨hin,ho⟩;have hok:=hop.at htki;rw [Nat.zero_add] at hok;have hg:o.guard=none:=by
        have:=hgd o (List.mem_of_getElem? htki);cases hx:o.guard with
        | none=>rfl
        | some x=>rw [hx] at this;cases this
       unfold wpOp;simp only [List.getElem?_toArray,ho];rw [if_pos (by simp [Region.wanted,hg])];left;refine hok u _ w (fun t ht=>mixFrame_get ht) hJw (fun j p hj hp=> ?_) _ (fun v w' hv hJ' hG' hE=> .inl ⟨fun k hk=>by rw [set_else xo];exact hno k hk,?_⟩)
       · rw [List.getElem?_toArray] at hp;obtain ⟨e,he,hbe⟩:=Array.any_eq_true.1 hj;simp only [Bool.and_eq_true,beq_iff_eq] at hbe;have hl:=hall _ (Array.getElem_mem he) hbe.1;rw [hbe.2] at hl;have hjn:j<n:=by
          by_cases h:j<n
          · exact h
          · rw [hno j xo] at hl;cases hl
         exact hG j p (htk.2 ⟨hjn,hp⟩) hl
       · cases hd:o.dst with
         | none=>
          refine ⟨u,rfl,hJ',fun k p hp hk=> ?_⟩;by_cases e:k=i
          · subst e;have:=hG';unfold updR at this;rw [hd] at this;exact this
          · rw [set_else e] at hk;exact hst _ _ _ _ _ e hE (hG k p hp hk)
         | some d=>
          have hdm:(dstsOf (l.take n)).contains d=true:=by
           simp only [List.contains_iff_mem];exact List.mem_filterMap.2 ⟨o,List.mem_of_getElem? htki,hd⟩
          refine ⟨fun t=>if t=d then v else u t,by simp only [Act.put,mixFrame_put hdm],hJ',fun k p hp hk=> ?_⟩;by_cases e:k=i
          · subst e;have:=hG';unfold updR at this;rw [hd] at this;exact this
          · rw [set_else e] at hk;refine hst _ _ _ _ _ e hE (hdep k u _ w (fun j p' o' hj ho' hor=> ?_) (hG k p hp hk));have hjl:L.getD j false=true:=by
             rcases hor with rfl|hor
             · exact hk
             · obtain ⟨e',he',hbe⟩:=Array.any_eq_true.1 hor;simp only [Bool.and_eq_true,beq_iff_eq] at hbe;have:=hcl k o' (by rw [List.getElem?_toArray];exact ho') hk _ (Array.getElem_mem he') hbe.1;rw [hbe.2] at this;exact this
            have hji:j≠i:=fun h=>by rw [h,hi] at hjl;cases hjl
            have hjn:j<n:=by
             by_cases h:j<n
             · exact h
             · rw [hno j xo] at hjl;cases hjl
            have hne:=nodup_slot hnd htki (htk.2 ⟨hjn,hj⟩) (fun h=>hji h.symm) hd;unfold valOf;cases hpd:p'.dst with
            | none=>rfl
            | some d'=>exact if_neg (fun h=>hne (by rw [hpd,h]))
     · have hin':n=i:=by
         by_cases e:n=i
         · exact e
         · have:=ahead xo n xo;rw [hno n (Nat.le_refl _)] at this;cases this
       refine later n (Nat.le_refl _) hin' hno (fun j hj=>ahead xo j xo) (hdone u w hJw fun k p hp=>hG k p hp (ahead xo k ?_));have:=(htk.1 hp).1;omega
   · have him:m≤i:=by
       by_cases h:m≤i
       · exact h
       · have:=hyes i xo;rw [hi] at this;cases this
     have hmi:m=i:=by
      by_cases e:m=i
      · exact e
      · have:=ahead xo m xo;rw [hno m (Nat.le_refl _)] at this;cases this
     exact later m hnm hmi hno hyes hw
 · rintro L a w hs hall hI;rw [List.size_toArray] at hall;rcases hI with ⟨hno,u,rfl,hJw,hG⟩ | ⟨m,hnm,hml,hyes,hno,hw⟩
   · have hnl:n=l.length:=by
       by_cases e:n=l.length
       · exact e
       · have:=hall n xo;rw [hno n (Nat.le_refl _)] at this;cases this
     have hq:=hdone u w hJw fun k p hp=>hG k p hp (hall k (by have:=(htk.1 hp).1;omega))
     have hd:l.drop n=[]:=by rw [hnl];exact List.drop_length
     rw [hd] at hq;exact hq
   · have hml':m=l.length:=by
       by_cases e:m=l.length
       · exact e
       · have:=hall m xo;rw [hno m (Nat.le_refl _)] at this;cases this
     rw [hml',List.drop_length] at hw;exact hw
 · rw [List.size_toArray] at h;simp [Array.getD] at h
end
end
end Go.Proofs.YtmnlagmmbfjbeaaDoor

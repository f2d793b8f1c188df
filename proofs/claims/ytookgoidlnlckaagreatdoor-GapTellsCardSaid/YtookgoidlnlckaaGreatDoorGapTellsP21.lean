/- Merged: PutW, Ref08, LayW, Put02. -/
import Derived.Test.YtookgoidlnlckaaGreatDoorGapTellsP20
import Derived.Test.YtookgoidlnlckaaGreatDoorGapTellsP11
import Derived.Test.YtookgoidlnlckaaGreatDoorGapTellsP16
import Derived.Deep.CutRange
import Derived.Test.YtookgoidlnlckaaGreatDoorGapTellsP19
import Derived.Test.YtookgoidlnlckaaGreatDoorGapTellsP9
import Derived.Test.YtookgoidlnlckaaGreatDoorGapTellsP14
namespace Go.Proofs.YtookgoidlnlckaaGreatDoor
set_option maxRecDepth 100000
set_option maxHeartbeats 40000000
set_option linter.unusedVariables false
set_option linter.unusedSimpArgs false
section
open Go.RowKit Go.Shelf Go.Sort
theorem home_ok (seg:Int) (wa ka va ca:Option Addr) (wc kc vc cc lw n lv lc:Nat) (laid:Int) (k at_:Nat) (e:Int) (hk:k≤65536) (w:World) (NT:Hid (∀W,Below w.heap.size w W→Calls Tryz.prog 31 #[.slice wa lw wc,.int .i64 n,.int .i64 ((k-1:Nat):Int)] W (AnsB W (.tuple #[.int .i64 at_,.int .i64 e])))):
    Calls Tryz.prog 24 #[.agg #[.int .i64 seg,.slice wa lw wc,.slice ka n kc,.slice va lv vc,.slice ca lc cc,.int .u64 laid],.int .i64 k] w (AnsB w (.int .i64 at_)):=by
 rcases Nat.eq_zero_or_pos k with rfl|hk0
 · rw [show ((0-1:Nat):Int)=0 from rfl] at NT;clear hk;go_enter Tryz.func24,Tryz.ntmps24
   go_wp2_with fail
   refine (NT.out _ xbel).mono ?_;rintro e w1 ⟨rfl,hb1⟩;have hz_w1:=hb1.size;try simp only [World.size_alloc,World.size_setCell] at hz_w1
   have hh:=bc6 hb1 (al6 (b:=w.heap.size) (by simp));obtain ⟨c_t0,c_t1,c_t2,c_t3,c_t4,c_t5⟩:=hh;have z_t:=blt hb1 (alz (b:=w.heap.size) (by simp));have hB1:Below w.heap.size w w1:=xbel;go_wp2
   go_ret
   exact ⟨rfl,hB1⟩
 · have hw1:IntKind.i64.wrap ((k:Int)-1)=((k-1:Nat):Int):=by rw [show (k:Int)-1=((k-1:Nat):Int) by omega];exact IntWalk.i64_in _ xo
   have hlt:¬(((k-1:Nat):Int)<0):=xo;have hld:decide (((k-1:Nat):Int)<0)=false:=by simp
   have hgt:decide ((0:Int)<((k-1:Nat):Int))=decide ((0:Int)<((k-1:Nat):Int)):=rfl;clear hgt;go_enter Tryz.func24,Tryz.ntmps24
   go_wp2_with fail
   refine (NT.out _ xbel).mono ?_;rintro e w1 ⟨rfl,hb1⟩;have hz_w1:=hb1.size;try simp only [World.size_alloc,World.size_setCell] at hz_w1
   have hh:=bc6 hb1 (al6 (b:=w.heap.size) (by simp));obtain ⟨c_t0,c_t1,c_t2,c_t3,c_t4,c_t5⟩:=hh;have z_t:=blt hb1 (alz (b:=w.heap.size) (by simp));have hB1:Below w.heap.size w w1:=xbel;go_wp2
   go_ret
   exact ⟨rfl,hB1⟩
theorem putIs_ok (c:Cfg) (size:Int) (h:Nat) (n:Int) (f:Bool) (x:Int) (b1 b2:Nat) (hn:0≤n∧n≤65536) (w:World)
    (c_m0:w.cell? ⟨b1,0,none⟩=some (.int .u8 c.tag))
    (c_m1:w.cell? ⟨b1,1,none⟩=some (.int .i64 c.most))
    (c_m2:w.cell? ⟨b1,2,none⟩=some (.int .i64 c.seg))
    (c_m3:w.cell? ⟨b1,3,none⟩=some (.int .i64 c.least))
    (c_m4:w.cell? ⟨b1,4,none⟩=some (.int .i64 c.den))
    (c_m5:w.cell? ⟨b1,5,none⟩=some (.int .i64 c.ll))
    (c_m6:w.cell? ⟨b1,6,none⟩=some (.int .i64 c.rl))
    (c_m7:w.cell? ⟨b1,7,none⟩=some (.int .i64 c.rh))
    (c_m8:w.cell? ⟨b1,8,none⟩=some (.int .i64 c.lh))
    (c_s0:w.cell? ⟨b2,0,none⟩=some (.int .i64 size))
    (FU:Hid (∀W,Below w.heap.size w W→Calls Tryz.prog 22 #[.agg #[.int .u8 c.tag,.int .i64 c.most,.int .i64 c.seg,.int .i64 c.least,.int .i64 c.den,.int .i64 c.ll,.int .i64 c.rl,.int .i64 c.rh,.int .i64 c.lh],.int .i64 size,.int .i64 h,.int .i64 (n+1)] W (AnsB W (.tuple #[.bool f,.int .i64 x])))):
    Calls Tryz.prog 21 #[.int .i64 h,.int .i64 n,.pointer (some ⟨b1,0,none⟩),.pointer (some ⟨b2,0,none⟩)] w (AnsB w (.bool !f)):=by
 have hw1:IntKind.i64.wrap (n+1)=n+1:=IntWalk.i64_in _ xo;go_enter Tryz.func21,Tryz.ntmps21
 go_wp2_with fail
 refine (FU.out _ xbel).mono ?_;rintro e w1 ⟨rfl,hb1⟩;go_wp2
 go_ret
 exact ⟨rfl,hb1⟩
theorem takeIs_ok (c:Cfg) (seg:Int) (wa ka va ca:Option Addr) (wc kc vc cc lw n lv lc:Nat) (laid:Int) (h:Nat) (m:Int) (f:Bool) (x:Int) (b1 b2:Nat) (w:World)
    (c_m0:w.cell? ⟨b1,0,none⟩=some (.int .u8 c.tag))
    (c_m1:w.cell? ⟨b1,1,none⟩=some (.int .i64 c.most))
    (c_m2:w.cell? ⟨b1,2,none⟩=some (.int .i64 c.seg))
    (c_m3:w.cell? ⟨b1,3,none⟩=some (.int .i64 c.least))
    (c_m4:w.cell? ⟨b1,4,none⟩=some (.int .i64 c.den))
    (c_m5:w.cell? ⟨b1,5,none⟩=some (.int .i64 c.ll))
    (c_m6:w.cell? ⟨b1,6,none⟩=some (.int .i64 c.rl))
    (c_m7:w.cell? ⟨b1,7,none⟩=some (.int .i64 c.rh))
    (c_m8:w.cell? ⟨b1,8,none⟩=some (.int .i64 c.lh))
    (c_s0:w.cell? ⟨b2,0,none⟩=some (.int .i64 seg))
    (c_s1:w.cell? ⟨b2,1,none⟩=some (.slice wa lw wc))
    (c_s2:w.cell? ⟨b2,2,none⟩=some (.slice ka n kc))
    (c_s3:w.cell? ⟨b2,3,none⟩=some (.slice va lv vc))
    (c_s4:w.cell? ⟨b2,4,none⟩=some (.slice ca lc cc))
    (c_s5:w.cell? ⟨b2,5,none⟩=some (.int .u64 laid))
    (FU:Hid (∀W,Below w.heap.size w W→Calls Tryz.prog 34 #[.agg #[.int .u8 c.tag,.int .i64 c.most,.int .i64 c.seg,.int .i64 c.least,.int .i64 c.den,.int .i64 c.ll,.int .i64 c.rl,.int .i64 c.rh,.int .i64 c.lh],.int .i64 n,.int .i64 h,.int .i64 m] W (AnsB W (.tuple #[.bool f,.int .i64 x])))):
    Calls Tryz.prog 33 #[.int .i64 h,.int .i64 m,.pointer (some ⟨b1,0,none⟩),.pointer (some ⟨b2,0,none⟩)] w (AnsB w (.bool !f)):=by
 go_enter Tryz.func33,Tryz.ntmps33
 go_wp2_with fail
 refine (FU.out _ xbel).mono ?_;rintro e w1 ⟨rfl,hb1⟩;go_wp2
 go_ret
 exact ⟨rfl,hb1⟩
def HighR (w:World) (a at_ H:Nat) (t:Int) (e:Ending) (w':World):Prop:=
  ∃v,e= .returned (.tuple #[.int .i64 t,v])∧w'.ownsRow w.heap.size 56 2 v (H+1) ((prI (winsL a at_ (H+1))).map (Value.int .i64))∧Below w.heap.size w w'
theorem highest_ok (seg:Int) (wa ka va ca:Option Addr) (wc kc vc cc lw n lv lc:Nat) (laid:Int) (a H at_:Nat) (hH:H≤14) (p:Nat→Bool) (m:Nat→Int) (gf:FuncId) (lb:Array Value) (eg:∀args w,(callFunc gf args).run Tryz.prog w= .ok (.enter gf args) w) (w:World)
    (PA:Hid (∀W,Below w.heap.size w W→Calls Tryz.prog 55 #[.int .i64 seg,.int .i64 n,.int .i64 at_] W (FreshW2 W (winsL a at_ (H+1)) (.int .i64 0))))
    (AM:Hid (∀h,h≤H→∀W,Below w.heap.size w W→Calls Tryz.prog 20 #[.agg #[.int .i64 seg,.slice wa lw wc,.slice ka n kc,.slice va lv vc,.slice ca lc cc,.int .u64 laid],.int .i64 ((wnd a h at_*2^(a+h):Nat):Int),.int .i64 (((wnd a h at_*2^(a+h):Nat):Int)+((2^(a+h):Nat):Int))] W (AnsB W (.int .i64 (m h)))))
    (IS:Hid (∀h:Nat,h≤H→∀W,Below w.heap.size w W→Calls Tryz.prog gf (#[.int .i64 h,.int .i64 (m h)]++lb) W (AnsB W (.bool (p h))))):
    Calls Tryz.prog 23 #[.agg #[.int .i64 seg,.slice wa lw wc,.slice ka n kc,.slice va lv vc,.slice ca lc cc,.int .u64 laid],.int .i64 at_,.func (.func gf) #[] lb] w (HighR w a at_ H (topI p (H+1))):=by
 have HWL:=hid (winsL_length a at_ (H+1));have HWG:=hid (fun i (h:i<H+1)=>winsL_get (a:=a) (at_:=at_) h);go_enter Tryz.func23,Tryz.ntmps23
 go_wp2
 refine wp_scope_loop 0 (fun _ _ _=>False) rfl (fun _ _ _ h=>h.elim) ?_;intro HQ hHQ hpass;clear hHQ hpass;go_wp2_with fail
 refine (PA.out _ xbel).mono ?_;rintro e w1 ⟨v1,rfl,ho1,hb1⟩;have hz_w1:=hb1.size;try simp only [World.size_alloc,World.size_setCell] at hz_w1
 have hh:=bc6 hb1 (al6 (b:=w.heap.size) (by simp));obtain ⟨c_t0,c_t1,c_t2,c_t3,c_t4,c_t5⟩:=hh;have z_t:=blt hb1 (alz (b:=w.heap.size) (by simp));have hB1:Below w.heap.size w w1:=xbel;have HB1:=hid hB1;have hz1:=hB1.size;obtain ⟨ra,rc,rfl,hi1,-,-,hrc,-⟩:=row_of_owns ho1;rw [HWL.out] at hrc ho1 ⊢;have hw1:IntKind.i64.wrap (((H+1:Nat):Int)-1)=((H+1:Nat):Int)-1:=IntWalk.i64_in _ xo;have HR1:=hid hi1;have HO1:=hid ho1;clear hb1 hB1 hi1 ho1;go_wp2
 refine wp_label ?_;go_wp2
 go_loopg [10] (H+1) (fun gk iv wr=>gk≤H+1∧iv= .int .i64 ((gk:Int)-1)∧Hid (topI p (H+1)=topI p gk)∧Hid (Below w1.heap.size w1 wr))
 case atStart=>exact ⟨Nat.le_refl _,by congr 1;omega,hid rfl,hid (Below.refl _ _)⟩
 case round=>
  obtain ⟨hg,rfl,HT,HB⟩:=hrel;rcases Nat.eq_zero_or_pos gk with rfl|hg0
  · have d1:decide ((0:Int)≤((0:Nat):Int)-1)=false:=by decide
    have HB2:=hid (below_via HB.out HB1.out hz1);have HO2:=hid (owns_base (base':=w.heap.size) (owns_below HO1.out HB.out) (by first|omega|(simp;done)));have HV:=hid (HT.out.trans (topI_zero p));go_wp2
    simp only [Exit.jump];go_ret2
    exact ⟨_,by rw [HV.out];rfl,HO2.out,HB2.out⟩
  · obtain ⟨h,rfl⟩:∃h,gk=h+1:=⟨gk-1,by omega⟩
    have e1:(((h+1:Nat):Int)-1)=(h:Int):=xo;rw [e1];have hbr:=HB.out;have hz_wr:=hbr.size;simp (disch:=omega) only [xcl hbr] at c_t0 c_t1 c_t2 c_t3 c_t4 c_t5;replace z_t:=blt hbr z_t;have HB2:=hid (below_via hbr HB1.out hz1);have HO2:=hid (owns_base (base':=w.heap.size) (owns_below HO1.out hbr) (by first|omega|(simp;done)));have hpr:=prI_get (l:=winsL a at_ (H+1)) (i:=h) (by rw [HWL.out];omega);rw [HWG.out h xo] at hpr;obtain ⟨pb,po,x,y,rfl,hx,hy,hc0,hc1,-⟩:=(HR1.out.below hbr).get2 (i:=h) (by rw [prI_length,HWL.out];omega);have ex:((wnd a h at_*2^(a+h):Nat):Int)=x:=by rw [←hx.out,hpr.1]
    have ey:((wnd a h at_*2^(a+h):Nat):Int)+((2^(a+h):Nat):Int)=y:=by rw [←hy.out,hpr.2]
    have hhH:h≤H:=xo;have AM2:=hid (AM.out h hhH);have IS2:=hid (IS.out h hhH);have TY:=hid (fun (q:p h=true)=>topI_yes q);have TN:=hid (fun (q:p h=false)=>topI_no q);have hsub:IntKind.i64.wrap ((h:Int)-1)=(h:Int)-1:=IntWalk.i64_in _ xo;rw [ey,ex] at AM2;generalize m h=mh at *;generalize p h=ph at *;clear hpr hx hy ex ey e1 hbr;go_upto_region 5 with (fail)
    have K0:=hid (fun d os=>Calls.regrown_of (w:=wr) (d:=d) (os:=os) (AM2.out (grow (redrawn wr d) os) (below_via (below_regrown wr d os) HB2.out HB2.out.size)));have K1:=hid (fun d os=>Calls.regrown_of (w:=wr) (d:=d) (os:=os) (IS2.out (grow (redrawn wr d) os) (below_via (below_regrown wr d os) HB2.out HB2.out.size)));have q0:=cell_regrown c_t0;have q1:=cell_regrown c_t1;have q2:=cell_regrown c_t2;have q3:=cell_regrown c_t3;have q4:=cell_regrown c_t4;have q5:=cell_regrown c_t5;have q6:=cell_regrown hc0;have q7:=cell_regrown hc1;refine wp_region_quiet_below xk xk ?_;repeat (go_big_quiet_step (first|with_reducible exact K0.out _ _|with_reducible exact K1.out _ _|exact K0.out _ _|exact K1.out _ _))
    refine wpQuiet_nil ?_;intro _ hw';obtain ⟨⟨dq,osq⟩,hw''⟩:=hw';subst hw'';have hbq:=below_regrown wr dq osq;clear q0 q1 q2 q3 q4 q5 q6 q7 K0 K1;generalize Sort.grow (redrawn wr dq) osq=wx at *;have HB4:=xv hbq HB2;have HC4:=xv hbq HB;have HO4:=hid (owns_below HO2.out hbq);clear hbq;cases ph with
    | true=>
     have HV:=hid (HT.out.trans (TY.out rfl));clear TY TN;go_wp2
     simp only [Exit.jump];go_ret2
     exact ⟨_,by rw [HV.out];rfl,HO4.out,HB4.out⟩
    | false=>
     have HV:=hid (HT.out.trans (TN.out rfl));clear TY TN;go_wp2
     go_roundg h
     case measure=>omega
     case rel=>exact ⟨by omega,by first|rfl|rw [hsub]|go_num,HV,HC4⟩
end
section
open Go.RowKit Go.Shelf
attribute [local go_sem] Oper.semAt_some
theorem Spread08_core (w:World) (seg:Int) (wa ka va ca:Option Addr) (wc kc vc cc lw n lv lc:Nat) (laid:Int) (lo hi m:Nat) (ps:List Int) (la:Option Addr) (pl:Nat) (d:SlC) (hps:ps.length=m)
    (OF:Hid (∀W,Below w.heap.size w W→Calls Tryz.prog 101 #[.int .i64 m,.int .i64 lo,.int .i64 hi] W (FreshInts W ps)))
    (FI:Hid (∀W pa pc,Below w.heap.size w W→IsRow .i64 W pa ps→Calls Tryz.prog 100 #[.agg #[.int .i64 seg,.slice wa lw wc,.slice ka n kc,.slice va lv vc,.slice ca lc cc,.int .u64 laid],.int .i64 lo,.int .i64 hi,.slice pa m pc,.slice la m pl] W (FreshSl W d))):
    Calls Tryz.prog 67 #[.agg #[.int .i64 seg,.slice wa lw wc,.slice ka n kc,.slice va lv vc,.slice ca lc cc,.int .u64 laid],.int .i64 lo,.int .i64 hi,.slice la m pl] w (FreshSl w d):=by
 have HPL:=hid hps;clear hps;go_enter Tryz.func67,Tryz.ntmps67
 go_upto_region 1 with (fail)
 generalize hwz:(w.alloc (.cells #[.int .i64 seg,.slice wa lw wc,.slice ka n kc,.slice va lv vc,.slice ca lc cc,.int .u64 laid] 29)).alloc (.cells #[.int .i64 0,.slice none 0 0,.slice none 0 0,.slice none 0 0,.slice none 0 0,.int .u64 0] 29)=wz;have hh:=ec6 hwz (au6 (al6 (b:=w.heap.size) (by simp)));obtain ⟨c_t0,c_t1,c_t2,c_t3,c_t4,c_t5⟩:=hh;have z_t:=elt hwz (auz (alz (b:=w.heap.size) (by simp)));have hh:=ec6 hwz (al6 (b:=w.heap.size+1) (by simp));obtain ⟨c_r0,c_r1,c_r2,c_r3,c_r4,c_r5⟩:=hh;have hh:=ef6 hwz (alf6 (b:=w.heap.size+1) (by simp));obtain ⟨f_r0,f_r1,f_r2,f_r3,f_r4,f_r5⟩:=hh;have z_r:=elt hwz (alz (b:=w.heap.size+1) (by simp));have HS:Hid (Below w.heap.size w wz):=by rw [←hwz];exact hid xbel
 have hz:w.heap.size+2=wz.heap.size:=by rw [←hwz];simp
 clear hwz;refine wp_region_late 9 xk (N:=19) rfl xk xk (by decide) (fun w'=>Below wz.heap.size wz w') RB (factRAt [.is (.agg #[.int .i64 seg,.slice wa lw wc,.slice ka n kc,.slice va lv vc,.slice ca lc cc,.int .u64 laid]),.is (.int .i64 lo),.is (.int .i64 hi),.is (.slice la m pl),.is (.int .i64 m),.is (.int .i64 lo),.is (.int .i64 hi),.row wz.heap.size 3 m (ps.map (Value.int .i64)),.is (.slice la m pl)]) (factRAt_stays _) (Below.refl _ _).drew ?steps ?fin
 case steps=>
  refine ⟨?o0,?o1,?o2,?o3,?o4,?o5,?o6,?o7,?o8,trivial⟩
  case o0=>
   intro u a w' ev hJ hd K hK;have e4:a.tmps.getD 4 undef= .pointer (some ⟨w.heap.size,0,none⟩):=ev 4 (by decide);have g0:=(hJ.cell (p:=⟨w.heap.size,0,none⟩) xdo).trans c_t0;have g1:=(hJ.cell (p:=⟨w.heap.size,1,none⟩) xdo).trans c_t1;have g2:=(hJ.cell (p:=⟨w.heap.size,2,none⟩) xdo).trans c_t2;have g3:=(hJ.cell (p:=⟨w.heap.size,3,none⟩) xdo).trans c_t3;have g4:=(hJ.cell (p:=⟨w.heap.size,4,none⟩) xdo).trans c_t4;have g5:=(hJ.cell (p:=⟨w.heap.size,5,none⟩) xdo).trans c_t5;have HK:=hid hK;clear hK ev hd;go_simp;exact HK.out _ _ xzc hJ rfl (Below.refl _ _)
  case o1=>
   intro u a w' ev hJ hd K hK;have e1:a.tmps.getD 1 undef= .int .i64 lo:=ev 1 (by decide);have HK:=hid hK;clear hK ev hd;go_simp;exact HK.out _ _ xzc hJ rfl (Below.refl _ _)
  case o2=>
   intro u a w' ev hJ hd K hK;have e2:a.tmps.getD 2 undef= .int .i64 hi:=ev 2 (by decide);have HK:=hid hK;clear hK ev hd;go_simp;exact HK.out _ _ xzc hJ rfl (Below.refl _ _)
  case o3=>
   intro u a w' ev hJ hd K hK;have e3:a.tmps.getD 3 undef= .slice la m pl:=ev 3 (by decide);have HK:=hid hK;clear hK ev hd;go_simp;exact HK.out _ _ xzc hJ rfl (Below.refl _ _)
  case o4=>
   intro u a w' ev hJ hd K hK;have e12:a.tmps.getD 12 undef= .slice la m pl:=(ev 12 (by decide)).trans (hd 3 _ xk rfl);have HK:=hid hK;clear hK ev hd;go_simp;exact HK.out _ _ xzc hJ rfl (Below.refl _ _)
  case o5=>
   intro u a w' ev hJ hd K hK;have e1:a.tmps.getD 1 undef= .int .i64 lo:=ev 1 (by decide);have HK:=hid hK;clear hK ev hd;go_simp;exact HK.out _ _ xzc hJ rfl (Below.refl _ _)
  case o6=>
   intro u a w' ev hJ hd K hK;have e2:a.tmps.getD 2 undef= .int .i64 hi:=ev 2 (by decide);have HK:=hid hK;clear hK ev hd;go_simp;exact HK.out _ _ xzc hJ rfl (Below.refl _ _)
  case o7=>
   intro u a w' ev hJ hd K hK;have e13:a.tmps.getD 13 undef= .int .i64 m:=(ev 13 (by decide)).trans (hd 4 _ xk rfl);have e14:a.tmps.getD 14 undef= .int .i64 lo:=(ev 14 (by decide)).trans (hd 5 _ xk rfl);have e15:a.tmps.getD 15 undef= .int .i64 hi:=(ev 15 (by decide)).trans (hd 6 _ xk rfl);have HK:=hid hK;have HC:=hid (OF.out w' (below_via hJ HS.out HS.out.size));have hzJ:=hJ.size;have HJ:=hid hJ;clear hK ev hd hJ;go_simp;refine HC.out.mono ?_;rintro e w'' ⟨v,rfl,ho,hb⟩;rw [HPL.out] at ho;exact HK.out _ _ xzc (HJ.out.trans (hb.mono hzJ)) (owns_base ho hzJ) hb
  case o8=>
   intro u a w' ev hJ hd K hK;have e3:a.tmps.getD 3 undef= .slice la m pl:=ev 3 (by decide);have HK:=hid hK;clear hK ev hd;go_simp;exact HK.out _ _ xzc hJ rfl (Below.refl _ _)
 case fin=>
  intro u w2 hJ hG;have h9:u 9= .agg #[.int .i64 seg,.slice wa lw wc,.slice ka n kc,.slice va lv vc,.slice ca lc cc,.int .u64 laid]:=hG 0 _ rfl;have h10:u 10= .int .i64 lo:=hG 1 _ rfl;have h11:u 11= .int .i64 hi:=hG 2 _ rfl;have h17:u 17= .slice la m pl:=hG 8 _ rfl;have ho:w2.ownsRow wz.heap.size 3 1 (u 16) m (ps.map (Value.int .i64)):=hG 7 _ rfl;obtain ⟨pa,pc,h16,hi2,-⟩:=row_of_owns ho;have HB2:=xv hJ HS;have HC:=hid (FI.out w2 pa pc HB2.out hi2);have hz_w2:=hJ.size;simp (disch:=omega) only [xcl hJ,xfr hJ] at c_t0 c_t1 c_t2 c_t3 c_t4 c_t5 c_r0 c_r1 c_r2 c_r3 c_r4 c_r5 f_r0 f_r1 f_r2 f_r3 f_r4 f_r5;replace z_t:=blt hJ z_t;replace z_r:=blt hJ z_r;clear hG ho hJ hi2;simp only [mixFrame,mixL,dstsOf,List.take_succ_cons,List.take_zero,List.filterMap_cons,List.filterMap_nil,List.contains_cons,List.contains_nil,Nat.reduceBEq,Bool.or_false,Bool.false_or,Bool.or_true,Bool.true_or,if_true,if_false,Bool.false_eq_true,Nat.reduceAdd,Nat.zero_add,List.drop_succ_cons,List.drop_zero,h9,h10,h11,h16,h17];go_wp2_with fail
  refine HC.out.mono ?_;rintro e w3 ⟨v1,v2,v3,v4,rfl,p1,p2,p3,p4,hb3⟩;have hz_w3:=hb3.size;simp (disch:=omega) only [xcl hb3,xfr hb3] at c_t0 c_t1 c_t2 c_t3 c_t4 c_t5 c_r0 c_r1 c_r2 c_r3 c_r4 c_r5 f_r0 f_r1 f_r2 f_r3 f_r4 f_r5;replace z_t:=blt hb3 z_t;replace z_r:=blt hb3 z_r;have HB3:=xv hb3 HB2;have hz3:=HB2.out.size;obtain ⟨a1,k1,rfl,-⟩:=owns_news p1;obtain ⟨a2,k2,rfl,-⟩:=owns_news p2;obtain ⟨a3,k3,rfl,-⟩:=owns_news p3;obtain ⟨a4,k4,rfl,-⟩:=owns_news p4;have HP1:=hid p1;have HP2:=hid p2;have HP3:=hid p3;have HP4:=hid p4;clear p1 p2 p3 p4;clear hb3;go_wp2
  have HQ:Hid (∀q,q≠w.heap.size+1→((((((w3.setCell ⟨w.heap.size+1,0,none⟩ (.int .i64 d.seg)).setCell ⟨w.heap.size+1,1,none⟩ (.slice a1 d.ws.length k1)).setCell ⟨w.heap.size+1,2,none⟩ (.slice a2 d.ks.length k2)).setCell ⟨w.heap.size+1,3,none⟩ (.slice a3 d.vs.length k3)).setCell ⟨w.heap.size+1,4,none⟩ (.slice a4 d.cs.length k4)).setCell ⟨w.heap.size+1,5,none⟩ (.int .u64 d.laid)).heap[q]? =w3.heap[q]?):=hid fun q hq=>by
   rw [heap_setCell_ne _ _ _ hq,heap_setCell_ne _ _ _ hq,heap_setCell_ne _ _ _ hq,heap_setCell_ne _ _ _ hq,heap_setCell_ne _ _ _ hq,heap_setCell_ne _ _ _ hq]
  refine bodyPost_ret (results_c rfl rfl (run_loadVar_many _ Tryz.underlying29 rfl xk (six_set c_r0 c_r1 c_r2 c_r3 c_r4 c_r5))) rfl ⟨_,_,_,_,rfl,?_,?_,?_,?_,?_⟩
  · exact owns_base (owns_heap HP1.out fun j hj=>HQ.out _ (by have:=(HP1.out.lt j hj).1;omega)) xo
  · exact owns_base (owns_heap HP2.out fun j hj=>HQ.out _ (by have:=(HP2.out.lt j hj).1;omega)) xo
  · exact owns_base (owns_heap HP3.out fun j hj=>HQ.out _ (by have:=(HP3.out.lt j hj).1;omega)) xo
  · exact owns_base (owns_heap HP4.out fun j hj=>HQ.out _ (by have:=(HP4.out.lt j hj).1;omega)) xo
  · exact (((((HB3.out.setCell xdo _).setCell xdo _).setCell xdo _).setCell xdo _).setCell xdo _).setCell xdo _
theorem Wide08_core (w:World) (seg:Int) (wa ka va ca:Option Addr) (wc kc vc cc lw n lv lc:Nat) (laid:Int) (size m:Nat) (la:Option Addr) (pl:Nat) (z d:SlC) (hz:z.seg=seg) (hzu:U64s z.ws)
    (EM:Hid (∀W,Below w.heap.size w W→Calls Tryz.prog 19 #[.int .i64 seg,.int .i64 size] W (FreshSl W z)))
    (SP:Hid (∀W sa,Below w.heap.size w W→SlIn W ⟨z.seg,z.ws,z.ks,z.vs,z.cs,laid⟩ sa→(sa.wa=none→sa.wc=0)→(sa.ka=none→sa.kc=0)→(sa.va=none→sa.vc=0)→(sa.ca=none→sa.cc=0)→Calls Tryz.prog 67 #[slV ⟨z.seg,z.ws,z.ks,z.vs,z.cs,laid⟩ sa,.int .i64 0,.int .i64 size,.slice la m pl] W (FreshSl W d))):
    Calls Tryz.prog 65 #[.agg #[.int .i64 seg,.slice wa lw wc,.slice ka n kc,.slice va lv vc,.slice ca lc cc,.int .u64 laid],.int .i64 size,.slice la m pl] w (FreshSl w d):=by
 have HZ:=hid hz;clear hz;go_enter Tryz.func65,Tryz.ntmps65
 go_wp2_with fail
 refine (EM.out _ xbel).mono ?_;rintro e w1 ⟨v1,v2,v3,v4,rfl,p1,p2,p3,p4,hb1⟩;have hz_w1:=hb1.size;try simp only [World.size_alloc,World.size_setCell] at hz_w1
 have hh:=bc6 hb1 (au6 (al6 (b:=w.heap.size) (by simp)));obtain ⟨c_t0,c_t1,c_t2,c_t3,c_t4,c_t5⟩:=hh;have z_t:=blt hb1 (auz (alz (b:=w.heap.size) (by simp)));have hh:=bc6 hb1 (al6 (b:=w.heap.size+1) (by simp));obtain ⟨c_r0,c_r1,c_r2,c_r3,c_r4,c_r5⟩:=hh;have hh:=bf6 hb1 (alz (b:=w.heap.size+1) (by simp)) (alf6 (b:=w.heap.size+1) (by simp));obtain ⟨f_r0,f_r1,f_r2,f_r3,f_r4,f_r5⟩:=hh;have z_r:=blt hb1 (alz (b:=w.heap.size+1) (by simp));have hB1:Below w.heap.size w w1:=xbel;obtain ⟨a1,k1,rfl,i1,-,y1,-,-⟩:=row_of_owns p1;obtain ⟨a2,k2,rfl,i2,-,y2,-,-⟩:=row_of_owns p2;obtain ⟨a3,k3,rfl,i3,-,y3,-,-⟩:=row_of_owns p3;obtain ⟨a4,k4,rfl,i4,-,y4,-,-⟩:=row_of_owns p4;have HI:=hid (show SlIn w1 ⟨z.seg,z.ws,z.ks,z.vs,z.cs,laid⟩ ⟨a1,a2,a3,a4,k1,k2,k3,k4⟩ from ⟨i1,i2,i3,i4,hzu⟩);have HY:=hid (And.intro y1 (And.intro y2 (And.intro y3 y4)));have HB1:=hid hB1;clear p1 p2 p3 p4 i1 i2 i3 i4 y1 y2 y3 y4 hb1 hB1 hzu;go_upto_region 3 with (fail)
 generalize hw2:w1.alloc (.cells #[.int .i64 z.seg,.slice a1 z.ws.length k1,.slice a2 z.ks.length k2,.slice a3 z.vs.length k3,.slice a4 z.cs.length k4,.int .u64 laid] 29)=w2;have hh:=ec6 hw2 (au6 (⟨c_t0,c_t1,c_t2,c_t3,c_t4,c_t5⟩));clear c_t0 c_t1 c_t2 c_t3 c_t4 c_t5;obtain ⟨c_t0,c_t1,c_t2,c_t3,c_t4,c_t5⟩:=hh;replace z_t:=elt hw2 (auz (z_t));have hh:=ec6 hw2 (au6 (⟨c_r0,c_r1,c_r2,c_r3,c_r4,c_r5⟩));clear c_r0 c_r1 c_r2 c_r3 c_r4 c_r5;obtain ⟨c_r0,c_r1,c_r2,c_r3,c_r4,c_r5⟩:=hh;have hh:=ef6 hw2 (auf6 z_r ⟨f_r0,f_r1,f_r2,f_r3,f_r4,f_r5⟩);clear f_r0 f_r1 f_r2 f_r3 f_r4 f_r5;obtain ⟨f_r0,f_r1,f_r2,f_r3,f_r4,f_r5⟩:=hh;replace z_r:=elt hw2 (auz (z_r));have hh:=ec6 hw2 (al6 (b:=w1.heap.size) (by simp));obtain ⟨c_o0,c_o1,c_o2,c_o3,c_o4,c_o5⟩:=hh;have z_o:=elt hw2 (alz (b:=w1.heap.size) (by simp));have hb2:Below w1.heap.size w1 w2:=by rw [←hw2];exact (Below.refl _ _).alloc (Nat.le_refl _) _
 have HB2:=xv hb2 HB1;have HC:=hid (SP.out w2 ⟨a1,a2,a3,a4,k1,k2,k3,k4⟩ HB2.out (HI.out.below hb2) (fun e=>(HY.out.1 e).2) (fun e=>(HY.out.2.1 e).2) (fun e=>(HY.out.2.2.1 e).2) (fun e=>(HY.out.2.2.2 e).2));have hz2:=HB2.out.size;have hz22:=z_r;clear hw2 hb2;dsimp only [slV] at HC;go_wp2_with fail
 refine HC.out.mono ?_;rintro e w3 ⟨v1,v2,v3,v4,rfl,p1,p2,p3,p4,hb3⟩;have hz_w3:=hb3.size;simp (disch:=omega) only [xcl hb3,xfr hb3] at c_t0 c_t1 c_t2 c_t3 c_t4 c_t5 c_r0 c_r1 c_r2 c_r3 c_r4 c_r5 c_o0 c_o1 c_o2 c_o3 c_o4 c_o5 f_r0 f_r1 f_r2 f_r3 f_r4 f_r5;replace z_t:=blt hb3 z_t;replace z_r:=blt hb3 z_r;replace z_o:=blt hb3 z_o;have HB3:=hid (below_via hb3 HB2.out hz2);obtain ⟨x1,y1,rfl,-⟩:=owns_news p1;obtain ⟨x2,y2,rfl,-⟩:=owns_news p2;obtain ⟨x3,y3,rfl,-⟩:=owns_news p3;obtain ⟨x4,y4,rfl,-⟩:=owns_news p4;have HP1:=hid p1;have HP2:=hid p2;have HP3:=hid p3;have HP4:=hid p4;clear p1 p2 p3 p4;clear hb3;go_wp2
 have HQ:Hid (∀q,q≠w.heap.size+1→((((((w3.setCell ⟨w.heap.size+1,0,none⟩ (.int .i64 d.seg)).setCell ⟨w.heap.size+1,1,none⟩ (.slice x1 d.ws.length y1)).setCell ⟨w.heap.size+1,2,none⟩ (.slice x2 d.ks.length y2)).setCell ⟨w.heap.size+1,3,none⟩ (.slice x3 d.vs.length y3)).setCell ⟨w.heap.size+1,4,none⟩ (.slice x4 d.cs.length y4)).setCell ⟨w.heap.size+1,5,none⟩ (.int .u64 d.laid)).heap[q]? =w3.heap[q]?):=hid fun q hq=>by
  rw [heap_setCell_ne _ _ _ hq,heap_setCell_ne _ _ _ hq,heap_setCell_ne _ _ _ hq,heap_setCell_ne _ _ _ hq,heap_setCell_ne _ _ _ hq,heap_setCell_ne _ _ _ hq]
 refine bodyPost_ret (results_c rfl rfl (run_loadVar_many _ Tryz.underlying29 rfl xk (six_set c_r0 c_r1 c_r2 c_r3 c_r4 c_r5))) rfl ⟨_,_,_,_,rfl,?_,?_,?_,?_,?_⟩
 · exact owns_base (owns_heap HP1.out fun j hj=>HQ.out _ (by have:=(HP1.out.lt j hj).1;omega)) xo
 · exact owns_base (owns_heap HP2.out fun j hj=>HQ.out _ (by have:=(HP2.out.lt j hj).1;omega)) xo
 · exact owns_base (owns_heap HP3.out fun j hj=>HQ.out _ (by have:=(HP3.out.lt j hj).1;omega)) xo
 · exact owns_base (owns_heap HP4.out fun j hj=>HQ.out _ (by have:=(HP4.out.lt j hj).1;omega)) xo
 · exact (((((HB3.out.setCell xdo _).setCell xdo _).setCell xdo _).setCell xdo _).setCell xdo _).setCell xdo _
end
section
open Go.RowKit Go.Shelf
attribute [local go_sem] Oper.semAt_some
theorem over_core (w:World) (seg:Int) (wa ka va ca:Option Addr) (wc kc vc cc lw n lv lc:Nat) (laid:Int) (lo hi m:Nat) (ps:List Int) (la:Option Addr) (pl:Nat) (d:SlC) (hps:ps.length=m)
    (CK:Hid (∀W,Below w.heap.size w W→Calls Tryz.prog 39 #[.agg #[.int .i64 seg,.slice wa lw wc,.slice ka n kc,.slice va lv vc,.slice ca lc cc,.int .u64 laid]] W (AnsB W (.int .i64 0))))
    (PL:Hid (∀W,Below w.heap.size w W→Calls Tryz.prog 92 #[.int .i64 m,.int .i64 lo,.int .i64 hi] W (FreshI2 W ps (.int .i64 0))))
    (FI:Hid (∀W pa pc,Below w.heap.size w W→IsRow .i64 W pa ps→Calls Tryz.prog 93 #[.agg #[.int .i64 seg,.slice wa lw wc,.slice ka n kc,.slice va lv vc,.slice ca lc cc,.int .u64 laid],.int .i64 lo,.int .i64 hi,.slice pa m pc,.slice la m pl] W (FreshSl2 W d (.int .i64 0)))):
    Calls Tryz.prog 56 #[.agg #[.int .i64 seg,.slice wa lw wc,.slice ka n kc,.slice va lv vc,.slice ca lc cc,.int .u64 laid],.int .i64 lo,.int .i64 hi,.slice la m pl] w (FreshSl2 w d (.int .i64 0)):=by
 have HPL:=hid hps;clear hps;go_enter Tryz.func56,Tryz.ntmps56
 go_wp2
 refine wp_scope_loop 0 (fun _ _ _=>False) rfl (fun _ _ _ h=>h.elim) ?_;intro H hH hpass;go_wp2_with fail
 refine (CK.out _ xbel).mono ?_;rintro e w1 ⟨rfl,hb1⟩;have hz_w1:=hb1.size;try simp only [World.size_alloc,World.size_setCell] at hz_w1
 have hh:=bc6 hb1 (au6 (al6 (b:=w.heap.size) (by simp)));obtain ⟨c_t0,c_t1,c_t2,c_t3,c_t4,c_t5⟩:=hh;have z_t:=blt hb1 (auz (alz (b:=w.heap.size) (by simp)));have hh:=bc6 hb1 (al6 (b:=w.heap.size+1) (by simp));obtain ⟨c_r0,c_r1,c_r2,c_r3,c_r4,c_r5⟩:=hh;have hh:=bf6 hb1 (alz (b:=w.heap.size+1) (by simp)) (alf6 (b:=w.heap.size+1) (by simp));obtain ⟨f_r0,f_r1,f_r2,f_r3,f_r4,f_r5⟩:=hh;have z_r:=blt hb1 (alz (b:=w.heap.size+1) (by simp));have hB1:Below w.heap.size w w1:=xbel;have HB1:=hid hB1;clear hb1 hB1;go_wp2_with fail
 refine (PL.out _ HB1.out).mono ?_;rintro e w2 ⟨v,rfl,ho,hb2⟩;have hz_w2:=hb2.size;simp (disch:=omega) only [xcl hb2,xfr hb2] at c_t0 c_t1 c_t2 c_t3 c_t4 c_t5 c_r0 c_r1 c_r2 c_r3 c_r4 c_r5 f_r0 f_r1 f_r2 f_r3 f_r4 f_r5;replace z_t:=blt hb2 z_t;replace z_r:=blt hb2 z_r;have HB2:=xv hb2 HB1;rw [HPL.out] at ho;obtain ⟨pa,pc,rfl,hi2,-⟩:=row_of_owns ho;have FC:=hid (FI.out w2 pa pc HB2.out hi2);have hz2:=z_r;clear hb2 ho hi2;go_wp2_with fail
 refine (FC.out).mono ?_;rintro e w3 ⟨v1,v2,v3,v4,rfl,p1,p2,p3,p4,hb3⟩;have hz_w3:=hb3.size;simp (disch:=omega) only [xcl hb3,xfr hb3] at c_t0 c_t1 c_t2 c_t3 c_t4 c_t5 c_r0 c_r1 c_r2 c_r3 c_r4 c_r5 f_r0 f_r1 f_r2 f_r3 f_r4 f_r5;replace z_t:=blt hb3 z_t;replace z_r:=blt hb3 z_r;have HB3:=xv hb3 HB2;obtain ⟨a1,k1,rfl,-⟩:=owns_news p1;obtain ⟨a2,k2,rfl,-⟩:=owns_news p2;obtain ⟨a3,k3,rfl,-⟩:=owns_news p3;obtain ⟨a4,k4,rfl,-⟩:=owns_news p4;have HP1:=hid p1;have HP2:=hid p2;have HP3:=hid p3;have HP4:=hid p4;clear p1 p2 p3 p4;clear hb3;go_upto_region 7 with (fail)
 have hsx:=six_set (x:= .int .i64 d.seg) (y:= .slice a1 d.ws.length k1) (z:= .slice a2 d.ks.length k2) (p:= .slice a3 d.vs.length k3) (q:= .slice a4 d.cs.length k4) (r:= .int .u64 d.laid) c_r0 c_r1 c_r2 c_r3 c_r4 c_r5;have hfz:∀a:Addr,((((((w3.setCell ⟨w.heap.size+1,0,none⟩ (.int .i64 d.seg)).setCell ⟨w.heap.size+1,1,none⟩ (.slice a1 d.ws.length k1)).setCell ⟨w.heap.size+1,2,none⟩ (.slice a2 d.ks.length k2)).setCell ⟨w.heap.size+1,3,none⟩ (.slice a3 d.vs.length k3)).setCell ⟨w.heap.size+1,4,none⟩ (.slice a4 d.cs.length k4)).setCell ⟨w.heap.size+1,5,none⟩ (.int .u64 d.laid)).frozen? a=w3.frozen? a:=fun a=>by
  rw [World.frozen?_setCell,World.frozen?_setCell,World.frozen?_setCell,World.frozen?_setCell,World.frozen?_setCell,World.frozen?_setCell]
 have HQw4:Hid (∀q,q≠w.heap.size+1→((((((w3.setCell ⟨w.heap.size+1,0,none⟩ (.int .i64 d.seg)).setCell ⟨w.heap.size+1,1,none⟩ (.slice a1 d.ws.length k1)).setCell ⟨w.heap.size+1,2,none⟩ (.slice a2 d.ks.length k2)).setCell ⟨w.heap.size+1,3,none⟩ (.slice a3 d.vs.length k3)).setCell ⟨w.heap.size+1,4,none⟩ (.slice a4 d.cs.length k4)).setCell ⟨w.heap.size+1,5,none⟩ (.int .u64 d.laid)).heap[q]? =w3.heap[q]?):=hid fun q hq=>by
  rw [heap_setCell_ne _ _ _ hq,heap_setCell_ne _ _ _ hq,heap_setCell_ne _ _ _ hq,heap_setCell_ne _ _ _ hq,heap_setCell_ne _ _ _ hq,heap_setCell_ne _ _ _ hq]
 have hzw4:((((((w3.setCell ⟨w.heap.size+1,0,none⟩ (.int .i64 d.seg)).setCell ⟨w.heap.size+1,1,none⟩ (.slice a1 d.ws.length k1)).setCell ⟨w.heap.size+1,2,none⟩ (.slice a2 d.ks.length k2)).setCell ⟨w.heap.size+1,3,none⟩ (.slice a3 d.vs.length k3)).setCell ⟨w.heap.size+1,4,none⟩ (.slice a4 d.cs.length k4)).setCell ⟨w.heap.size+1,5,none⟩ (.int .u64 d.laid)).heap.size=w3.heap.size:=by simp
 have HSw4:Hid (Below w.heap.size w ((((((w3.setCell ⟨w.heap.size+1,0,none⟩ (.int .i64 d.seg)).setCell ⟨w.heap.size+1,1,none⟩ (.slice a1 d.ws.length k1)).setCell ⟨w.heap.size+1,2,none⟩ (.slice a2 d.ks.length k2)).setCell ⟨w.heap.size+1,3,none⟩ (.slice a3 d.vs.length k3)).setCell ⟨w.heap.size+1,4,none⟩ (.slice a4 d.cs.length k4)).setCell ⟨w.heap.size+1,5,none⟩ (.int .u64 d.laid))):=hid ((((((HB3.out.setCell xdo _).setCell xdo _).setCell xdo _).setCell xdo _).setCell xdo _).setCell xdo _);generalize ((((((w3.setCell ⟨w.heap.size+1,0,none⟩ (.int .i64 d.seg)).setCell ⟨w.heap.size+1,1,none⟩ (.slice a1 d.ws.length k1)).setCell ⟨w.heap.size+1,2,none⟩ (.slice a2 d.ks.length k2)).setCell ⟨w.heap.size+1,3,none⟩ (.slice a3 d.vs.length k3)).setCell ⟨w.heap.size+1,4,none⟩ (.slice a4 d.cs.length k4)).setCell ⟨w.heap.size+1,5,none⟩ (.int .u64 d.laid))=w4 at *;have s0:=hsx 0 _ rfl;have s1:=hsx 1 _ rfl;have s2:=hsx 2 _ rfl;have s3:=hsx 3 _ rfl;have s4:=hsx 4 _ rfl;have s5:=hsx 5 _ rfl;replace f_r0:=(hfz _).trans f_r0;replace f_r1:=(hfz _).trans f_r1;replace f_r2:=(hfz _).trans f_r2;replace f_r3:=(hfz _).trans f_r3;replace f_r4:=(hfz _).trans f_r4;replace f_r5:=(hfz _).trans f_r5;clear hsx hfz c_r0 c_r1 c_r2 c_r3 c_r4 c_r5;go_wp2
 simp only [Exit.jump];refine bodyPost_ret (results_ct rfl rfl (run_loadVar_many _ Tryz.underlying29 rfl xk (six_set s0 s1 s2 s3 s4 s5))) rfl ⟨_,_,_,_,rfl,?_,?_,?_,?_,?_⟩
 · exact owns_base (owns_heap HP1.out fun j hj=>(by
     have h9:=(HP1.out.lt j hj).1;rw [heap_setCell_ne _ _ _ xdo,heap_setCell_ne _ _ _ xdo,heap_setCell_ne _ _ _ xdo,heap_setCell_ne _ _ _ xdo,heap_setCell_ne _ _ _ xdo,heap_setCell_ne _ _ _ xdo];exact HQw4.out _ xo)) xo
 · exact owns_base (owns_heap HP2.out fun j hj=>(by
     have h9:=(HP2.out.lt j hj).1;rw [heap_setCell_ne _ _ _ xdo,heap_setCell_ne _ _ _ xdo,heap_setCell_ne _ _ _ xdo,heap_setCell_ne _ _ _ xdo,heap_setCell_ne _ _ _ xdo,heap_setCell_ne _ _ _ xdo];exact HQw4.out _ xo)) xo
 · exact owns_base (owns_heap HP3.out fun j hj=>(by
     have h9:=(HP3.out.lt j hj).1;rw [heap_setCell_ne _ _ _ xdo,heap_setCell_ne _ _ _ xdo,heap_setCell_ne _ _ _ xdo,heap_setCell_ne _ _ _ xdo,heap_setCell_ne _ _ _ xdo,heap_setCell_ne _ _ _ xdo];exact HQw4.out _ xo)) xo
 · exact owns_base (owns_heap HP4.out fun j hj=>(by
     have h9:=(HP4.out.lt j hj).1;rw [heap_setCell_ne _ _ _ xdo,heap_setCell_ne _ _ _ xdo,heap_setCell_ne _ _ _ xdo,heap_setCell_ne _ _ _ xdo,heap_setCell_ne _ _ _ xdo,heap_setCell_ne _ _ _ xdo];exact HQw4.out _ xo)) xo
 · exact (((((HSw4.out.setCell xdo _).setCell xdo _).setCell xdo _).setCell xdo _).setCell xdo _).setCell xdo _
theorem Into_core (w:World) (seg:Int) (wa ka va ca:Option Addr) (wc kc vc cc lw n lv lc:Nat) (laid:Int) (size m:Nat) (la:Option Addr) (pl:Nat) (z d:SlC) (hzu:U64s z.ws)
    (CK:Hid (∀W,Below w.heap.size w W→Calls Tryz.prog 39 #[.agg #[.int .i64 seg,.slice wa lw wc,.slice ka n kc,.slice va lv vc,.slice ca lc cc,.int .u64 laid]] W (AnsB W (.int .i64 0))))
    (NW:Hid (∀W,Below w.heap.size w W→Calls Tryz.prog 17 #[.int .i64 seg,.int .i64 size] W (FreshSl2 W z (.int .i64 0))))
    (OV:Hid (∀W sa,Below w.heap.size w W→SlIn W ⟨z.seg,z.ws,z.ks,z.vs,z.cs,laid⟩ sa→(sa.wa=none→sa.wc=0)→(sa.ka=none→sa.kc=0)→(sa.va=none→sa.vc=0)→(sa.ca=none→sa.cc=0)→Calls Tryz.prog 56 #[slV ⟨z.seg,z.ws,z.ks,z.vs,z.cs,laid⟩ sa,.int .i64 0,.int .i64 size,.slice la m pl] W (FreshSl2 W d (.int .i64 0)))):
    Calls Tryz.prog 28 #[.agg #[.int .i64 seg,.slice wa lw wc,.slice ka n kc,.slice va lv vc,.slice ca lc cc,.int .u64 laid],.int .i64 size,.slice la m pl] w (FreshSl2 w d (.int .i64 0)):=by
 go_enter Tryz.func28,Tryz.ntmps28
 go_wp2_with fail
 refine (CK.out _ xbel).mono ?_;rintro e w0 ⟨rfl,hb0⟩;have hz_w0:=hb0.size;try simp only [World.size_alloc,World.size_setCell] at hz_w0
 have hh:=bc6 hb0 (au6 (al6 (b:=w.heap.size) (by simp)));obtain ⟨c_t0,c_t1,c_t2,c_t3,c_t4,c_t5⟩:=hh;have z_t:=blt hb0 (auz (alz (b:=w.heap.size) (by simp)));have hh:=bc6 hb0 (al6 (b:=w.heap.size+1) (by simp));obtain ⟨c_r0,c_r1,c_r2,c_r3,c_r4,c_r5⟩:=hh;have hh:=bf6 hb0 (alz (b:=w.heap.size+1) (by simp)) (alf6 (b:=w.heap.size+1) (by simp));obtain ⟨f_r0,f_r1,f_r2,f_r3,f_r4,f_r5⟩:=hh;have z_r:=blt hb0 (alz (b:=w.heap.size+1) (by simp));have hB0:Below w.heap.size w w0:=xbel;have HB0:=hid hB0;clear hb0 hB0;go_wp2_with fail
 refine (NW.out _ HB0.out).mono ?_;rintro e w1 ⟨v1,v2,v3,v4,rfl,p1,p2,p3,p4,hb1⟩;have hz_w1:=hb1.size;simp (disch:=omega) only [xcl hb1,xfr hb1] at c_t0 c_t1 c_t2 c_t3 c_t4 c_t5 c_r0 c_r1 c_r2 c_r3 c_r4 c_r5 f_r0 f_r1 f_r2 f_r3 f_r4 f_r5;replace z_t:=blt hb1 z_t;replace z_r:=blt hb1 z_r;obtain ⟨a1,k1,rfl,i1,-,y1,-,-⟩:=row_of_owns p1;obtain ⟨a2,k2,rfl,i2,-,y2,-,-⟩:=row_of_owns p2;obtain ⟨a3,k3,rfl,i3,-,y3,-,-⟩:=row_of_owns p3;obtain ⟨a4,k4,rfl,i4,-,y4,-,-⟩:=row_of_owns p4;have HI:=hid (show SlIn w1 ⟨z.seg,z.ws,z.ks,z.vs,z.cs,laid⟩ ⟨a1,a2,a3,a4,k1,k2,k3,k4⟩ from ⟨i1,i2,i3,i4,hzu⟩);have HY:=hid (And.intro y1 (And.intro y2 (And.intro y3 y4)));have HB1:=xv hb1 HB0;clear p1 p2 p3 p4 i1 i2 i3 i4 y1 y2 y3 y4 hb1 hzu;go_upto_region 8 with (fail)
 generalize hw2:w1.alloc (.cells #[.int .i64 z.seg,.slice a1 z.ws.length k1,.slice a2 z.ks.length k2,.slice a3 z.vs.length k3,.slice a4 z.cs.length k4,.int .u64 laid] 29)=w2;have hh:=ec6 hw2 (au6 (⟨c_t0,c_t1,c_t2,c_t3,c_t4,c_t5⟩));clear c_t0 c_t1 c_t2 c_t3 c_t4 c_t5;obtain ⟨c_t0,c_t1,c_t2,c_t3,c_t4,c_t5⟩:=hh;replace z_t:=elt hw2 (auz (z_t));have hh:=ec6 hw2 (au6 (⟨c_r0,c_r1,c_r2,c_r3,c_r4,c_r5⟩));clear c_r0 c_r1 c_r2 c_r3 c_r4 c_r5;obtain ⟨c_r0,c_r1,c_r2,c_r3,c_r4,c_r5⟩:=hh;have hh:=ef6 hw2 (auf6 z_r ⟨f_r0,f_r1,f_r2,f_r3,f_r4,f_r5⟩);clear f_r0 f_r1 f_r2 f_r3 f_r4 f_r5;obtain ⟨f_r0,f_r1,f_r2,f_r3,f_r4,f_r5⟩:=hh;replace z_r:=elt hw2 (auz (z_r));have hh:=ec6 hw2 (al6 (b:=w1.heap.size) (by simp));obtain ⟨c_o0,c_o1,c_o2,c_o3,c_o4,c_o5⟩:=hh;have z_o:=elt hw2 (alz (b:=w1.heap.size) (by simp));have hb2:Below w1.heap.size w1 w2:=by rw [←hw2];exact (Below.refl _ _).alloc (Nat.le_refl _) _
 have HB2:=xv hb2 HB1;have HC:=hid (OV.out w2 ⟨a1,a2,a3,a4,k1,k2,k3,k4⟩ HB2.out (HI.out.below hb2) (fun e=>(HY.out.1 e).2) (fun e=>(HY.out.2.1 e).2) (fun e=>(HY.out.2.2.1 e).2) (fun e=>(HY.out.2.2.2 e).2));have hz2:=HB2.out.size;have hz22:=z_r;clear hw2 hb2;dsimp only [slV] at HC;go_wp2_with fail
 refine HC.out.mono ?_;rintro e w3 ⟨v1,v2,v3,v4,rfl,p1,p2,p3,p4,hb3⟩;have hz_w3:=hb3.size;simp (disch:=omega) only [xcl hb3,xfr hb3] at c_t0 c_t1 c_t2 c_t3 c_t4 c_t5 c_r0 c_r1 c_r2 c_r3 c_r4 c_r5 c_o0 c_o1 c_o2 c_o3 c_o4 c_o5 f_r0 f_r1 f_r2 f_r3 f_r4 f_r5;replace z_t:=blt hb3 z_t;replace z_r:=blt hb3 z_r;replace z_o:=blt hb3 z_o;have HB3:=hid (below_via hb3 HB2.out hz2);obtain ⟨x1,y1,rfl,-⟩:=owns_news p1;obtain ⟨x2,y2,rfl,-⟩:=owns_news p2;obtain ⟨x3,y3,rfl,-⟩:=owns_news p3;obtain ⟨x4,y4,rfl,-⟩:=owns_news p4;have HP1:=hid p1;have HP2:=hid p2;have HP3:=hid p3;have HP4:=hid p4;clear p1 p2 p3 p4;clear hb3;go_wp2
 have HQ:Hid (∀q,q≠w.heap.size+1→((((((w3.setCell ⟨w.heap.size+1,0,none⟩ (.int .i64 d.seg)).setCell ⟨w.heap.size+1,1,none⟩ (.slice x1 d.ws.length y1)).setCell ⟨w.heap.size+1,2,none⟩ (.slice x2 d.ks.length y2)).setCell ⟨w.heap.size+1,3,none⟩ (.slice x3 d.vs.length y3)).setCell ⟨w.heap.size+1,4,none⟩ (.slice x4 d.cs.length y4)).setCell ⟨w.heap.size+1,5,none⟩ (.int .u64 d.laid)).heap[q]? =w3.heap[q]?):=hid fun q hq=>by
  rw [heap_setCell_ne _ _ _ hq,heap_setCell_ne _ _ _ hq,heap_setCell_ne _ _ _ hq,heap_setCell_ne _ _ _ hq,heap_setCell_ne _ _ _ hq,heap_setCell_ne _ _ _ hq]
 refine bodyPost_ret (results_ct rfl rfl (run_loadVar_many _ Tryz.underlying29 rfl xk (six_set c_r0 c_r1 c_r2 c_r3 c_r4 c_r5))) rfl ⟨_,_,_,_,rfl,?_,?_,?_,?_,?_⟩
 · exact owns_base (owns_heap HP1.out fun j hj=>HQ.out _ (by have:=(HP1.out.lt j hj).1;omega)) xo
 · exact owns_base (owns_heap HP2.out fun j hj=>HQ.out _ (by have:=(HP2.out.lt j hj).1;omega)) xo
 · exact owns_base (owns_heap HP3.out fun j hj=>HQ.out _ (by have:=(HP3.out.lt j hj).1;omega)) xo
 · exact owns_base (owns_heap HP4.out fun j hj=>HQ.out _ (by have:=(HP4.out.lt j hj).1;omega)) xo
 · exact (((((HB3.out.setCell xdo _).setCell xdo _).setCell xdo _).setCell xdo _).setCell xdo _).setCell xdo _
end
section
open Go.RowKit
def trnL (ws:List Int) (i:Nat) (b:Bool):List Int:=if b=true then setL ws i else clrL ws i
def trnX (x:Int) (r:Nat) (b:Bool):Int:=if b=true then setX x r else clrX x r
theorem trnL_set (ws:List Int) (i:Nat) (b:Bool):trnL ws i b=ws.set (i/64) (trnX (ws.getD (i/64) 0) (i%64) b):=by
 cases b<;>rfl
theorem Put02_ok (wa:Option Addr) (wc:Nat) (ws:List Int) (hu:U64s ws) (i:Nat) (hi:i/64<ws.length) (hl:ws.length≤100000) (b:Bool) (hb:bitW ws i= !b) (w:World) (hw:IsRow .u64 w wa ws):
    Calls Tryz.prog 109 #[.slice wa ws.length wc,.int .i64 i,.bool b] w (FreshRow .u64 27 w (trnL ws i b)):=by
 obtain ⟨b0,off0,x0,rfl,-,-,-⟩:=hw.get hi;have IS:=hid (fun W hw=>Is02_ok (some ⟨b0,off0,none⟩) wc ws hu i hi xo W hw);rw [hb] at IS;have HW:=hid hw;have HN:=hid (row_news hw);have hg:=hu.get (i/64);have hr64:i%64<64:=Nat.mod_lt _ xo;have hbi:bitI (ws.getD (i/64) 0) (i%64)= !b:=hb;rw [trnL_set];obtain ⟨x,hx⟩:∃x,ws.getD (i/64) 0=x:=⟨_,rfl⟩
 rw [hx] at hg hbi ⊢;obtain ⟨q,hq⟩:∃q,i/64=q:=⟨_,rfl⟩
 obtain ⟨r,hr⟩:∃r,i%64=r:=⟨_,rfl⟩
 have hqt:(i:Int).tdiv 64=(q:Int):=by rw [Int.tdiv_eq_ediv_of_nonneg xo];omega
 have hqI:(i:Int)/64=(q:Int):=xo;have hrI:(i:Int)%64=(r:Int):=xo;have hrt:(i:Int).tmod 64=(r:Int):=by rw [Int.tmod_eq_emod_of_nonneg xo];omega
 rw [hq] at hx hi ⊢;rw [hr] at hr64 hbi ⊢;have hp:∀k,k<64→2^k<18446744073709551616:=fun k hk=>by
  have:2^k<2^64:=Nat.pow_lt_pow_right xo hk;omega
 have HP:=hid hp;have hfin:IntKind.u64.wrap (if b=true then x+((2^r:Nat):Int) else x-((2^r:Nat):Int))=trnX x r b:=by
  have e2:((2^r:Nat):Int)=(2:Int)^r:=by push_cast;rfl
  rw [e2];cases b with
  | true=>
   rw [if_pos rfl,add_setX hg.1 hg.2 hr64 hbi];have:=setX_bd hg.1 hg.2 hr64;rw [IntKind.wrap_u64,Int.emod_eq_of_lt this.1 this.2];rfl
  | false=>
   rw [if_neg (by decide),sub_clrX hg.1 hg.2 hr64 hbi];have:=clrX_bd hg.1 hg.2 hr64;rw [IntKind.wrap_u64,Int.emod_eq_of_lt this.1 this.2];rfl
 have HX:=hid hx;have HF:=hid hfin;obtain ⟨lw,hlw⟩:∃lw,ws.length=lw:=⟨_,rfl⟩
 have HLW:=hid hlw;rw [hlw] at IS hi hl ⊢;have hqb:q≤100000:=xo;have hib:i<6400064:=xo;generalize trnX x r b=y at *;clear hw hu hb hp hx hbi hfin hq hr hlw;go_enter Tryz.func109,Tryz.ntmps109
 go_wp2_with (at_builtin;refine wpl_append (.tmp 10) (.tmp 11) 24 27 (.int .u64 0) 1 8 Tryz.underlying24 info4_uint64 rfl (by decide) (by decide) w.heap.size _ 0 [] (some ⟨b0,off0,none⟩) lw wc (ws.map (Value.int .u64)) (World.ownsRow_made w #[] 0 (Nat.le_refl _) (Nat.zero_le _) rfl) (by rw [List.length_map,HLW.out];omega) xzc (fun ad h j u hj=>Lib.cell?_alloc_some _ (HN.out ad h j u hj)) (numCells _) xo (by simp) rfl rfl rfl rfl ?_;intro v1 w1 ho1 hg1 _
              have hb1:Below w.heap.size w w1:=((Below.refl _ w).alloc (Nat.le_refl _) _).grown hg1 (by simp) (by intro k hk;simp [Value.ownBlock] at hk;omega);rw [Nat.zero_add,List.nil_append] at ho1;obtain ⟨g,c1,rfl,hgB,hgz⟩:=owns_at ho1 xo;have HO1:=hid ho1;have HB1:=hid hb1;have HR1:=hid (HW.out.below hb1);clear ho1 hg1 hb1)
 go_wp2_with fail
 refine (IS.out _ HR1.out).mono ?_;rintro e w' ⟨rfl,rfl⟩;have hbb:((!b)==b)=false:=by cases b<;>rfl
 go_wp2
 go_loopg [8,9] r (fun gk ov iv wr=>∃k:Nat,k+gk=r∧iv= .int .i64 k∧ov= .int .u64 ((2^k:Nat):Int)∧w1=wr)
 case atStart=>exact ⟨0,by omega,rfl,rfl,rfl⟩
 case round=>
  obtain ⟨k,hk,rfl,rfl,rfl⟩:=hrel;by_cases hlt:k<r
  · have hw2:IntKind.u64.wrap (2*((2^k:Nat):Int))=((2^(k+1):Nat):Int):=by
      have:=HP.out (k+1) xo;rw [Nat.pow_succ] at this ⊢;rw [IntKind.wrap_u64,Int.emod_eq_of_lt xo xo];omega
    have HW2:=hid hw2;obtain ⟨o1,ho1⟩:∃o1:Int,((2^(k+1):Nat):Int)=o1:=⟨_,rfl⟩
    rw [ho1] at hw2;have HO2:=hid ho1;clear ho1;generalize ((2^k:Nat):Int)=o0 at *;go_wp2
    go_roundg (gk-1)
    case measure=>omega
    case rel=>exact ⟨k+1,by omega,by go_num,by rw [HO2.out],rfl⟩
  · have hkr:k=r:=xo;subst hkr;have hlen:ws.length=lw:=HLW.out;have HO:=HO1.out;rw [←hlen] at HO;obtain ⟨⟨x',hx',hc⟩,hf,hset⟩:=row_cell HO (j:=q) (by rw [hlen];exact hi);have hxx:x'=x:=by rw [←hx'.out,HX.out]
    subst hxx;have HST:=hid (hset y);have HFN:=HF.out;clear hset hx' HO hlen;generalize ((2^k:Nat):Int)=o0 at *;cases b with
    | true=>
     rw [if_pos rfl] at HFN;go_wp2
     go_ret
     refine ⟨_,rfl,?_,HB1.out.setCell xdo _⟩;have h9:=HST.out;rw [←HLW.out];exact h9
    | false=>
     rw [if_neg (by decide)] at HFN;go_wp2
     go_ret
     refine ⟨_,rfl,?_,HB1.out.setCell xdo _⟩;have h9:=HST.out;rw [←HLW.out];exact h9
end
end Go.Proofs.YtookgoidlnlckaaGreatDoor

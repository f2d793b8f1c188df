/- Merged: SlLayW, SlClr, GPutOk, Narrow. -/
import Derived.Test.YtjhpblejlchhjaaGreatDoorOmMovesP9
import Derived.Test.YtjhpblejlchhjaaGreatDoorOmMovesP15
import Derived.Test.YtjhpblejlchhjaaGreatDoorOmMovesP11
import Derived.Test.YtjhpblejlchhjaaGreatDoorOmMovesP6
namespace Go.Proofs.YtjhpblejlchhjaaGreatDoor
set_option maxRecDepth 100000
set_option maxHeartbeats 40000000
set_option linter.unusedVariables false
set_option linter.unusedSimpArgs false
section
open Go.RowKit
end
section
open Go.RowKit
theorem slClr_core (w:World) (seg:Int) (wa ka va ca:Option Addr) (wc kc vc cc lw n lc:Nat) (laid:Int) (c:SlC) (i S:Nat) (x y:Int)
    (hseg:c.seg=seg) (hlaid:c.laid=laid) (hlw:c.ws.length=lw) (hlk:c.ks.length=n) (hlv:c.vs.length=n) (hlc:c.cs.length=lc) (h1:0<lw) (h2:0<n) (h3:0<lc) (hn:n≤65536) (hlw2:lw≤65536) (hlc2:lc≤65536) (hS:seg=S) (hS4:4≤S) (hi:i<n) (hwn:n≤64*lw) (hcn:n=S*lc) (hok:okC c=true)
    (AT:Hid (∀W,Below w.heap.size w W→Calls Tryz.prog 121 #[.agg #[.int .i64 seg,.slice wa lw wc,.slice ka n kc,.slice va n vc,.slice ca lc cc,.int .u64 laid],.int .i64 i] W (AnsB W (.tuple #[.agg #[.int .i64 x,.int .i64 y],.int .i64 0]))))
    (TW:Hid (∀W,Below w.heap.size w W→Calls Tryz.prog 56 #[.agg #[.int .i64 seg,.slice wa lw wc,.slice ka n kc,.slice va n vc,.slice ca lc cc,.int .u64 laid]] W (FreshSlN W c))):
    Calls Tryz.prog 70 #[.agg #[.int .i64 seg,.slice wa lw wc,.slice ka n kc,.slice va n vc,.slice ca lc cc,.int .u64 laid],.int .i64 i] w (FreshSl2 w (tkC c i) (.int .i64 0)):=by
 have HC:=hid (And.intro hseg (And.intro hlaid (And.intro hlw (And.intro hlk (And.intro hlv hlc)))));have HSS:=hid hS;have HCN:=hid hcn;have HOK:=hid hok;clear hseg hlaid hlw hlk hlv hlc hS hcn hok;go_enter Tryz.func70,Tryz.ntmps70
 go_wp2_with fail
 refine (AT.out _ xbel).mono ?_;rintro e wa1 ⟨rfl,hba⟩;have hz_wa1:=hba.size;try simp only [World.size_alloc,World.size_setCell] at hz_wa1
 have hh:=bc6 hba (au6 (al6 (b:=w.heap.size) xsi));obtain ⟨c_t0,c_t1,c_t2,c_t3,c_t4,c_t5⟩:=hh;have z_t:=blt hba (auz (alz (b:=w.heap.size) xsi));have hh:=bc6 hba (al6 (b:=w.heap.size+1) xsi);obtain ⟨c_r0,c_r1,c_r2,c_r3,c_r4,c_r5⟩:=hh;have hh:=bf6 hba (alz (b:=w.heap.size+1) xsi) (alf6 (b:=w.heap.size+1) xsi);obtain ⟨f_r0,f_r1,f_r2,f_r3,f_r4,f_r5⟩:=hh;have z_r:=blt hba (alz (b:=w.heap.size+1) xsi);have hBa:Below w.heap.size w wa1:=xbel;have hza:w.heap.size+2≤wa1.heap.size:=xo;go_upto_region 2 with (fail)
 generalize hw1:wa1.alloc _=w1;have hh:=ec6 hw1 (au6 (⟨c_t0,c_t1,c_t2,c_t3,c_t4,c_t5⟩));clear c_t0 c_t1 c_t2 c_t3 c_t4 c_t5;obtain ⟨c_t0,c_t1,c_t2,c_t3,c_t4,c_t5⟩:=hh;replace z_t:=elt hw1 (auz (z_t));have hh:=ec6 hw1 (au6 (⟨c_r0,c_r1,c_r2,c_r3,c_r4,c_r5⟩));clear c_r0 c_r1 c_r2 c_r3 c_r4 c_r5;obtain ⟨c_r0,c_r1,c_r2,c_r3,c_r4,c_r5⟩:=hh;have hh:=ef6 hw1 (auf6 z_r ⟨f_r0,f_r1,f_r2,f_r3,f_r4,f_r5⟩);clear f_r0 f_r1 f_r2 f_r3 f_r4 f_r5;obtain ⟨f_r0,f_r1,f_r2,f_r3,f_r4,f_r5⟩:=hh;replace z_r:=elt hw1 (auz (z_r));have hB1:Below w.heap.size w w1:=by rw [←hw1];exact hBa.alloc hBa.size _
 have HB1:=hid hB1;have hz1:w.heap.size+2≤w1.heap.size:=by rw [←hw1];simp;omega
 clear hw1 hba hBa hB1 hza;go_wp2_with fail
 refine (TW.out w1 HB1.out).mono ?_;rintro e w2 ⟨v1,v2,v3,v4,rfl,o1,o2,o3,o4,hb2,hne⟩;obtain ⟨eseg,elaid,elw,elk,elv,elc⟩:=HC.out;rw [elw] at o1;rw [elk] at o2;rw [elv] at o3;rw [elc] at o4;rw [eseg,elaid];obtain ⟨g1,k1,rfl,hg1,hg1'⟩:=owns_at o1 h1;obtain ⟨g2,k2,rfl,hg2,hg2'⟩:=owns_at o2 h2;obtain ⟨g3,k3,rfl,hg3,hg3'⟩:=owns_at o3 h2;obtain ⟨g4,k4,rfl,hg4,hg4'⟩:=owns_at o4 h3;have n23:g2≠g3:=hne g2 g3 rfl rfl;have apart:∀ {e e':TypeId} {g g' n n' k k':Nat} {xs xs':List Value},w2.ownsRow w1.heap.size e 1 (.slice (some ⟨g,0,none⟩) n k) n xs→w2.ownsRow w1.heap.size e' 1 (.slice (some ⟨g',0,none⟩) n' k') n' xs'→e≠e'→g≠g':=by
  intro e e' g g' n n' k k' xs xs' ha hb hc;rcases owns_apart ha hb hc with h|h
  · cases h
  · intro hgg;exact h (by subst hgg;rfl)
 have n12:=apart o1 o2 xdd;have n13:=apart o1 o3 xdd;have n14:=apart o1 o4 xdd;have n24:=apart o2 o4 xdd;have n34:=apart o3 o4 xdd;clear apart hne;have hz_w2:=hb2.size;have HBW:Hid (Below w1.heap.size w1 w2):=hid hb2;have HO:=hid (And.intro o1 (And.intro o2 (And.intro o3 o4)));have hz_w2:=hb2.size;simp (disch:=omega) only [xcl hb2,xfr hb2] at *;replace z_t:=blt hb2 z_t;replace z_r:=blt hb2 z_r;clear o1 o2 o3 o4 hb2;go_wp2_with fail
 have hb3:Below w2.heap.size w2 (w2.alloc (.cells #[.int .i64 seg,.slice (some ⟨g1,0,none⟩) lw k1,.slice (some ⟨g2,0,none⟩) n k2,.slice (some ⟨g3,0,none⟩) n k3,.slice (some ⟨g4,0,none⟩) lc k4,.int .u64 laid] 174)):=br.alloc (Nat.le_refl _) _;have hA:ArrC w1.heap.size (w2.alloc (.cells #[.int .i64 seg,.slice (some ⟨g1,0,none⟩) lw k1,.slice (some ⟨g2,0,none⟩) n k2,.slice (some ⟨g3,0,none⟩) n k3,.slice (some ⟨g4,0,none⟩) lc k4,.int .u64 laid] 174)) w2.heap.size g1 g2 g3 g4 k1 k2 k3 k4 lw n lc c:=by
  unfold ArrC;rw [eseg,elaid];exact ⟨by (exact xcw),by (exact xcw),by (exact xcw),by (exact xcw),by (exact xcw),by (exact xcw),by (exact xcw),owns_below HO.out.1 hb3,owns_below HO.out.2.1 hb3,owns_below HO.out.2.2.1 hb3,owns_below HO.out.2.2.2 hb3⟩
 have HA:=hid hA;have hzz:(w2.alloc (.cells #[.int .i64 seg,.slice (some ⟨g1,0,none⟩) lw k1,.slice (some ⟨g2,0,none⟩) n k2,.slice (some ⟨g3,0,none⟩) n k3,.slice (some ⟨g4,0,none⟩) lc k4,.int .u64 laid] 174)).heap.size=w2.heap.size+1:=by simp
 have HB3:Hid (Below w1.heap.size w1 (w2.alloc (.cells #[.int .i64 seg,.slice (some ⟨g1,0,none⟩) lw k1,.slice (some ⟨g2,0,none⟩) n k2,.slice (some ⟨g3,0,none⟩) n k3,.slice (some ⟨g4,0,none⟩) lc k4,.int .u64 laid] 174))):=hid (HBW.out.trans (hb3.mono HBW.out.size));generalize w2.alloc (.cells #[.int .i64 seg,.slice (some ⟨g1,0,none⟩) lw k1,.slice (some ⟨g2,0,none⟩) n k2,.slice (some ⟨g3,0,none⟩) n k3,.slice (some ⟨g4,0,none⟩) lc k4,.int .u64 laid] 174)=w3 at *;have hz_w3:=hb3.size;simp (disch:=omega) only [xcl hb3,xfr hb3] at *;replace z_t:=blt hb3 z_t;replace z_r:=blt hb3 z_r;have HNE:Hid (ArrNe w2.heap.size g1 g2 g3 g4):=hid ⟨by omega,by omega,by omega,by omega,n12,n13,n14,n23,n24,n34⟩;have hbb:w1.heap.size≤w2.heap.size:=HBW.out.size;have hS':c.seg=(S:Int):=by rw [eseg];exact HSS.out
 have LY:=hid (take_ok w3 w1.heap.size w2.heap.size g1 g2 g3 g4 k1 k2 k3 k4 lw n lc i S c HA.out HNE.out HOK.out hi hn xo hlw2 hS' hS4 (by have:=HCN.out;exact Nat.div_lt_of_lt_mul xo) hlc2);clear hA hb3 HO n12 n13 n14 n23 n24 n34 eseg elaid elw elk elv elc HBW hS';have hBw3:Below w.heap.size w w3:=below_via HB3.out HB1.out xo;refine LY.out.mono ?_;rintro e w5 ⟨rfl,hA5,hk5⟩;have hB5:=kept_below HB3.out hk5 xo hg1 hg2 hg3 hg4;have hz5:=hk5.size;have hAe:=hA5;unfold ArrC at hAe;obtain ⟨e0,e1,e2,e3,e4,e5,-,p1,p2,p3,p4⟩:=hAe;have l1:=own_len p1;have l2:=own_len p2;have l3:=own_len p3;have l4:=own_len p4;generalize tkC c i=d at *;have hk6:Below w1.heap.size w3 w5:=kept_below (Below.refl _ w3) hk5 xo hg1 hg2 hg3 hg4;have hBw5:Below w.heap.size w w5:=below_via hB5 HB1.out xo;have hz_w5:=hk6.size;try simp only [World.size_alloc,World.size_setCell] at hz_w5
 have all_c:w5.cell? ⟨w.heap.size,0,none⟩=some (.int .i64 seg)∧w5.cell? ⟨w.heap.size,1,none⟩=some (.slice wa lw wc)∧w5.cell? ⟨w.heap.size,2,none⟩=some (.slice ka n kc)∧w5.cell? ⟨w.heap.size,3,none⟩=some (.slice va n vc)∧w5.cell? ⟨w.heap.size,4,none⟩=some (.slice ca lc cc)∧w5.cell? ⟨w.heap.size,5,none⟩=some (.int .u64 laid)∧w5.cell? ⟨w.heap.size+1,0,none⟩=some (.int .i64 0)∧w5.cell? ⟨w.heap.size+1,1,none⟩=some (.slice none 0 0)∧w5.cell? ⟨w.heap.size+1,2,none⟩=some (.slice none 0 0)∧w5.cell? ⟨w.heap.size+1,3,none⟩=some (.slice none 0 0)∧w5.cell? ⟨w.heap.size+1,4,none⟩=some (.slice none 0 0)∧w5.cell? ⟨w.heap.size+1,5,none⟩=some (.int .u64 0):=by refine ⟨?_,?_,?_,?_,?_,?_,?_,?_,?_,?_,?_,?_⟩<;>(refine (hk6.cell ?_).trans ?_<;>first|(exact xlt)|(exact xcn))
 have all_f:w5.frozen? ⟨w.heap.size+1,0,none⟩=false∧w5.frozen? ⟨w.heap.size+1,1,none⟩=false∧w5.frozen? ⟨w.heap.size+1,2,none⟩=false∧w5.frozen? ⟨w.heap.size+1,3,none⟩=false∧w5.frozen? ⟨w.heap.size+1,4,none⟩=false∧w5.frozen? ⟨w.heap.size+1,5,none⟩=false:=by refine ⟨?_,?_,?_,?_,?_,?_⟩<;>(refine (hk6.frozen ?_).trans ?_<;>first|(exact xlt)|(exact xcn))
 have all_z:w.heap.size<w5.heap.size∧w.heap.size+1<w5.heap.size:=by refine ⟨?_,?_⟩<;>(omega)
 clear c_t0 c_t1 c_t2 c_t3 c_t4 c_t5 c_r0 c_r1 c_r2 c_r3 c_r4 c_r5 f_r0 f_r1 f_r2 f_r3 f_r4 f_r5 z_t z_r;obtain ⟨c_t0,c_t1,c_t2,c_t3,c_t4,c_t5,c_r0,c_r1,c_r2,c_r3,c_r4,c_r5⟩:=all_c;try clear all_c
 obtain ⟨f_r0,f_r1,f_r2,f_r3,f_r4,f_r5⟩:=all_f;try clear all_f
 obtain ⟨z_t,z_r⟩:=all_z;try clear all_z
 have HP1:=hid p1;have HP2:=hid p2;have HP3:=hid p3;have HP4:=hid p4;clear p1 p2 p3 p4 hA5 hk5;go_wp2
 have HQ:Hid (∀q,q≠w.heap.size+1→((((((w5.setCell ⟨w.heap.size+1,0,none⟩ (.int .i64 d.seg)).setCell ⟨w.heap.size+1,1,none⟩ (.slice (some ⟨g1,0,none⟩) lw k1)).setCell ⟨w.heap.size+1,2,none⟩ (.slice (some ⟨g2,0,none⟩) n k2)).setCell ⟨w.heap.size+1,3,none⟩ (.slice (some ⟨g3,0,none⟩) n k3)).setCell ⟨w.heap.size+1,4,none⟩ (.slice (some ⟨g4,0,none⟩) lc k4)).setCell ⟨w.heap.size+1,5,none⟩ (.int .u64 d.laid)).heap[q]? =w5.heap[q]?):=hid fun q hq=>by
  rw [heap_setCell_ne _ _ _ hq,heap_setCell_ne _ _ _ hq,heap_setCell_ne _ _ _ hq,heap_setCell_ne _ _ _ hq,heap_setCell_ne _ _ _ hq,heap_setCell_ne _ _ _ hq]
 refine bodyPost_ret (results_ct rfl rfl (run_loadVar_many _ Tryz.underlying29 rfl xk (six_set c_r0 c_r1 c_r2 c_r3 c_r4 c_r5))) rfl ⟨_,_,_,_,rfl,?_,?_,?_,?_,?_⟩
 · rw [l1];exact owns_base (owns_heap HP1.out fun j hj=>HQ.out j (by have:=(HP1.out.lt j hj).1;omega)) xo
 · rw [l2];exact owns_base (owns_heap HP2.out fun j hj=>HQ.out j (by have:=(HP2.out.lt j hj).1;omega)) xo
 · rw [l3];exact owns_base (owns_heap HP3.out fun j hj=>HQ.out j (by have:=(HP3.out.lt j hj).1;omega)) xo
 · rw [l4];exact owns_base (owns_heap HP4.out fun j hj=>HQ.out j (by have:=(HP4.out.lt j hj).1;omega)) xo
 · exact (((((hBw5.setCell xdo _).setCell xdo _).setCell xdo _).setCell xdo _).setCell xdo _).setCell xdo _
end
section
open Go.RowKit
theorem GapN.pows {c:Cfg} {s:SlC} {a H:Nat} (k:GapN c s a H):4≤2^a∧2^a≤64∧s.cs.length≤65536∧s.ks.length≤65536∧1≤s.ks.length∧H≤14:=by
 have ha4:2^2≤2^a:=Nat.pow_le_pow_right xo k.cap.a2;have ha6:2^a≤2^6:=Nat.pow_le_pow_right xo k.cap.a6;have hb:=k.cap.big;have h9:1*2^H≤2^a*2^H:=Nat.mul_le_mul_right _ xo;have:=k.nc;have:=k.nk;have:=Nat.two_pow_pos H;exact ⟨by omega,by omega,by omega,by omega,by omega,k.cap.h14⟩
theorem inH_bd {c:Cfg} {s:SlC} {a H h at_:Nat} (k:GapN c s a H) (hu:U64s s.ws) (hh:h≤H) (hat:at_<s.ks.length):0≤inH s a h at_∧inH s a h at_≤((2^(a+h):Nat):Int)∧2^(a+h)≤65536:=by
 rw [in_cnt k hu hh hat];have h1:=cntW_le s.ws (wnd a h at_*2^(a+h)) ((wnd a h at_+1)*2^(a+h));rw [Nat.succ_mul,Nat.add_sub_cancel_left] at h1;have h2:2^(a+h)≤2^(a+H):=Nat.pow_le_pow_right xo xo;have h3:2^(a+H)≤65536:=by rw [Nat.pow_add];exact k.cap.big
 rw [Nat.succ_mul];omega
theorem GapN.win {c:Cfg} {s:SlC} {a H:Nat} (k:GapN c s a H) (hs:s.seg=c.seg):WinC s.seg s.ks.length a H:=⟨k.seg,k.cap.all,k.cap.a2,k.cap.a6,k.cap.big⟩
theorem among_win {c:Cfg} {s:SlC} {a H h at_:Nat} (k:GapN c s a H) (hu:U64s s.ws) (sa:SlA) (hcc:s.cs.length≤sa.cc) (hh:h≤H) (hat:at_<s.ks.length) (w:World) (hin:SlIn w s sa):
    Calls Tryz.prog 68 #[slV s sa,.int .i64 ((wnd a h at_*2^(a+h):Nat):Int),.int .i64 (((wnd a h at_*2^(a+h):Nat):Int)+((2^(a+h):Nat):Int))] w (AnsB w (.int .i64 (inH s a h at_))):=by
 obtain ⟨p1,p2,p3,p4,p5,p6⟩:=k.pows;have b:=wnd_bd hh (by rw [←k.nk];exact hat);have e:=wnd_seg a h at_;have hp0:=Nat.two_pow_pos h;have hlt:wnd a h at_*2^h<(wnd a h at_+1)*2^h:=by rw [Nat.succ_mul];omega
 refine among_ok s sa (2^a) (wnd a h at_*2^h) ((wnd a h at_+1)*2^h) k.seg p1 p2 _ _ ?_ ?_ xo (by rw [k.nc];exact b.1) (by rw [k.nc];exact Nat.lt_of_lt_of_le hlt b.1) hcc p3 k.cnt w hin
 · rw [e.1]
 · rw [←e.2.1,←e.2.2];push_cast;rfl
theorem among_lo {c:Cfg} {s:SlC} {a H h at_:Nat} (k:GapN c s a H) (hu:U64s s.ws) (sa:SlA) (hcc:s.cs.length≤sa.cc) (hh:h≤H) (hat:at_<s.ks.length) (w:World) (hin:SlIn w s sa):
    Calls Tryz.prog 68 #[slV s sa,.int .i64 0,.int .i64 ((wnd a h at_*2^(a+h):Nat):Int)] w (AnsB w (.int .i64 (cntW s.ws 0 (wnd a h at_*2^(a+h)):Nat))):=by
 obtain ⟨p1,p2,p3,p4,p5,p6⟩:=k.pows;obtain ⟨g,-⟩:=gapN_gd k hu;have b:=wnd_bd hh (by rw [←k.nk];exact hat);have e:=wnd_seg a h at_;have hp0:=Nat.two_pow_pos h;have hlt:wnd a h at_*2^h<(wnd a h at_+1)*2^h:=by rw [Nat.succ_mul];omega
 have hle:wnd a h at_*2^h≤2^H:=xo;have:=among_ok s sa (2^a) 0 (wnd a h at_*2^h) k.seg p1 p2 0 ((wnd a h at_*2^(a+h):Nat):Int) xsi (by rw [e.1]) (Nat.zero_le _) (by rw [k.nc];exact hle) (by rw [k.nc];exact Nat.two_pow_pos H) hcc p3 k.cnt w hin;rwa [sumC_cnt2 g (Nat.zero_le _) hle,Nat.zero_mul,←e.1] at this
theorem among_all {c:Cfg} {s:SlC} {a H:Nat} (k:GapN c s a H) (hu:U64s s.ws) (sa:SlA) (hcc:s.cs.length≤sa.cc) (w:World) (hin:SlIn w s sa):
    Calls Tryz.prog 68 #[slV s sa,.int .i64 0,.int .i64 s.ks.length] w (AnsB w (.int .i64 (manyC s))):=by
 obtain ⟨p1,p2,p3,p4,p5,p6⟩:=k.pows;have:=among_ok s sa (2^a) 0 s.cs.length k.seg p1 p2 0 s.ks.length xsi (by rw [k.nk,k.nc,Nat.mul_comm]) (Nat.zero_le _) (Nat.le_refl _) (by rw [k.nc];exact Nat.two_pow_pos H) hcc p3 k.cnt w hin;rwa [sum_many k hu] at this
theorem enters_put1:∀args w,(callFunc 98 args).run Tryz.prog w= .ok (.enter 98 args) w:=enters_of Tryz.func98 xk rfl
theorem sgL_eq {c:Cfg} {a:Nat} (h:c.seg=((2^a:Nat):Int)):sgL c=a:=by
 rw [sgL,h,Int.toNat_natCast,Nat.log2_two_pow]
theorem may_w {c:Cfg} {s:SlC} {a H:Nat} (k:GapN c s a H):wMayB s.ws s.ks.length=true:=by
 have h:=k.may;simp only [slMay,slHead,Bool.and_eq_true] at h;exact h.1.1.1.2
theorem gapPut_ok (c:Cfg) (s:SlC) (sa:SlA) (hl:s.ws.length≤1000000000000) (hl2:s.ks.length≤1000000000000) (hcc:s.cs.length≤sa.cc) (k x y:Int) (w:World) (hin:SlIn w s sa) (hT:TabAt w):
    Calls Tryz.prog 59 #[.agg #[.int .u8 c.tag,.int .i64 c.most,.int .i64 c.seg,.int .i64 c.least,.int .i64 c.den,.int .i64 c.ll,.int .i64 c.rl,.int .i64 c.rh,.int .i64 c.lh],slV s sa,.int .i64 k,.agg #[.int .i64 x,.int .i64 y]] w (FreshSl2 w (putC c s k (x,y)) (.int .i64 (putE c s k))):=by
 have CK:Hid (∀W,Below w.heap.size w W→Calls Tryz.prog 51 #[.agg #[.int .u8 c.tag,.int .i64 c.most,.int .i64 c.seg,.int .i64 c.least,.int .i64 c.den,.int .i64 c.ll,.int .i64 c.rl,.int .i64 c.rh,.int .i64 c.lh],slV s sa] W (AnsB W (.int .i64 (gapE c s)))):=hid fun W hb=>gapCheck_ok c s sa hl hl2 hcc W (hin.below hb)
 by_cases h0:gapE c s=0
 · rw [h0] at CK;obtain ⟨hc,a,H,kn,hs,hmost,hden⟩:=gap_zero h0;obtain ⟨g,-⟩:=gapN_gd kn hin.u;obtain ⟨p1,p2,p3,p4,p5,p6⟩:=kn.pows;rw [sum_many kn hin.u] at hmost;have AM:Hid (∀W,Below w.heap.size w W→Calls Tryz.prog 68 #[slV s sa,.int .i64 0,.int .i64 s.ks.length] W (AnsB W (.int .i64 (manyC s)))):=hid fun W hb=>among_all kn hin.u sa hcc W (hin.below hb)
   have hcf:=cfHead_num (cfMay_head hc);by_cases hk:k<0
   · have e:putE c s k=2:=by rw [putE,if_pos h0,if_pos (.inl hk)]
     rw [putC,e,if_neg xdd];exact gPut_neg c s.seg _ _ _ _ _ _ _ _ _ _ _ _ _ k x y _ hk w CK AM
   · by_cases hm:(manyC s:Int)<k
     · have e:putE c s k=2:=by rw [putE,if_pos h0,if_pos (.inr hm)]
       rw [putC,e,if_neg xdd];exact gPut_arg c s.seg _ _ _ _ _ _ _ _ _ _ _ _ _ k x y _ hk hm w CK AM
     · by_cases hf:(manyC s:Int)=c.most
       · have e:putE c s k=9:=by rw [putE,if_pos h0,if_neg xo,if_pos hf]
         rw [putC,e,if_neg xdd];exact gPut_full c s.seg _ _ _ _ _ _ _ _ _ _ _ _ _ k x y _ hk hm hf w CK AM
       · have e:putE c s k=0:=by rw [putE,if_pos h0,if_neg xo,if_neg hf]
         rw [putC,e,if_pos rfl,sgL_eq kn.cap.seg,kn.cap.hgt];obtain ⟨n,rfl⟩:∃n:Nat,k=n:=⟨k.toNat,by omega⟩
         rw [Int.toNat_natCast];have hn:n≤manyC s:=xo;have hmn:manyC s≤s.ks.length:=by have:=cntW_le s.ws 0 s.ks.length;unfold manyC;omega
         have hat:=homeC_lt p5 n;have HM:Hid (∀W,Below w.heap.size w W→Calls Tryz.prog 99 #[slV s sa,.int .i64 n] W (AnsB W (.int .i64 (homeC s n:Nat)))):=hid fun W hb=>by
          refine home_ok s.seg _ _ _ _ _ _ _ _ _ _ _ _ _ n (homeC s n) (nthE s.ws s.ks.length (n-1)) xo W (hid fun W' hb'=> ?_);have:=Nth_ok sa.wa sa.wc s.ws hin.u s.ks.length (n-1) p4 xo hl (may_w kn) W' ((hin.below hb).below hb').w ((hT.below hb).below hb');have ev:nthV s.ws s.ks.length (n-1)=(homeC s n:Nat):=by
           unfold nthV homeC;split
           · rfl
           · rename_i hq
             rw [List.getD_eq_getElem?_getD,List.getElem?_eq_none xo];rfl
          rwa [ev] at this
         have hov:∀h,ovB c s a H (homeC s n) h= !fulB c H h (inH s a h (homeC s n)+1):=fun h=>rfl
         have HH0:=hid (fun lo hi=>home_in (s:=s) (k:=n) (lo:=lo) (hi:=hi) p5 hn);unfold putN;generalize homeC s n=at_ at *;have HI:Hid (∀W b2,Below w.heap.size w W→W.cell? ⟨w.heap.size,0,none⟩=some (.int .u8 c.tag)→W.cell? ⟨w.heap.size,1,none⟩=some (.int .i64 c.most)→W.cell? ⟨w.heap.size,2,none⟩=some (.int .i64 c.seg)→W.cell? ⟨w.heap.size,3,none⟩=some (.int .i64 c.least)→W.cell? ⟨w.heap.size,4,none⟩=some (.int .i64 c.den)→W.cell? ⟨w.heap.size,5,none⟩=some (.int .i64 c.ll)→W.cell? ⟨w.heap.size,6,none⟩=some (.int .i64 c.rl)→W.cell? ⟨w.heap.size,7,none⟩=some (.int .i64 c.rh)→W.cell? ⟨w.heap.size,8,none⟩=some (.int .i64 c.lh)→W.cell? ⟨b2,0,none⟩=some (.int .i64 s.ks.length)→Calls Tryz.prog 73 #[slV s sa,.int .i64 at_,.func (.func 98) #[] #[.pointer (some ⟨w.heap.size,0,none⟩),.pointer (some ⟨b2,0,none⟩)]] W (HighR W a at_ H (topI (ovB c s a H at_) (H+1)))):=hid fun W b2 hb q0 q1 q2 q3 q4 q5 q6 q7 q8 q9=>by
          refine highest_ok s.seg _ _ _ _ _ _ _ _ _ _ _ _ _ a H at_ p6 (ovB c s a H at_) (fun h=>inH s a h at_) 98 _ enters_put1 W (hid fun W' hb'=> ?_) (hid fun h hh W' hb'=> ?_) (hid fun h hh W' hb'=> ?_)
          · exact Path_ok s.seg s.ks.length a H (kn.win hs) at_ xo W'
          · exact among_win kn hin.u sa hcc hh hat W' ((hin.below hb).below hb')
          · have b:=inH_bd kn hin.u hh hat;have cc:∀ {p:Addr} {v:Value},W.cell? p=some v→W'.cell? p=some v:=fun h=>(hb'.cell (World.block_lt_of_cell? _ _ h)).trans h
            exact putIs_ok c s.ks.length h (inH s a h at_) (fulB c H h (inH s a h at_+1)) (inB c h (inH s a h at_+1)) w.heap.size b2 xo W' (cc q0) (cc q1) (cc q2) (cc q3) (cc q4) (cc q5) (cc q6) (cc q7) (cc q8) (cc q9) (hid fun W'' hb''=>Full_ok c s.ks.length a H h kn.cap hh (inH s a h at_+1) xo xo W'')
         by_cases ht:topI (ovB c s a H at_) (H+1)=H
         · rw [if_pos ht];have hLn:(prs s 0 s.ks.length).length=manyC s:=prs_length _ _ _;have hcap:=cap_facts kn (n:=manyC s+1) xo;have hil:(insL (prs s 0 s.ks.length) n (x,y)).length=manyC s+1:=by rw [insL_length (by rw [hLn];exact hn),hLn]
           refine gPut_wide c s.seg _ _ _ _ _ _ _ _ _ _ _ _ _ a H at_ n (2^a*capM c (manyC s+1)) x y _ _ (prs s 0 s.ks.length) (by rw [hLn];omega) (by rw [hLn];exact hn) _ hm hf p6 ht w CK AM HM HI (hid fun W hb=> ?_) (hid fun W hb=> ?_) (hid fun la pl W hb hla=> ?_)
           · have:=Pairs_ok s sa hl hl2 0 s.ks.length W (hin.below hb);have pe:partE s 0 s.ks.length=0:=by rw [partE,if_pos kn.may,if_pos xo]
             rw [prsR,pe,if_pos rfl] at this;exact this
           · have:=Cap_in c hc (manyC s+1:Nat) xo xo W;rw [hLn];rwa [hcap.2.1] at this
           · have:=Into_ok g kn.may sa (capM c (manyC s+1)) hcap.2.2.1 (pwB_two a) hcap.2.2.2.2.2 hcap.2.2.2.1 (insL (prs s 0 s.ks.length) n (x,y)) (by rw [hil];exact hcap.2.2.2.2.1) la pl W (hin.below hb) hla;rw [hil] at this;rw [hLn];exact this
         · rw [if_neg ht];obtain ⟨h,eh,hh,hroom⟩:=put_room kn hin.u hat ht;have hht:(topI (ovB c s a H at_) (H+1)+1).toNat=h:=xo;simp only [hht];have b:=wnd_bd (a:=a) hh (by rw [←kn.nk];exact hat);have e3:=wnd_seg a h at_;have hhi:(wnd a h at_+1)*2^(a+h)≤s.ks.length:=by rw [kn.nk];exact b.2.2.2
           have hlo0:wnd a h at_*2^(a+h)≤at_:=b.2.1;have hhi0:at_<(wnd a h at_+1)*2^(a+h):=b.2.2.1;obtain ⟨k1,k2⟩:=HH0.out _ _ hlo0 hhi0 hhi;have hlen:=prs_length s (wnd a h at_*2^(a+h)) ((wnd a h at_+1)*2^(a+h));have hAH:=fun W (hb:Below w.heap.size w W)=>among_lo kn hin.u sa hcc hh hat W (hin.below hb)
           rw [←e3.2.2] at hhi hhi0 k2 hlen hroom ⊢;have hil:(insL (prs s (wnd a h at_*2^(a+h)) ((wnd a h at_*2^(a+h))+2^(a+h))) (n-cntW s.ws 0 (wnd a h at_*2^(a+h))) (x,y)).length=(prs s (wnd a h at_*2^(a+h)) ((wnd a h at_*2^(a+h))+2^(a+h))).length+1:=insL_length k2 _;have hc2:=cntW_le s.ws (wnd a h at_*2^(a+h)) ((wnd a h at_*2^(a+h))+2^(a+h));refine gPut_with c s.seg _ _ _ _ _ _ _ _ _ _ _ _ _ a H h at_ n (n-cntW s.ws 0 (wnd a h at_*2^(a+h))) x y _ _ (cntW s.ws 0 (wnd a h at_*2^(a+h)):Nat) _ hm hf hh p6 eh ht xo xo w CK AM HM HI (hid hAH) (hid fun W hb=> ?_);rw [show ((wnd a h at_*2^(a+h):Nat):Int)+((2^(a+h):Nat):Int)=((wnd a h at_*2^(a+h)+2^(a+h):Nat):Int) from (Int.natCast_add _ _).symm];refine With_core s.seg sa.wa sa.ka sa.va sa.ca sa.wc sa.kc sa.vc sa.cc s.ws.length s.ks.length s.vs.length s.cs.length s.laid (wnd a h at_*2^(a+h)) ((wnd a h at_*2^(a+h))+2^(a+h)) (n-cntW s.ws 0 (wnd a h at_*2^(a+h))) x y (prs s (wnd a h at_*2^(a+h)) ((wnd a h at_*2^(a+h))+2^(a+h))) xo k2 xo xo (spC s (wnd a h at_*2^(a+h)) ((wnd a h at_*2^(a+h))+2^(a+h)) (insL (prs s (wnd a h at_*2^(a+h)) ((wnd a h at_*2^(a+h))+2^(a+h))) (n-cntW s.ws 0 (wnd a h at_*2^(a+h))) (x,y))) W (hid fun W' hb'=> ?_) (hid fun la pl W' hb' hla=> ?_)
           · have:=Pairs_ok s sa hl hl2 (wnd a h at_*2^(a+h)) ((wnd a h at_*2^(a+h))+2^(a+h):Nat) W' ((hin.below hb).below hb');have pe:partE s (wnd a h at_*2^(a+h)) ((wnd a h at_*2^(a+h))+2^(a+h):Nat)=0:=by rw [partE,if_pos kn.may,if_pos ⟨Int.natCast_nonneg _,Int.ofNat_le.2 (Nat.le_add_right _ _),Int.ofNat_le.2 hhi⟩]
             rw [prsR,pe,if_pos rfl] at this;exact this
           · have:=over_ok g kn.may sa (wnd a h at_*2^(a+h)) ((wnd a h at_*2^(a+h))+2^(a+h)) xo hhi (insL (prs s (wnd a h at_*2^(a+h)) ((wnd a h at_*2^(a+h))+2^(a+h))) (n-cntW s.ws 0 (wnd a h at_*2^(a+h))) (x,y)) (by rw [hil];omega) la pl W' ((hin.below hb).below hb') hla;rw [hil] at this;exact this
 · have e:putE c s k=gapE c s:=by rw [putE,if_neg h0]
   rw [putC,e,if_neg h0];exact gPut_err c s.seg _ _ _ _ _ _ _ _ _ _ _ _ _ k x y _ h0 w CK
end
section
open Go.RowKit Go.Shelf Go.Sort
theorem narrower_ok (c:Cfg) (seg:Int) (wa ka va ca:Option Addr) (wc kc vc cc lw n lv lc:Nat) (laid:Int) (a H m:Nat) (k:CapC c n a H) (hm:m≤n) (w:World)
    (AM:Hid (∀W,Below w.heap.size w W→Calls Tryz.prog 68 #[.agg #[.int .i64 seg,.slice wa lw wc,.slice ka n kc,.slice va lv vc,.slice ca lc cc,.int .u64 laid],.int .i64 0,.int .i64 n] W (AnsB W (.int .i64 m)))):
    Calls Tryz.prog 75 #[.agg #[.int .u8 c.tag,.int .i64 c.most,.int .i64 c.seg,.int .i64 c.least,.int .i64 c.den,.int .i64 c.ll,.int .i64 c.rl,.int .i64 c.rh,.int .i64 c.lh],.agg #[.int .i64 seg,.slice wa lw wc,.slice ka n kc,.slice va lv vc,.slice ca lc cc,.int .u64 laid]] w (AnsB w (.int .i64 (narF c m 20 n))):=by
 have HK:=hid k;have HM:=hid hm;clear k hm;go_enter Tryz.func75,Tryz.ntmps75
 go_upto_region 1 with (fail)
 generalize hwz:(w.alloc _).alloc _=wz;have hh:=ec9 hwz (au9 (al9 (b:=w.heap.size) xsi));obtain ⟨c_m0,c_m1,c_m2,c_m3,c_m4,c_m5,c_m6,c_m7,c_m8⟩:=hh;have z_m:=elt hwz (auz (alz (b:=w.heap.size) xsi));have hh:=ec6 hwz (al6 (b:=w.heap.size+1) xsi);obtain ⟨c_t0,c_t1,c_t2,c_t3,c_t4,c_t5⟩:=hh;have z_t:=elt hwz (alz (b:=w.heap.size+1) xsi);have HS:Hid (Below w.heap.size w wz):=by rw [←hwz];exact hid ((br.alloc (Nat.le_refl _) _).alloc xsi _)
 clear hwz;have K0:=hid (fun d os=>kr wz d os (AM.out _ (below_via (below_regrown wz d os) HS.out HS.out.size)));have q0:=cg c_m0;have q1:=cg c_m1;have q2:=cg c_m2;have q3:=cg c_m3;have q4:=cg c_m4;have q5:=cg c_m5;have q6:=cg c_m6;have q7:=cg c_m7;have q8:=cg c_m8;have q9:=cg c_t0;have q10:=cg c_t1;have q11:=cg c_t2;have q12:=cg c_t3;have q13:=cg c_t4;have q14:=cg c_t5;refine wp_region_quiet_below xk xk ?_;repeat (go_big_quiet_step (first|with_reducible exact K0.out _ _|exact K0.out _ _))
 refine wpQuiet_nil ?_;intro _ hw';obtain ⟨⟨dq,osq⟩,hw''⟩:=hw';subst hw'';have hbq:=below_regrown wz dq osq;clear q0 q1 q2 q3 q4 q5 q6 q7 q8 q9 q10 q11 q12 q13 q14 K0;generalize Sort.grow (redrawn wz dq) osq=wx at *;have HB1:=xv hbq HS;have hz_wx:=hbq.size;simp (disch:=omega) only [xcl hbq] at c_m0 c_m1 c_m2 c_m3 c_m4 c_m5 c_m6 c_m7 c_m8 c_t0 c_t1 c_t2 c_t3 c_t4 c_t5;replace z_m:=blt hbq z_m;replace z_t:=blt hbq z_t;have hz1:=HB1.out.size;clear hbq;go_wp2
 go_loopg [5] 20 (fun gk sv wr=>∃(sz:Int) (H':Nat),H'<gk∧sv= .int .i64 sz∧CapC c sz a H'∧(m:Int)≤sz∧Hid (narF c m 20 n=narF c m gk sz)∧Hid (Below wx.heap.size wx wr))
 case atStart=>exact ⟨n,H,by have:=HK.out.h14;omega,rfl,HK.out,by have:=HM.out;omega,hid rfl,hid br⟩
 case round=>
  obtain ⟨sz,H',hg,rfl,k,hmz,HN,HB⟩:=hrel;obtain ⟨g,rfl⟩:∃g,gk=g+1:=⟨gk-1,by omega⟩
  have hbr:=HB.out;have hz_wr:=hbr.size;simp (disch:=omega) only [xcl hbr] at c_m0 c_m1 c_m2 c_m3 c_m4 c_m5 c_m6 c_m7 c_m8 c_t0 c_t1 c_t2 c_t3 c_t4 c_t5;replace z_m:=blt hbr z_m;replace z_t:=blt hbr z_t;have HB2:=hid (below_via hbr HB1.out hz1);have HI:=hid (fun W=>High_in c k.may sz k.cap W);rw [k.hgt] at HI;have hall:=k.all;have hbig:=k.big;have hwd:wdC c H'=sz:=by rw [wdC,k.seg,hall];push_cast;rfl
  have SP:=hid (fun W=>Sparse_in c sz a H' H' k (Nat.le_refl _) (m:Int) xo (by rw [hwd];exact hmz) W);have hw1:sz.tdiv 2=sz/2:=Int.tdiv_eq_ediv_of_nonneg xo;have hw2:IntKind.i64.wrap (sz/2)=sz/2:=IntWalk.i64_in _ xo;have hst:Hid (sprB c sz H' H' m=false→∃H2,H2<g∧CapC c (sz/2) a H2∧(m:Int)≤sz/2):=hid fun hs=>by
   obtain ⟨H2,rfl,k2,h8⟩:=nar_step k hs;exact ⟨H2,by omega,k2,by omega⟩
  have hn1:Hid (sprB c sz H' H' m=true→narF c m (g+1) sz=sz):=hid fun hs=>by rw [narF,k.hgt,if_pos hs]
  have hn2:Hid (sprB c sz H' H' m=false→narF c m (g+1) sz=narF c m g (sz/2)):=hid fun hs=>by rw [narF,k.hgt,if_neg (by rw [hs];decide)]
  generalize sprB c sz H' H' m=b at *;clear hbr k hall hbig hwd hg;go_wp2_with fail
  refine (HI.out _).mono ?_;rintro e w3 ⟨rfl,hb3⟩;have hz_w3:=hb3.size;simp (disch:=omega) only [xcl hb3] at c_m0 c_m1 c_m2 c_m3 c_m4 c_m5 c_m6 c_m7 c_m8 c_t0 c_t1 c_t2 c_t3 c_t4 c_t5;replace z_m:=blt hb3 z_m;replace z_t:=blt hb3 z_t;have HB3:=xv hb3 HB2;have HC3:=xv hb3 HB;clear hb3;go_wp2_with fail
  refine (SP.out _).mono ?_;rintro e w4 ⟨rfl,hb4⟩;have hz_w4:=hb4.size;simp (disch:=omega) only [xcl hb4] at c_m0 c_m1 c_m2 c_m3 c_m4 c_m5 c_m6 c_m7 c_m8 c_t0 c_t1 c_t2 c_t3 c_t4 c_t5;replace z_m:=blt hb4 z_m;replace z_t:=blt hb4 z_t;have HB4:=xv hb4 HB3;have HC4:=xv hb4 HC3;clear hb4;cases b with
  | true=>
   have HV:=hid (HN.out.trans (hn1.out rfl));clear hn1 hn2 hst;go_wp2
   go_ret
   exact ⟨by rw [HV.out];rfl,HB4.out⟩
  | false=>
   obtain ⟨H2,q1,q2,q3⟩:=hst.out rfl;have HQ:=hid q2;have HV:=hid (HN.out.trans (hn2.out rfl));clear q2 hn1 hn2 hst;go_wp2
   go_roundg g
   case measure=>omega
   case rel=>exact ⟨sz/2,H2,q1,by first|rfl|rw [hw2],HQ.out,q3,HV,HC4⟩
end
end Go.Proofs.YtjhpblejlchhjaaGreatDoor

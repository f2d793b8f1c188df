/- Merged: PmRef, PmLaid, SeekRk, Emptied, With4, SlLayW, RangeE. -/
import Derived.Test.YtmnlagmmbfjbeaaDoorPmaNamesP22
import Derived.Test.YtmnlagmmbfjbeaaDoorPmaNamesP6
import Derived.Test.YtmnlagmmbfjbeaaDoorPmaNamesP14
import Derived.Test.YtmnlagmmbfjbeaaDoorPmaNamesP20
import Derived.Test.YtmnlagmmbfjbeaaDoorPmaNamesP5
import Derived.Lib.QuietBelow
import Derived.Deep.CutRange
import Derived.Test.YtmnlagmmbfjbeaaDoorPmaNamesP2
import Derived.Test.YtmnlagmmbfjbeaaDoorPmaNamesP19
import Derived.Test.YtmnlagmmbfjbeaaDoorPmaNamesP18
import Derived.Test.YtmnlagmmbfjbeaaDoorPmaNamesP4
namespace Go.Proofs.YtmnlagmmbfjbeaaDoor
set_option maxRecDepth 100000
set_option maxHeartbeats 40000000
set_option linter.unusedVariables false
set_option linter.unusedSimpArgs false
section
open Go.RowKit Go.Shelf
attribute [local go_sem] Oper.semAt_some
end
section
open Go.RowKit Go.Shelf
attribute [local go_sem] Oper.semAt_some
end
section
open Go.RowKit Go.Shelf Go.Sort
def rankV (c:SlC) (key:Int):Int×Int:=if seekE c=0 then ((cntW c.ws 0 (frS c.ws c.ks c.ks.length key):Int),0) else (0,seekE c)
theorem seekRank_ok (c:SlC) (a:SlA) (key:Int) (hl:c.ws.length≤1000000000000) (hl2:c.ks.length≤1000000000000) (w:World) (hin:SlIn w c a) (hT:TabAt w):
    Calls Tryd.prog 23 #[slV c a,.int .i64 key] w (AnsB w (.tuple #[.int .i64 (rankV c key).1,.int .i64 (rankV c key).2])):=by
 have CK:=hid (fun W (hW:Below w.heap.size w W)=>seekCheck_ok c a hl hl2 W (hin.below hW));by_cases hs:seekE c=0
 · have FR:=hid (fun W (hW:Below w.heap.size w W)=>from_ok c a key hs W (hin.below hW) (hT.below hW));obtain ⟨n1,n2,n3⟩:=seek_n hs;have CT:=hid (fun W (hW:Below w.heap.size w W)=>Count_ok a.wa a.wc c.ws hin.u c.ks.length 0 (frS c.ws c.ks c.ks.length key) n1 xo n3 (Nat.zero_le _) (frS_is c.ws c.ks c.ks.length key).le W (hin.below hW).w);rw [hs] at CK;have e:rankV c key=((cntW c.ws 0 (frS c.ws c.ks c.ks.length key):Int),0):=by rw [rankV,if_pos hs]
   rw [e];clear e;generalize cntW c.ws 0 (frS c.ws c.ks c.ks.length key)=Z at *;generalize frS c.ws c.ks c.ks.length key=R at *;obtain ⟨seg,ws,ks,vs,cs,laid⟩:=c;obtain ⟨wa,ka,va,ca,wc,kc,vc,cc⟩:=a;dsimp only [slV] at *;clear hin hs hT hl hl2 n1 n2 n3;go_enter Tryd.func23,Tryd.ntmps23
   go_wp2_with fail
   refine (CK.out _ xbel).mono ?_;rintro e w1 ⟨rfl,hb1⟩;have hz_w1:=hb1.size;try simp only [World.size_alloc,World.size_setCell] at hz_w1
   have hh:=bc6 hb1 (al6 (b:=w.heap.size) xsi);obtain ⟨c_t0,c_t1,c_t2,c_t3,c_t4,c_t5⟩:=hh;have z_t:=blt hb1 (alz (b:=w.heap.size) xsi);have hB1:Below w.heap.size w w1:=xbel;have HB1:=hid hB1;clear hb1 hB1;go_upto_region 4 with (fail)
   have K0:=hid (fun d os=>kr w1 d os (FR.out _ (below_via (below_regrown w1 d os) HB1.out HB1.out.size)));have K1:=hid (fun d os=>kr w1 d os (CT.out _ (below_via (below_regrown w1 d os) HB1.out HB1.out.size)));have q0:=cg c_t0;have q1:=cg c_t1;have q2:=cg c_t2;have q3:=cg c_t3;have q4:=cg c_t4;have q5:=cg c_t5;refine wp_region_quiet_below xk xk ?_;repeat (go_big_quiet_step (first|with_reducible exact K0.out _ _|with_reducible exact K1.out _ _|exact K0.out _ _|exact K1.out _ _))
   refine wpQuiet_nil ?_;intro _ hw';obtain ⟨⟨dq,osq⟩,hw''⟩:=hw';subst hw'';have hbq:=below_regrown w1 dq osq;clear q0 q1 q2 q3 q4 q5 K0 K1;generalize Sort.grow (redrawn w1 dq) osq=wx at *;have HB3:=xv hbq HB1;clear hbq;go_wp2
   go_ret2
   exact ⟨rfl,HB3.out⟩
 · have e:rankV c key=(0,seekE c):=by rw [rankV,if_neg hs]
   rw [e];have g1:(seekE c != 0)=true:=by simpa using hs
   generalize seekE c=E at *;obtain ⟨seg,ws,ks,vs,cs,laid⟩:=c;obtain ⟨wa,ka,va,ca,wc,kc,vc,cc⟩:=a;dsimp only [slV] at *;clear hin hs hT hl hl2 e;go_enter Tryd.func23,Tryd.ntmps23
   go_wp2_with fail
   refine (CK.out _ xbel).mono ?_;rintro e w1 ⟨rfl,hb1⟩;have hz_w1:=hb1.size;try simp only [World.size_alloc,World.size_setCell] at hz_w1
   have hh:=bc6 hb1 (al6 (b:=w.heap.size) xsi);obtain ⟨c_t0,c_t1,c_t2,c_t3,c_t4,c_t5⟩:=hh;have z_t:=blt hb1 (alz (b:=w.heap.size) xsi);have hB1:Below w.heap.size w w1:=xbel;go_wp2
   go_ret2
   exact ⟨rfl,hB1⟩
end
section
open Go.RowKit Go.Shelf
attribute [local go_sem] Oper.semAt_some
end
section
open Go.RowKit Go.Shelf
attribute [local go_sem] Oper.semAt_some
structure FilK3 (w w2 W:World):Prop where
 bel:Below w.heap.size w W
 keep:∀q,q<w.heap.size+3→q≠w.heap.size→W.heap[q]? =w2.heap[q]?
 size:w.heap.size+3≤W.heap.size
theorem FilK3.below {w w2 W W':World} (h:FilK3 w w2 W) (hb:Below W.heap.size W W'):FilK3 w w2 W':=
  ⟨below_via hb h.bel (by have:=h.size;omega),fun q hq hne=>(hb.block q (by have:=h.size;omega)).trans (h.keep q hq hne),Nat.le_trans h.size hb.size⟩
theorem FilK3.drew {w w2 W:World} (h:FilK3 w w2 W):FilK3 w w2 W.drew:=⟨h.bel.drew,h.keep,h.size⟩
theorem FilK3.setCell {w w2 W:World} (h:FilK3 w w2 W) {a:Addr} (ha:a.block=w.heap.size∨w.heap.size+3≤a.block) (v:Value):FilK3 w w2 (W.setCell a v):=
  ⟨h.bel.setCell xo v,fun q hq hne=>(heap_setCell_ne _ _ _ xo).trans (h.keep q hq hne),by rw [World.size_setCell];exact h.size⟩
end
section
open Go.RowKit
theorem askedSl_core (w:World) (seg:Int) (wa ka va ca:Option Addr) (wc kc vc cc lw n lv lc:Nat) (laid:Int) (i:Nat) (hi:i<n)
    (CK:Hid (∀W,Below w.heap.size w W→Calls Tryd.prog 52 #[.agg #[.int .i64 seg,.slice wa lw wc,.slice ka n kc,.slice va lv vc,.slice ca lc cc,.int .u64 laid]] W (AnsB W (.int .i64 0)))):
    Calls Tryd.prog 31 #[.agg #[.int .i64 seg,.slice wa lw wc,.slice ka n kc,.slice va lv vc,.slice ca lc cc,.int .u64 laid],.int .i64 i] w (AnsB w (.int .i64 0)):=by
 go_enter Tryd.func31,Tryd.ntmps31
 go_wp2_with fail
 refine (CK.out _ xbel).mono ?_;rintro e w1 ⟨rfl,hb1⟩;have hz_w1:=hb1.size;try simp only [World.size_alloc,World.size_setCell] at hz_w1
 have hh:=bc6 hb1 (al6 (b:=w.heap.size) xsi);obtain ⟨c_t0,c_t1,c_t2,c_t3,c_t4,c_t5⟩:=hh;have z_t:=blt hb1 (alz (b:=w.heap.size) xsi);have hB1:Below w.heap.size w w1:=xbel;go_wp2
 go_ret
 exact ⟨rfl,hB1⟩
theorem slLayW_core (w:World) (seg:Int) (wa ka va ca:Option Addr) (wc kc vc cc lw n lc:Nat) (laid:Int) (c:SlC) (i S:Nat) (key val:Int)
    (hseg:c.seg=seg) (hlaid:c.laid=laid) (hlw:c.ws.length=lw) (hlk:c.ks.length=n) (hlv:c.vs.length=n) (hlc:c.cs.length=lc) (h1:0<lw) (h2:0<n) (h3:0<lc) (hn:n≤65536) (hlw2:lw≤65536) (hlc2:lc≤65536) (hS:seg=S) (hS4:4≤S) (hi:i<n) (hwn:n≤64*lw) (hcn:n=S*lc) (hok:okC c=true)
    (CK:Hid (∀W,Below w.heap.size w W→Calls Tryd.prog 52 #[.agg #[.int .i64 seg,.slice wa lw wc,.slice ka n kc,.slice va n vc,.slice ca lc cc,.int .u64 laid]] W (AnsB W (.int .i64 0))))
    (TW:Hid (∀W,Below w.heap.size w W→Calls Tryd.prog 29 #[.agg #[.int .i64 seg,.slice wa lw wc,.slice ka n kc,.slice va n vc,.slice ca lc cc,.int .u64 laid]] W (FreshSlN W c))):
    Calls Tryd.prog 22 #[.agg #[.int .i64 seg,.slice wa lw wc,.slice ka n kc,.slice va n vc,.slice ca lc cc,.int .u64 laid],.int .i64 i,.agg #[.int .i64 key,.int .i64 val]] w (FreshSl2 w (lyC c i key val) (.int .i64 0)):=by
 have AK:=hid (fun W (hb:Below w.heap.size w W)=>askedSl_core W seg wa ka va ca wc kc vc cc lw n n lc laid i hi (hid fun W' hb'=>CK.out W' (below_via hb' hb hb.size)));have HC:=hid (And.intro hseg (And.intro hlaid (And.intro hlw (And.intro hlk (And.intro hlv hlc)))));have HSS:=hid hS;have HCN:=hid hcn;have HOK:=hid hok;clear hseg hlaid hlw hlk hlv hlc hS hcn CK hok;go_enter Tryd.func22,Tryd.ntmps22
 go_wp2_with fail
 refine (AK.out _ xbel).mono ?_;rintro e w1 ⟨rfl,hb1⟩;have hz_w1:=hb1.size;try simp only [World.size_alloc,World.size_setCell] at hz_w1
 have hh:=bc6 hb1 (au6 (au6 (al6 (b:=w.heap.size) xsi)));obtain ⟨c_t0,c_t1,c_t2,c_t3,c_t4,c_t5⟩:=hh;have z_t:=blt hb1 (auz (auz (alz (b:=w.heap.size) xsi)));have hh:=bc2 hb1 (au2 (al2 (b:=w.heap.size+1) xsi));obtain ⟨c_p0,c_p1⟩:=hh;have z_p:=blt hb1 (auz (alz (b:=w.heap.size+1) xsi));have hh:=bc6 hb1 (al6 (b:=w.heap.size+1+1) xsi);obtain ⟨c_r0,c_r1,c_r2,c_r3,c_r4,c_r5⟩:=hh;have hh:=bf6 hb1 (alz (b:=w.heap.size+1+1) xsi) (alf6 (b:=w.heap.size+1+1) xsi);obtain ⟨f_r0,f_r1,f_r2,f_r3,f_r4,f_r5⟩:=hh;have z_r:=blt hb1 (alz (b:=w.heap.size+1+1) xsi);have hB1:Below w.heap.size w w1:=xbel;have HB1:=hid hB1;have hz1:w.heap.size+3≤w1.heap.size:=xo;clear hb1 hB1;go_wp2_with fail
 refine (TW.out w1 HB1.out).mono ?_;rintro e w2 ⟨v1,v2,v3,v4,rfl,o1,o2,o3,o4,hb2,hne⟩;obtain ⟨eseg,elaid,elw,elk,elv,elc⟩:=HC.out;rw [elw] at o1;rw [elk] at o2;rw [elv] at o3;rw [elc] at o4;rw [eseg,elaid];obtain ⟨g1,k1,rfl,hg1,hg1'⟩:=owns_at o1 h1;obtain ⟨g2,k2,rfl,hg2,hg2'⟩:=owns_at o2 h2;obtain ⟨g3,k3,rfl,hg3,hg3'⟩:=owns_at o3 h2;obtain ⟨g4,k4,rfl,hg4,hg4'⟩:=owns_at o4 h3;have n23:g2≠g3:=hne g2 g3 rfl rfl;have apart:∀ {e e':TypeId} {g g' n n' k k':Nat} {xs xs':List Value},w2.ownsRow w1.heap.size e 1 (.slice (some ⟨g,0,none⟩) n k) n xs→w2.ownsRow w1.heap.size e' 1 (.slice (some ⟨g',0,none⟩) n' k') n' xs'→e≠e'→g≠g':=by
  intro e e' g g' n n' k k' xs xs' ha hb hc;rcases owns_apart ha hb hc with h|h
  · cases h
  · intro hgg;exact h (by subst hgg;rfl)
 have n12:=apart o1 o2 xdd;have n13:=apart o1 o3 xdd;have n14:=apart o1 o4 xdd;have n24:=apart o2 o4 xdd;have n34:=apart o3 o4 xdd;clear apart hne;have hz_w2:=hb2.size;have HBW:Hid (Below w1.heap.size w1 w2):=hid hb2;have HO:=hid (And.intro o1 (And.intro o2 (And.intro o3 o4)));have hz_w2:=hb2.size;simp (disch:=omega) only [xcl hb2,xfr hb2] at *;replace z_t:=blt hb2 z_t;replace z_p:=blt hb2 z_p;replace z_r:=blt hb2 z_r;clear o1 o2 o3 o4 hb2;go_wp2_with fail
 have hb3:Below w2.heap.size w2 (w2.alloc (.cells #[.int .i64 seg,.slice (some ⟨g1,0,none⟩) lw k1,.slice (some ⟨g2,0,none⟩) n k2,.slice (some ⟨g3,0,none⟩) n k3,.slice (some ⟨g4,0,none⟩) lc k4,.int .u64 laid] 69)):=br.alloc (Nat.le_refl _) _;have hA:ArrC w1.heap.size (w2.alloc (.cells #[.int .i64 seg,.slice (some ⟨g1,0,none⟩) lw k1,.slice (some ⟨g2,0,none⟩) n k2,.slice (some ⟨g3,0,none⟩) n k3,.slice (some ⟨g4,0,none⟩) lc k4,.int .u64 laid] 69)) w2.heap.size g1 g2 g3 g4 k1 k2 k3 k4 lw n lc c:=by
  unfold ArrC;rw [eseg,elaid];exact ⟨by (exact xcw),by (exact xcw),by (exact xcw),by (exact xcw),by (exact xcw),by (exact xcw),by (exact xcw),owns_below HO.out.1 hb3,owns_below HO.out.2.1 hb3,owns_below HO.out.2.2.1 hb3,owns_below HO.out.2.2.2 hb3⟩
 have HA:=hid hA;have hzz:(w2.alloc (.cells #[.int .i64 seg,.slice (some ⟨g1,0,none⟩) lw k1,.slice (some ⟨g2,0,none⟩) n k2,.slice (some ⟨g3,0,none⟩) n k3,.slice (some ⟨g4,0,none⟩) lc k4,.int .u64 laid] 69)).heap.size=w2.heap.size+1:=by simp
 have HB3:Hid (Below w1.heap.size w1 (w2.alloc (.cells #[.int .i64 seg,.slice (some ⟨g1,0,none⟩) lw k1,.slice (some ⟨g2,0,none⟩) n k2,.slice (some ⟨g3,0,none⟩) n k3,.slice (some ⟨g4,0,none⟩) lc k4,.int .u64 laid] 69))):=hid (HBW.out.trans (hb3.mono HBW.out.size));generalize w2.alloc (.cells #[.int .i64 seg,.slice (some ⟨g1,0,none⟩) lw k1,.slice (some ⟨g2,0,none⟩) n k2,.slice (some ⟨g3,0,none⟩) n k3,.slice (some ⟨g4,0,none⟩) lc k4,.int .u64 laid] 69)=w3 at *;have hz_w3:=hb3.size;simp (disch:=omega) only [xcl hb3,xfr hb3] at *;replace z_t:=blt hb3 z_t;replace z_p:=blt hb3 z_p;replace z_r:=blt hb3 z_r;have HNE:Hid (ArrNe w2.heap.size g1 g2 g3 g4):=hid ⟨by omega,by omega,by omega,by omega,n12,n13,n14,n23,n24,n34⟩;have hbb:w1.heap.size≤w2.heap.size:=HBW.out.size;have hS':c.seg=(S:Int):=by rw [eseg];exact HSS.out
 have LY:=hid (lay_ok w3 w1.heap.size w2.heap.size g1 g2 g3 g4 k1 k2 k3 k4 lw n lc i S c key val HA.out HNE.out HOK.out hi hn xo hlw2 hS' hS4 (by have:=HCN.out;exact Nat.div_lt_of_lt_mul xo) hlc2);clear hA hb3 HO n12 n13 n14 n23 n24 n34 eseg elaid elw elk elv elc HBW hS';have hBw3:Below w.heap.size w w3:=below_via HB3.out HB1.out xo;refine LY.out.mono ?_;rintro e w5 ⟨rfl,hA5,hk5⟩;have hB5:=kept5_below HB3.out hk5 xo xo hg1 hg2 hg3 hg4;have hz5:=hk5.size;have hAe:=hA5;unfold ArrC at hAe;obtain ⟨e0,e1,e2,e3,e4,e5,-,p1,p2,p3,p4⟩:=hAe;have l1:=own_len p1;have l2:=own_len p2;have l3:=own_len p3;have l4:=own_len p4;generalize lyC c i key val=d at *;have hk6:Below w1.heap.size w3 w5:=kept5_below (Below.refl _ w3) hk5 xo xo hg1 hg2 hg3 hg4;have hBw5:Below w.heap.size w w5:=below_via hB5 HB1.out xo;have hz_w5:=hk6.size;try simp only [World.size_alloc,World.size_setCell] at hz_w5
 have all_c:w5.cell? ⟨w.heap.size,0,none⟩=some (.int .i64 seg)∧w5.cell? ⟨w.heap.size,1,none⟩=some (.slice wa lw wc)∧w5.cell? ⟨w.heap.size,2,none⟩=some (.slice ka n kc)∧w5.cell? ⟨w.heap.size,3,none⟩=some (.slice va n vc)∧w5.cell? ⟨w.heap.size,4,none⟩=some (.slice ca lc cc)∧w5.cell? ⟨w.heap.size,5,none⟩=some (.int .u64 laid)∧w5.cell? ⟨w.heap.size+1,0,none⟩=some (.int .i64 key)∧w5.cell? ⟨w.heap.size+1,1,none⟩=some (.int .i64 val)∧w5.cell? ⟨w.heap.size+1+1,0,none⟩=some (.int .i64 0)∧w5.cell? ⟨w.heap.size+1+1,1,none⟩=some (.slice none 0 0)∧w5.cell? ⟨w.heap.size+1+1,2,none⟩=some (.slice none 0 0)∧w5.cell? ⟨w.heap.size+1+1,3,none⟩=some (.slice none 0 0)∧w5.cell? ⟨w.heap.size+1+1,4,none⟩=some (.slice none 0 0)∧w5.cell? ⟨w.heap.size+1+1,5,none⟩=some (.int .u64 0):=by refine ⟨?_,?_,?_,?_,?_,?_,?_,?_,?_,?_,?_,?_,?_,?_⟩<;>(refine (hk6.cell ?_).trans ?_<;>first|(exact xlt)|(exact xcn))
 have all_f:w5.frozen? ⟨w.heap.size+1+1,0,none⟩=false∧w5.frozen? ⟨w.heap.size+1+1,1,none⟩=false∧w5.frozen? ⟨w.heap.size+1+1,2,none⟩=false∧w5.frozen? ⟨w.heap.size+1+1,3,none⟩=false∧w5.frozen? ⟨w.heap.size+1+1,4,none⟩=false∧w5.frozen? ⟨w.heap.size+1+1,5,none⟩=false:=by refine ⟨?_,?_,?_,?_,?_,?_⟩<;>(refine (hk6.frozen ?_).trans ?_<;>first|(exact xlt)|(exact xcn))
 have all_z:w.heap.size<w5.heap.size∧w.heap.size+1<w5.heap.size∧w.heap.size+1+1<w5.heap.size:=by refine ⟨?_,?_,?_⟩<;>(omega)
 clear c_t0 c_t1 c_t2 c_t3 c_t4 c_t5 c_p0 c_p1 c_r0 c_r1 c_r2 c_r3 c_r4 c_r5 f_r0 f_r1 f_r2 f_r3 f_r4 f_r5 z_t z_p z_r;obtain ⟨c_t0,c_t1,c_t2,c_t3,c_t4,c_t5,c_p0,c_p1,c_r0,c_r1,c_r2,c_r3,c_r4,c_r5⟩:=all_c;try clear all_c
 obtain ⟨f_r0,f_r1,f_r2,f_r3,f_r4,f_r5⟩:=all_f;try clear all_f
 obtain ⟨z_t,z_p,z_r⟩:=all_z;try clear all_z
 have HP1:=hid p1;have HP2:=hid p2;have HP3:=hid p3;have HP4:=hid p4;clear p1 p2 p3 p4 hA5 hk5;go_wp2
 have HQ:Hid (∀q,q≠w.heap.size+1+1→((((((w5.setCell ⟨w.heap.size+1+1,0,none⟩ (.int .i64 d.seg)).setCell ⟨w.heap.size+1+1,1,none⟩ (.slice (some ⟨g1,0,none⟩) lw k1)).setCell ⟨w.heap.size+1+1,2,none⟩ (.slice (some ⟨g2,0,none⟩) n k2)).setCell ⟨w.heap.size+1+1,3,none⟩ (.slice (some ⟨g3,0,none⟩) n k3)).setCell ⟨w.heap.size+1+1,4,none⟩ (.slice (some ⟨g4,0,none⟩) lc k4)).setCell ⟨w.heap.size+1+1,5,none⟩ (.int .u64 d.laid)).heap[q]? =w5.heap[q]?):=hid fun q hq=>by
  rw [heap_setCell_ne _ _ _ hq,heap_setCell_ne _ _ _ hq,heap_setCell_ne _ _ _ hq,heap_setCell_ne _ _ _ hq,heap_setCell_ne _ _ _ hq,heap_setCell_ne _ _ _ hq]
 refine bodyPost_ret (results_ct rfl rfl (run_loadVar_many _ Tryd.underlying29 rfl xk (six_set c_r0 c_r1 c_r2 c_r3 c_r4 c_r5))) rfl ⟨_,_,_,_,rfl,?_,?_,?_,?_,?_⟩
 · rw [l1];exact owns_base (owns_heap HP1.out fun j hj=>HQ.out j (by have:=(HP1.out.lt j hj).1;omega)) xo
 · rw [l2];exact owns_base (owns_heap HP2.out fun j hj=>HQ.out j (by have:=(HP2.out.lt j hj).1;omega)) xo
 · rw [l3];exact owns_base (owns_heap HP3.out fun j hj=>HQ.out j (by have:=(HP3.out.lt j hj).1;omega)) xo
 · rw [l4];exact owns_base (owns_heap HP4.out fun j hj=>HQ.out j (by have:=(HP4.out.lt j hj).1;omega)) xo
 · exact (((((hBw5.setCell xdo _).setCell xdo _).setCell xdo _).setCell xdo _).setCell xdo _).setCell xdo _
end
section
open Go.RowKit
def IterE (P:Program) (gf:Nat) (lb:Array Value) (xs:List (Array Value)) (Kp:World→World→Prop) (w:World):Prop:=
  ∀ (l:Nat) (J Jx:Nat→World→Prop) (W:World),Below w.heap.size w W→(∀W1,¬J xs.length W1)→
    (∀k W1 W2,J k W1→Below W1.heap.size W1 W2→J k W2)→(∀k W1 W2,Jx k W1→Below W1.heap.size W1 W2→Jx k W2)→
    (∀k W1,k<xs.length→J k W1→YieldAt Fence.wide 0 P l (xs.getD k #[]) W1 fun e W'=>
     (e= .returned (.bool true)∧J (k+1) W'∧Kp W1 W')∨(e= .returned (.bool false)∧Jx (k+1) W'))→
    J 0 W→
    CallsIn Fence.wide 0 P gf (#[.func (.yield l) #[] #[]]++lb) W fun e W'=>(∃v,e= .returned v)∧(J xs.length W'∨∃k,k≤xs.length∧Jx k W')
theorem wp_range_e {P:Program} {g:Operand} {ps:Array Tmp} {assign body:Code} {Q:Exit→Act→World→Prop} {a:Act} {w:World}
    {gf:Nat} {lb:Array Value} (hg:a.eval g= .func (.func gf) #[] lb) (eg:∀args w,(callFunc gf args).run P w= .ok (.enter gf args) w)
    {xs:List (Array Value)} {Kp:World→World→Prop} {w0:World} (hseq:IterE P gf lb xs Kp w0) (hb0:Below w0.heap.size w0 w)
    (hKt:∀ {A B C:World},Kp A B→Kp B C→Kp A C) (hKb:∀(W:World) (l:Nat) (o o':Obj),w.heap.size≤l→W.heap[l]? =some o→o.isCells=false→Kp W (W.putObj l o'))
    (hps:∀x ∈ xs,x.size=ps.size)
    (I:Nat→World→Prop) (Ix:Code→World→Prop) (hI:∀k W W',I k W→Calm w.heap.size W W'→I k W') (hIx:∀c W W',Ix c W→Calm w.heap.size W W'→Ix c W') (h0:I 0 w)
    (hround:∀(l k:Nat) (W:World),w.heap.size≤l→k<xs.length→I k W→
      assign.wpIn (inRd l) 0 P (Exit.then (BodyOkW P l body w.heap.size Kp I Ix k W) (fun _ _ _=>False))
        {tmps:=(ps.zip (xs.getD k #[])).foldl (fun t (p,v)=>t.setIfInBounds p v) a.tmps,defers:=[]} W)
    (hno:∀W,¬I xs.length W)
    (hstop:∀(D:Nat) (c:Code) (W:World),w.heap.size≤D→Ix c W→W.heap[D]? =some (.deferred (some []))→c.wp P Q {a with defers:= {target:= .collected D,args:= #[]}::a.defers} W):
    (Code.rangeFunc g ps assign body).wp P Q a w:=by
 refine wpIn_wide (n:=0).1 (wpIn_rangeFunc ?_);intro fn hfn;obtain ⟨rec,hrec⟩:∃rec:LoopState→Option Code→Loop,rec=fun st pe=> {state:=st,pending:=pe,fn,tmps:=a.tmps,params:=ps,assign,body,defers:=w.heap.size}:=⟨_,rfl⟩
 obtain ⟨W1,hW1⟩:∃W1,(w.alloc (.deferred (some []))).alloc (.loop (rec .ready none))=W1:=⟨_,rfl⟩
 have hL1:W1.heap[w.heap.size+1]? =some (.loop (rec .ready none)):=by
  rw [←hW1];have:=World.alloc_heap_new (w.alloc (.deferred (some []))) (.loop (rec .ready none));rwa [World.size_alloc] at this
 have hK1:W1.heap[w.heap.size]? =some (.deferred (some [])):=by
  rw [←hW1];exact (Below.heap_alloc _ _ _ xsi).trans (World.alloc_heap_new w _)
 have hI1:I 0 W1:=by rw [←hW1];exact hI _ _ _ h0 ((Calm.alloc _ (Nat.le_refl _)).trans (Calm.alloc _ xsi))
 have hb1:Below w0.heap.size w0 W1:=by
  rw [←hW1];exact hb0.trans ((((Below.refl _ w).alloc (Nat.le_refl _) _).alloc xsi _).mono hb0.size)
 have calmOf:∀ {A C:World},w.heap.size≤A.heap.size→Below A.heap.size A C→Calm w.heap.size A C:=fun hs hb=>
  ⟨hb.os,hb.tape,hb.output,hb.size,fun k hk=>hb.block k xo,fun k o hk _=>(hb.block k (Array.getElem?_eq_some_iff.1 hk).1).trans hk⟩
 refine ⟨w.heap.size+1,[{target:= .collected w.heap.size,args:= #[]}],W1,{target:= .fn (.func gf) lb,args:= #[.func (.yield (w.heap.size+1)) #[] #[]]},W1,gf,
   #[.func (.yield (w.heap.size+1)) #[] #[]]++lb,W1,?_,?_,fun _ _=>trivial,?_,fun h=>(by cases h),?_⟩
 · rw [←hW1,hrec];exact run_enterLoop_outer _ _ _ _ _
 · simp only [resolve,hg];simp [go_sem]
 · simp [invoke,go_sem,eg]
 · refine (hseq (w.heap.size+1)
     (fun k W=>I k W∧W.heap[w.heap.size+1]? =some (.loop (rec .ready none))∧W.heap[w.heap.size]? =some (.deferred (some [])))
     (fun _ W=>∃c,Ix c W∧W.heap[w.heap.size+1]? =some (.loop (rec .done (some c)))∧W.heap[w.heap.size]? =some (.deferred (some [])))
     W1 hb1 (fun W h=>hno W h.1) ?_ ?_ ?_ ⟨hI1,hL1,hK1⟩).mono ?_
   · rintro k A C ⟨h1,h2,h3⟩ hb;have l2:=(Array.getElem?_eq_some_iff.1 h2).1;exact ⟨hI _ _ _ h1 (calmOf xo hb),(hb.block _ l2).trans h2,(hb.block _ xo).trans h3⟩
   · rintro k A C ⟨c,h1,h2,h3⟩ hb;have l2:=(Array.getElem?_eq_some_iff.1 h2).1;exact ⟨c,hIx _ _ _ h1 (calmOf xo hb),(hb.block _ l2).trans h2,(hb.block _ xo).trans h3⟩
   · -- one round
     rintro k W hkl ⟨hi,hl,hk⟩;have hlt:w.heap.size+1<W.heap.size:=(Array.getElem?_eq_some_iff.1 hl).1;have hsz:(xs.getD k #[]).size=ps.size:=by
      rw [List.getD_eq_getElem?_getD,List.getElem?_eq_getElem hkl];exact hps _ (List.getElem_mem _)
     have hy:=run_yield (P:=P) (args:=xs.getD k #[]) hl (by rw [hrec];exact hsz);rw [hrec] at hy;refine ⟨fn,_,assign,body,hy,roundIn_of_wpIn trivial (wpIn_mono (hround _ k W xo hkl hi) ?_)⟩;intro e a1 Wa hq;cases e with
     | normal=>
      obtain ⟨hks,hkpa,hbody⟩:=hq;have hl0:=hl;have hlt0:=hlt;replace hl:Wa.heap[w.heap.size+1]? =some (.loop (rec .ready none)):=hks.same _ _ hl0 (by rfl);replace hk:Wa.heap[w.heap.size]? =some (.deferred (some [])):=hks.same _ _ hk (by rfl);replace hlt:w.heap.size+1<Wa.heap.size:=(Array.getElem?_eq_some_iff.1 hl).1;refine ⟨_,run_beginRound hl (by rw [hrec]),?_⟩;have hl2:(Wa.putObj (w.heap.size+1) (.loop {rec .ready none with state:= .busy})).heap[w.heap.size+1]? =some (.loop {rec .ready none with state:= .busy}):=World.putObj_heap_same hlt;have hk2:(Wa.putObj (w.heap.size+1) (.loop {rec .ready none with state:= .busy})).heap[w.heap.size]? =some (.deferred (some [])):=(World.putObj_heap_other xo).trans hk;have hw2:Kp Wa (Wa.putObj (w.heap.size+1) (.loop {rec .ready none with state:= .busy})):=hKb _ _ _ _ xo hl rfl;have hi2:Calm w.heap.size Wa (Wa.putObj (w.heap.size+1) (.loop {rec .ready none with state:= .busy})):=Calm.putObj _ xo hl rfl;refine wpIn_mono (hbody _ hi2) ?_;have fin:∀(jump:Option Code) (W3:World),KeepsOthers (Wa.putObj (w.heap.size+1) (.loop {rec .ready none with state:= .busy})) W3→
          (Instr.endRound (w.heap.size+1) jump).run P W3= .ok (.bool jump.isNone) (W3.putObj (w.heap.size+1) (.loop (rec (if jump.isNone then .ready else .done) jump)))∧
          W3.heap[w.heap.size+1]? =some (.loop {rec .ready none with state:= .busy})∧
          (W3.putObj (w.heap.size+1) (.loop (rec (if jump.isNone then .ready else .done) jump))).heap[w.heap.size+1]? =some (.loop (rec (if jump.isNone then .ready else .done) jump))∧
          (W3.putObj (w.heap.size+1) (.loop (rec (if jump.isNone then .ready else .done) jump))).heap[w.heap.size]? =some (.deferred (some [])):=fun jump W3 hk3=>by
       have hl3:=hk3.same _ _ hl2 rfl;have:=run_endRound (P:=P) jump hl3;rw [hrec] at this ⊢;exact ⟨this,by rw [hrec] at hl3;exact hl3,World.putObj_heap_same (Array.getElem?_eq_some_iff.1 hl3).1,(World.putObj_heap_other xo).trans (hk3.same _ _ hk2 rfl)⟩
      rintro e a3 W3 hp;cases e with
      | normal=>
       obtain ⟨hk3,hkp3,hi3⟩:=hp;obtain ⟨hr,hl3,hl4,hk4⟩:=fin none W3 hk3;exact ⟨_,_,hr,.inl ⟨rfl,⟨hI _ _ _ hi3 (Calm.putObj _ xo hl3 rfl),hl4,hk4⟩,hKt (hKt (hKt hkpa hw2) hkp3) (hKb _ _ _ _ xo hl3 rfl)⟩⟩
      | ret=>
       obtain ⟨hk3,hi3⟩:=hp;obtain ⟨hr,hl3,hl4,hk4⟩:=fin (some .ret) W3 hk3;exact ⟨_,_,hr,.inr ⟨rfl,.ret,hIx _ _ _ hi3 (Calm.putObj _ xo hl3 rfl),hl4,hk4⟩⟩
      | exit id=>
       obtain ⟨hk3,hi3⟩:=hp;obtain ⟨hr,hl3,hl4,hk4⟩:=fin (some (.exit id)) W3 hk3;exact ⟨_,_,hr,.inr ⟨rfl,.exit id,hIx _ _ _ hi3 (Calm.putObj _ xo hl3 rfl),hl4,hk4⟩⟩
      | goto t=>
       obtain ⟨hk3,hi3⟩:=hp;obtain ⟨hr,hl3,hl4,hk4⟩:=fin (some (.goto t)) W3 hk3;exact ⟨_,_,hr,.inr ⟨rfl,.goto t,hIx _ _ _ hi3 (Calm.putObj _ xo hl3 rfl),hl4,hk4⟩⟩
      | panic ch=>exact hp.elim
      | outgrown=>exact hp.elim
     | ret=>exact hq.elim
     | exit id=>exact hq.elim
     | goto t=>exact hq.elim
     | panic ch=>exact hq.elim
     | outgrown=>exact hq.elim
   · -- behind the iterator
     rintro e W2 ⟨⟨v,rfl⟩,(⟨hi,hl,hk⟩ | ⟨k,_,c,hi,hl,hk⟩)⟩
     · exact (hno _ hi).elim
     · exact ⟨some c,_,by have:=run_endLoop (P:=P) hl (by rw [hrec];simp);rw [hrec] at this;exact this,wpIn_wide.2 (hstop _ c _ (Nat.le_refl _) (hIx _ _ _ hi (Calm.putObj _ xo hl rfl)) ((World.putObj_heap_other xo).trans hk))⟩
end
end Go.Proofs.YtmnlagmmbfjbeaaDoor

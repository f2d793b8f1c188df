/- Merged: SlFill, FillPl, Share, GetPl, Ref08. -/
import Derived.Test.YtmnlagmmbfjbeaaDoorPmaNamesP17
import Derived.Laws.BitsAllLaws
import Derived.Test.YtmnlagmmbfjbeaaDoorPmaNamesP3
import Derived.Test.YtmnlagmmbfjbeaaDoorPmaNamesP14
import Derived.Test.YtmnlagmmbfjbeaaDoorPmaNamesP15
import Derived.Deep.CutRange
namespace Go.Proofs.YtmnlagmmbfjbeaaDoor
set_option maxRecDepth 100000
set_option maxHeartbeats 40000000
set_option linter.unusedVariables false
set_option linter.unusedSimpArgs false
section
open Go.RowKit
def tks (c:SlC) (lo:Nat):Nat→SlC
  | 0=>c
  | j+1=>tkC (tks c lo j) (lo+j)
def lys (c:SlC) (ps:List Nat) (L:List (Int×Int)):Nat→SlC
  | 0=>c
  | k+1=>lyC (lys c ps L k) (ps.getD k 0) (L.getD k (0,0)).1 (L.getD k (0,0)).2
theorem tks_seg (c:SlC) (lo:Nat):∀j,(tks c lo j).seg=c.seg
  | 0=>rfl
  | j+1=>by rw [tks,tkC];exact tks_seg c lo j
theorem lys_seg (c:SlC) (ps:List Nat) (L:List (Int×Int)):∀k,(lys c ps L k).seg=c.seg
  | 0=>rfl
  | k+1=>by rw [lys,lyC];exact lys_seg c ps L k
def pvF (ps:List Nat) (lo:Nat) (k:Nat):Int:=if k=0 then (lo:Int)-1 else (ps.getD (k-1) 0:Nat)
theorem kept_below {B g1 g2 g3 g4:Nat} {w0 w W:World} (hb:Below B w0 w) (k:KeptA g1 g2 g3 g4 w W) (hB:B≤w.heap.size) (h1:B≤g1) (h2:B≤g2) (h3:B≤g3) (h4:B≤g4):Below B w0 W:=
  ⟨k.os.trans hb.os,k.tape.trans hb.tape,k.output.trans hb.output,Nat.le_trans hb.size k.size,fun q hq=>(k.block q xo xo xo xo xo).trans (hb.block q hq)⟩
theorem kept5_below {B b g1 g2 g3 g4:Nat} {w0 w W:World} (hb:Below B w0 w) (k:Kept5 b g1 g2 g3 g4 w W) (hB:B≤w.heap.size) (h0:B≤b) (h1:B≤g1) (h2:B≤g2) (h3:B≤g3) (h4:B≤g4):Below B w0 W:=
  ⟨k.os.trans hb.os,k.tape.trans hb.tape,k.output.trans hb.output,Nat.le_trans hb.size k.size,fun q hq=>(k.block q xo xo xo xo xo xo).trans (hb.block q hq)⟩
theorem owns_at {w:World} {B:Nat} {e:TypeId} {v:Value} {n:Nat} {xs:List Value} (h:w.ownsRow B e 1 v n xs) (hn:0<n):∃g k,v= .slice (some ⟨g,0,none⟩) n k∧B≤g∧g<w.heap.size:=by
 obtain ⟨h1,⟨rfl,h2⟩ | ⟨g,cap,cur,rfl,hg,hh,_⟩⟩:=h
 · omega
 · exact ⟨g,cap,rfl,hg,(Array.getElem?_eq_some_iff.1 hh).1⟩
theorem slFill_core (w:World) (seg:Int) (wa ka va ca:Option Addr) (wc kc vc cc lw n lc:Nat) (laid:Int) (c:SlC) (lo hi m S:Nat) (ps:List Nat) (L:List (Int×Int)) (pa la:Option Addr) (pc pl:Nat)
    (hseg:c.seg=seg) (hlaid:c.laid=laid) (hlw:c.ws.length=lw) (hlk:c.ks.length=n) (hlv:c.vs.length=n) (hlc:c.cs.length=lc) (h1:0<lw) (h2:0<n) (h3:0<lc) (hn:n≤65536) (hlw2:lw≤65536) (hlc2:lc≤65536) (hS:seg=S) (hS4:4≤S) (hlo:lo≤hi) (hhi:hi≤n) (hwn:n≤64*lw) (hcn:n=S*lc)
    (hps:ps.length=m) (hL:L.length=m) (hm:m≤65536) (hpv:∀k,k<m→pvF ps lo k<(ps.getD k 0:Nat)∧ps.getD k 0<hi) (hokt:∀j,j<hi-lo→okC (tks c lo j)=true) (hokl:∀k,k<m→okC (lys (tks c lo (hi-lo)) ps L k)=true)
    (HP:Hid (IsRow .i64 w pa (ints ps))) (HL:Hid (IsRow .i64 w la (prI L)))
    (PT:Hid (∀W,Below w.heap.size w W→Calls Tryd.prog 68 #[.agg #[.int .i64 seg,.slice wa lw wc,.slice ka n kc,.slice va n vc,.slice ca lc cc,.int .u64 laid],.int .i64 lo,.int .i64 hi] W (AnsB W (.int .i64 0))))
    (TW:Hid (∀W,Below w.heap.size w W→Calls Tryd.prog 29 #[.agg #[.int .i64 seg,.slice wa lw wc,.slice ka n kc,.slice va n vc,.slice ca lc cc,.int .u64 laid]] W (FreshSlN W c))):
    Calls Tryd.prog 89 #[.agg #[.int .i64 seg,.slice wa lw wc,.slice ka n kc,.slice va n vc,.slice ca lc cc,.int .u64 laid],.int .i64 lo,.int .i64 hi,.slice pa m pc,.slice la m pl] w (FreshSl2 w (lys (tks c lo (hi-lo)) ps L m) (.int .i64 0)):=by
 have HPV:=hid hpv;have HOT:=hid hokt;have HOL:=hid hokl;have HPS:=hid hps;have HLL:=hid hL;have HC:=hid (And.intro hseg (And.intro hlaid (And.intro hlw (And.intro hlk (And.intro hlv hlc)))));have HSS:=hid hS;have HCN:=hid hcn;have gm:((m:Int) != (m:Int))=false:=by simp
 have hwl:IntKind.i64.wrap ((lo:Int)-1)=(lo:Int)-1:=IntWalk.i64_in _ xo;clear hpv hokt hokl hps hL hseg hlaid hlw hlk hlv hlc hS hcn;go_enter Tryd.func89,Tryd.ntmps89
 go_wp2_with fail
 refine (PT.out _ ((br.alloc (Nat.le_refl _) _).alloc xsi _)).mono ?_;rintro e w1 ⟨rfl,hb1⟩;have hz_w1:=hb1.size;try simp only [World.size_alloc,World.size_setCell] at hz_w1
 have hh:=bc6 hb1 (au6 (al6 (b:=w.heap.size) xsi));obtain ⟨c_t0,c_t1,c_t2,c_t3,c_t4,c_t5⟩:=hh;have z_t:=blt hb1 (auz (alz (b:=w.heap.size) xsi));have hh:=bc6 hb1 (al6 (b:=w.heap.size+1) xsi);obtain ⟨c_r0,c_r1,c_r2,c_r3,c_r4,c_r5⟩:=hh;have hh:=bf6 hb1 (alz (b:=w.heap.size+1) xsi) (alf6 (b:=w.heap.size+1) xsi);obtain ⟨f_r0,f_r1,f_r2,f_r3,f_r4,f_r5⟩:=hh;have z_r:=blt hb1 (alz (b:=w.heap.size+1) xsi);have hB1:Below w.heap.size w w1:=xbel;have HB1:=hid hB1;have hz1:w.heap.size+2≤w1.heap.size:=xo;clear hb1 hB1;go_wp2
 go_loopg [13,38] m (fun gk v iv wr=>∃k:Nat,k+gk=m∧iv= .int .i64 k∧v= .int .i64 (pvF ps lo k)∧w1=wr)
 case atStart=>exact ⟨0,by omega,rfl,by simp [pvF],rfl⟩
 case round=>
  obtain ⟨k,hk,rfl,rfl,rfl⟩:=hrel;by_cases hlt:k<m
  · obtain ⟨bl,ol,x',rfl,hx',cl,zl⟩:=(HP.out.below HB1.out).get (i:=k) (by rw [ints_length,HPS.out];exact hlt);obtain ⟨x,hx⟩:∃x,ps.getD k 0=x:=⟨_,rfl⟩
    have hxx:x'=(x:Int):=by rw [←hx'.out,getD_ints,hx]
    subst hxx;have hpv:=HPV.out k hlt;rw [hx] at hpv;have HX:=hid hx;obtain ⟨pv,hpvv⟩:∃pv,pvF ps lo k=pv:=⟨_,rfl⟩
    rw [hpvv] at hpv ⊢;have g1:decide ((x:Int)≤pv)=false:=by simp;omega
    have g2:decide ((x:Int)≥hi)=false:=by simp;omega
    have HK:=hid hk;clear hx hx' hpvv hk;go_wp2
    go_roundg (gk-1)
    case measure=>have:=HK.out;omega
    case rel=>exact ⟨k+1,by have:=HK.out;omega,by go_num,by rw [pvF,if_neg xo,Nat.add_sub_cancel,HX.out],rfl⟩
  · have hkm:m=k:=xo;subst hkm;go_wp2_with fail
    refine (TW.out w1 HB1.out).mono ?_;rintro e w2 ⟨v1,v2,v3,v4,rfl,o1,o2,o3,o4,hb2,hne⟩;obtain ⟨eseg,elaid,elw,elk,elv,elc⟩:=HC.out;rw [elw] at o1;rw [elk] at o2;rw [elv] at o3;rw [elc] at o4;rw [eseg,elaid];obtain ⟨g1,k1,rfl,hg1,hg1'⟩:=owns_at o1 h1;obtain ⟨g2,k2,rfl,hg2,hg2'⟩:=owns_at o2 h2;obtain ⟨g3,k3,rfl,hg3,hg3'⟩:=owns_at o3 h2;obtain ⟨g4,k4,rfl,hg4,hg4'⟩:=owns_at o4 h3;have n23:g2≠g3:=hne g2 g3 rfl rfl;have apart:∀ {e e':TypeId} {g g' n n' k k':Nat} {xs xs':List Value},w2.ownsRow w1.heap.size e 1 (.slice (some ⟨g,0,none⟩) n k) n xs→w2.ownsRow w1.heap.size e' 1 (.slice (some ⟨g',0,none⟩) n' k') n' xs'→e≠e'→g≠g':=by
     intro e e' g g' n n' k k' xs xs' ha hb hc;rcases owns_apart ha hb hc with h|h
     · cases h
     · intro hgg;exact h (by subst hgg;rfl)
    have n12:=apart o1 o2 xdd;have n13:=apart o1 o3 xdd;have n14:=apart o1 o4 xdd;have n24:=apart o2 o4 xdd;have n34:=apart o3 o4 xdd;clear apart hne;have hz_w2:=hb2.size;have HBW:Hid (Below w1.heap.size w1 w2):=hid hb2;have HO:=hid (And.intro o1 (And.intro o2 (And.intro o3 o4)));clear o1 o2 o3 o4 hb2;go_wp2
    have hb3:Below w2.heap.size w2 (w2.alloc (.cells #[.int .i64 seg,.slice (some ⟨g1,0,none⟩) lw k1,.slice (some ⟨g2,0,none⟩) n k2,.slice (some ⟨g3,0,none⟩) n k3,.slice (some ⟨g4,0,none⟩) lc k4,.int .u64 laid] 69)):=br.alloc (Nat.le_refl _) _;have hA:ArrC w1.heap.size (w2.alloc (.cells #[.int .i64 seg,.slice (some ⟨g1,0,none⟩) lw k1,.slice (some ⟨g2,0,none⟩) n k2,.slice (some ⟨g3,0,none⟩) n k3,.slice (some ⟨g4,0,none⟩) lc k4,.int .u64 laid] 69)) w2.heap.size g1 g2 g3 g4 k1 k2 k3 k4 lw n lc c:=by
     unfold ArrC;rw [eseg,elaid];exact ⟨by (exact xcw),by (exact xcw),by (exact xcw),by (exact xcw),by (exact xcw),by (exact xcw),by (exact xcw),owns_below HO.out.1 hb3,owns_below HO.out.2.1 hb3,owns_below HO.out.2.2.1 hb3,owns_below HO.out.2.2.2 hb3⟩
    have HA:=hid hA;have hzz:(w2.alloc (.cells #[.int .i64 seg,.slice (some ⟨g1,0,none⟩) lw k1,.slice (some ⟨g2,0,none⟩) n k2,.slice (some ⟨g3,0,none⟩) n k3,.slice (some ⟨g4,0,none⟩) lc k4,.int .u64 laid] 69)).heap.size=w2.heap.size+1:=by simp
    have HB3:Hid (Below w1.heap.size w1 (w2.alloc (.cells #[.int .i64 seg,.slice (some ⟨g1,0,none⟩) lw k1,.slice (some ⟨g2,0,none⟩) n k2,.slice (some ⟨g3,0,none⟩) n k3,.slice (some ⟨g4,0,none⟩) lc k4,.int .u64 laid] 69))):=hid (HBW.out.trans (hb3.mono HBW.out.size));generalize w2.alloc (.cells #[.int .i64 seg,.slice (some ⟨g1,0,none⟩) lw k1,.slice (some ⟨g2,0,none⟩) n k2,.slice (some ⟨g3,0,none⟩) n k3,.slice (some ⟨g4,0,none⟩) lc k4,.int .u64 laid] 69)=w3 at *;have HNE:Hid (ArrNe w2.heap.size g1 g2 g3 g4):=hid ⟨by omega,by omega,by omega,by omega,n12,n13,n14,n23,n24,n34⟩;have hbb:w1.heap.size≤w2.heap.size:=HBW.out.size;have HEQ:=hid (And.intro eseg elaid);clear hA hb3 HO n12 n13 n14 n23 n24 n34 eseg elaid elw elk elv elc HBW;go_loopg [17] (hi-lo) (fun gk iv wr=>∃j:Nat,j+gk=hi-lo∧iv= .int .i64 ((lo:Int)+j)∧Hid (ArrC w1.heap.size wr w2.heap.size g1 g2 g3 g4 k1 k2 k3 k4 lw n lc (tks c lo j))∧Hid (Below w1.heap.size w1 wr)∧w2.heap.size<wr.heap.size)
    case atStart=>exact ⟨0,by omega,by simp,HA,HB3,by omega⟩
    case round=>
     obtain ⟨j,hj,rfl,HAj,HBj,hzj⟩:=hrel;by_cases hjt:lo+j<hi
     · have g5:decide ((lo:Int)+j<hi)=true:=by simp;omega
       have TK:=take_ok wr w1.heap.size w2.heap.size g1 g2 g3 g4 k1 k2 k3 k4 lw n lc (lo+j) S (tks c lo j) HAj.out HNE.out (HOT.out j xo) xo hn xo hlw2 (by rw [tks_seg,HEQ.out.1];exact HSS.out) hS4 (by have:=HCN.out;exact Nat.div_lt_of_lt_mul xo) hlc2;rw [show ((lo+j:Nat):Int)=(lo:Int)+j by omega] at TK;have TKH:=hid TK;have HJ:=hid hj;clear TK hj;go_wp2_with fail
       refine TKH.out.mono ?_;rintro e w5 ⟨rfl,hA5,hk5⟩;have hB5:=kept_below HBj.out hk5 xo hg1 hg2 hg3 hg4;have hz5:=hk5.size;have HA5:=hid hA5;have HB5:=hid hB5;clear hA5 hk5 hB5;go_wp2
       go_roundg (gk-1)
       case measure=>have:=HJ.out;omega
       case rel=>exact ⟨j+1,by have:=HJ.out;omega,congrArg _ xo,HA5,HB5,by omega⟩
     · have g5:decide ((lo:Int)+j<hi)=false:=by simp;omega
       obtain rfl:j=hi-lo:=xo;go_wp2
       generalize hi-lo=dl at *;go_loopg [68] m (fun gk iv wr=>∃k:Nat,k+gk=m∧iv= .int .i64 k∧Hid (ArrC w1.heap.size wr w2.heap.size g1 g2 g3 g4 k1 k2 k3 k4 lw n lc (lys (tks c lo dl) ps L k))∧Hid (Below w1.heap.size w1 wr)∧w2.heap.size<wr.heap.size)
       case atStart=>exact ⟨0,by omega,rfl,HAj,HBj,hzj⟩
       case round=>
        obtain ⟨k,hk,rfl,HAk,HBk,hzk⟩:=hrel;have hBk:Below w.heap.size w wr:=below_via HBk.out HB1.out xo;by_cases hkt:k<m
        · obtain ⟨bp,op,x',rfl,hx',cl,zl⟩:=(HP.out.below hBk).get (i:=k) (by rw [ints_length,HPS.out];exact hkt);obtain ⟨bl,ol,rfl,q0,q1,zq⟩:=pr_get (HL.out.below hBk) (i:=k) (by rw [HLL.out];exact hkt);obtain ⟨x,hx⟩:∃x,ps.getD k 0=x:=⟨_,rfl⟩
          have hxx:x'=(x:Int):=by rw [←hx'.out,getD_ints,hx]
          subst hxx;have hpv:=(HPV.out k hkt).2;have LY:=lay_ok wr w1.heap.size w2.heap.size g1 g2 g3 g4 k1 k2 k3 k4 lw n lc x S (lys (tks c lo dl) ps L k) (L.getD k (0,0)).1 (L.getD k (0,0)).2 HAk.out HNE.out (HOL.out k hkt) xo hn xo hlw2 (by rw [lys_seg,tks_seg,HEQ.out.1];exact HSS.out) hS4 (by have:=HCN.out;exact Nat.div_lt_of_lt_mul xo) hlc2;have LYH:Hid (Calls Tryd.prog 32 #[.pointer (some ⟨w2.heap.size,0,none⟩),.int .i64 x,.agg #[.int .i64 (L.getD k (0,0)).1,.int .i64 (L.getD k (0,0)).2]] wr fun e W=>e= .returned (.tuple #[])∧ArrC w1.heap.size W w2.heap.size g1 g2 g3 g4 k1 k2 k3 k4 lw n lc (lys (tks c lo dl) ps L (k+1))∧Kept5 w2.heap.size g1 g2 g3 g4 wr W):=hid (by rw [lys,hx];exact LY);have HK:=hid hk;generalize (L.getD k (0,0)).1=kx at *;generalize (L.getD k (0,0)).2=vx at *;clear LY hk hx hx';go_wp2_with fail
          refine LYH.out.mono ?_;rintro e w5 ⟨rfl,hA5,hk5⟩;have hB5:=kept5_below HBk.out hk5 xo xo hg1 hg2 hg3 hg4;have hz5:=hk5.size;have HA5:=hid hA5;have HB5:=hid hB5;clear hA5 hk5 hB5;go_wp2
          go_roundg (gk-1)
          case measure=>have:=HK.out;omega
          case rel=>exact ⟨k+1,by have:=HK.out;omega,by go_num,HA5,HB5,by omega⟩
        · have hkm:m=k:=xo;subst hkm;have hAe:=HAk.out;unfold ArrC at hAe;obtain ⟨e0,e1,e2,e3,e4,e5,-,p1,p2,p3,p4⟩:=hAe;have l1:=own_len p1;have l2:=own_len p2;have l3:=own_len p3;have l4:=own_len p4;generalize lys (tks c lo dl) ps L m=d at *;have hz_wr:=HBk.out.size;simp (disch:=omega) only [xcl HBk.out,xfr HBk.out] at c_t0 c_t1 c_t2 c_t3 c_t4 c_t5 c_r0 c_r1 c_r2 c_r3 c_r4 c_r5 f_r0 f_r1 f_r2 f_r3 f_r4 f_r5;replace z_t:=blt HBk.out z_t;replace z_r:=blt HBk.out z_r;have HP1:=hid p1;have HP2:=hid p2;have HP3:=hid p3;have HP4:=hid p4;clear p1 p2 p3 p4 HAk;go_wp2
          have HQ:Hid (∀q,w.heap.size+2≤q→((((((wr.setCell ⟨w.heap.size+1,0,none⟩ (.int .i64 d.seg)).setCell ⟨w.heap.size+1,1,none⟩ (.slice (some ⟨g1,0,none⟩) lw k1)).setCell ⟨w.heap.size+1,2,none⟩ (.slice (some ⟨g2,0,none⟩) n k2)).setCell ⟨w.heap.size+1,3,none⟩ (.slice (some ⟨g3,0,none⟩) n k3)).setCell ⟨w.heap.size+1,4,none⟩ (.slice (some ⟨g4,0,none⟩) lc k4)).setCell ⟨w.heap.size+1,5,none⟩ (.int .u64 d.laid)).heap[q]? =wr.heap[q]?):=hid fun q hq=>by
           rw [heap_setCell_ne _ _ _ xdo,heap_setCell_ne _ _ _ xdo,heap_setCell_ne _ _ _ xdo,heap_setCell_ne _ _ _ xdo,heap_setCell_ne _ _ _ xdo,heap_setCell_ne _ _ _ xdo]
          refine bodyPost_ret (results_ct rfl rfl (run_loadVar_many _ Tryd.underlying29 rfl xk (six_set c_r0 c_r1 c_r2 c_r3 c_r4 c_r5))) rfl ⟨_,_,_,_,rfl,?_,?_,?_,?_,?_⟩
          · rw [l1];exact owns_base (owns_heap HP1.out fun j hj=>HQ.out j (by have:=(HP1.out.lt j hj).1;omega)) xo
          · rw [l2];exact owns_base (owns_heap HP2.out fun j hj=>HQ.out j (by have:=(HP2.out.lt j hj).1;omega)) xo
          · rw [l3];exact owns_base (owns_heap HP3.out fun j hj=>HQ.out j (by have:=(HP3.out.lt j hj).1;omega)) xo
          · rw [l4];exact owns_base (owns_heap HP4.out fun j hj=>HQ.out j (by have:=(HP4.out.lt j hj).1;omega)) xo
          · exact (((((hBk.setCell xdo _).setCell xdo _).setCell xdo _).setCell xdo _).setCell xdo _).setCell xdo _
end
section
open Go Go.RowKit
theorem wrap_two {r:Nat} (hr:r<64):IntKind.u64.wrap (2^r)=((2^r:Nat):Int):=by
 have h:2^r<2^64:=Nat.pow_lt_pow_right xo hr;have e:(2:Int)^r=((2^r:Nat):Int):=by push_cast;rfl
 rw [e,IntKind.wrap_u64,Int.emod_eq_of_lt (Int.natCast_nonneg _) xo]
theorem clrX_nat {x r:Nat} (hx:x<18446744073709551616) (hr:r<64):clrX (x:Int) r=((x &&& (2^64-(2^r+1)):Nat):Int):=by
 have h:2^r<2^64:=Nat.pow_lt_pow_right xo hr;rw [clrX,wrap_two hr,u64_andNot_nat _ _ hx xo,show 18446744073709551615-2^r=2^64-(2^r+1) by omega]
theorem setX_nat {x r:Nat} (hx:x<18446744073709551616) (hr:r<64):setX (x:Int) r=((x ||| 2^r:Nat):Int):=by
 have h:2^r<2^64:=Nat.pow_lt_pow_right xo hr;rw [setX,wrap_two hr,u64_or_nat _ _ hx xo]
theorem bitI_clr {x:Int} {r:Nat} (h0:0≤x) (h1:x<18446744073709551616) (hr:r<64) (k:Nat):bitI (clrX x r) k=(bitI x k&&decide (k≠r)):=by
 obtain ⟨n,rfl⟩:=Int.eq_ofNat_of_zero_le h0;have h:2^r<2^64:=Nat.pow_lt_pow_right xo hr;rw [clrX_nat xo hr,bitI_nat,bitI_nat,Nat.testBit_and,Nat.testBit_two_pow_sub_succ h,Nat.testBit_two_pow];by_cases hk:k<64
 · by_cases hkr:r=k
   · subst hkr;simp
   · have:k≠r:=fun e=>hkr e.symm
     simp [hk,hkr,this]
 · have:n.testBit k=false:=by
     have:=bitI_high (x:=(n:Int)) h1 (k:=k) xo;rwa [bitI_nat] at this
   simp [this]
theorem bitI_set {x:Int} {r:Nat} (h0:0≤x) (h1:x<18446744073709551616) (hr:r<64) (k:Nat):bitI (setX x r) k=(bitI x k||decide (k=r)):=by
 obtain ⟨n,rfl⟩:=Int.eq_ofNat_of_zero_le h0;rw [setX_nat xo hr,bitI_nat,bitI_nat,Nat.testBit_or,Nat.testBit_two_pow];by_cases hkr:r=k
 · subst hkr;simp
 · have:k≠r:=fun e=>hkr e.symm
   simp [hkr,this]
theorem clrX_bd {x:Int} {r:Nat} (h0:0≤x) (h1:x<18446744073709551616) (hr:r<64):0≤clrX x r∧clrX x r<18446744073709551616:=by
 obtain ⟨n,rfl⟩:=Int.eq_ofNat_of_zero_le h0;rw [clrX_nat xo hr];have:=Nat.and_le_left (n:=n) (m:=2^64-(2^r+1));omega
theorem setX_bd {x:Int} {r:Nat} (h0:0≤x) (h1:x<18446744073709551616) (hr:r<64):0≤setX x r∧setX x r<18446744073709551616:=by
 obtain ⟨n,rfl⟩:=Int.eq_ofNat_of_zero_le h0;rw [setX_nat xo hr];have h:2^r<2^64:=Nat.pow_lt_pow_right xo hr;have:=Nat.or_lt_two_pow (x:=n) (y:=2^r) (n:=64) xo h;omega
theorem getD_set_at (l:List Int) (i j:Nat) (v:Int):(l.set i v).getD j 0=if i=j∧i<l.length then v else l.getD j 0:=by
 rw [List.getD_eq_getElem?_getD,List.getD_eq_getElem?_getD,List.getElem?_set];by_cases h:i=j
 · subst h;by_cases h2:i<l.length
   · simp [h2]
   · simp [h2]
 · simp [h]
theorem bitW_clr {ws:List Int} (hu:U64s ws) {i:Nat} (hi:i/64<ws.length) (j:Nat):bitW (clrL ws i) j=(bitW ws j&&decide (j≠i)):=by
 have hg:=hu.get (i/64);rw [bitW,clrL,getD_set_at];by_cases h:i/64=j/64
 · rw [if_pos ⟨h,hi⟩,bitI_clr hg.1 hg.2 (Nat.mod_lt _ xo),h,bitW];congr 1
   rw [decide_eq_decide];omega
 · rw [if_neg (fun q=>h q.1),bitW];have:j≠i:=fun e=>h (by rw [e])
   simp [this]
theorem bitW_set {ws:List Int} (hu:U64s ws) {i:Nat} (hi:i/64<ws.length) (j:Nat):bitW (setL ws i) j=(bitW ws j||decide (j=i)):=by
 have hg:=hu.get (i/64);rw [bitW,setL,getD_set_at];by_cases h:i/64=j/64
 · rw [if_pos ⟨h,hi⟩,bitI_set hg.1 hg.2 (Nat.mod_lt _ xo),h,bitW];congr 1
   rw [decide_eq_decide];omega
 · rw [if_neg (fun q=>h q.1),bitW];have:j≠i:=fun e=>h (by rw [e])
   simp [this]
theorem U64s_clr {ws:List Int} (hu:U64s ws) (i:Nat):U64s (clrL ws i):=by
 intro x hx;rcases List.mem_or_eq_of_mem_set hx with h|rfl
 · exact hu x h
 · have hg:=hu.get (i/64);exact clrX_bd hg.1 hg.2 (Nat.mod_lt _ xo)
theorem U64s_set {ws:List Int} (hu:U64s ws) (i:Nat):U64s (setL ws i):=by
 intro x hx;rcases List.mem_or_eq_of_mem_set hx with h|rfl
 · exact hu x h
 · have hg:=hu.get (i/64);exact setX_bd hg.1 hg.2 (Nat.mod_lt _ xo)
theorem set_getD_self (l:List Int) (i:Nat):l.set i (l.getD i 0)=l:=by
 apply List.ext_getElem? fun j=> ?_
 rw [List.getElem?_set];by_cases h:i=j
 · subst h;rw [if_pos rfl];by_cases h2:i<l.length
   · simp [h2,List.getD_eq_getElem?_getD]
   · rw [if_neg h2,List.getElem?_eq_none xo]
 · rw [if_neg h]
theorem clrL_same {ws:List Int} (hu:U64s ws) {i:Nat} (hb:bitW ws i=false):clrL ws i=ws:=by
 have hg:=hu.get (i/64);have hr:i%64<64:=Nat.mod_lt _ xo;have hc:=clrX_bd hg.1 hg.2 hr;rw [clrL];have:clrX (ws.getD (i/64) 0) (i%64)=ws.getD (i/64) 0:=by
  apply int_eq_of_bits hc.1 hg.1;intro k;rw [bitI_clr hg.1 hg.2 hr];by_cases hk:k=i%64
  · subst hk;rw [bitW] at hb;rw [hb];rfl
  · simp [hk]
 rw [this,set_getD_self]
theorem countP_flip {p q:Nat→Bool} {i:Nat} (hp:p i=true) (hq:q i=false) (he:∀j,j≠i→q j=p j):∀(d a:Nat),(List.range' a d).countP p=(List.range' a d).countP q+if a≤i∧i<a+d then 1 else 0:=by
 intro d;induction d with
 | zero=>intro a;simp
 | succ d ih=>
  intro a;rw [List.range'_succ,List.countP_cons,List.countP_cons,ih (a+1)];by_cases h:a=i
  · subst h;have e1:¬(a+1≤a∧a<a+1+d):=xo;have e2:a≤a∧a<a+(d+1):=xo;rw [hp,hq,if_neg e1,if_pos e2];simp
  · rw [he a h];by_cases h2:a+1≤i∧i<a+1+d
    · have e2:a≤i∧i<a+(d+1):=xo;rw [if_pos h2,if_pos e2];omega
    · have e2:¬(a≤i∧i<a+(d+1)):=xo;rw [if_neg h2,if_neg e2];omega
theorem cntW_clr {ws:List Int} (hu:U64s ws) {i:Nat} (hi:i/64<ws.length) (hb:bitW ws i=true) (a b:Nat):cntW ws a b=cntW (clrL ws i) a b+if a≤i∧i<b then 1 else 0:=by
 rw [cntW,cntW,countP_flip (p:=bitW ws) (q:=bitW (clrL ws i)) hb (by rw [bitW_clr hu hi];simp) (fun j hj=>by rw [bitW_clr hu hi];simp [hj])];congr 1
 by_cases h:a≤i∧i<b
 · rw [if_pos xo,if_pos h]
 · rw [if_neg xo,if_neg h]
theorem cntW_set {ws:List Int} (hu:U64s ws) {i:Nat} (hi:i/64<ws.length) (hb:bitW ws i=false) (a b:Nat):cntW (setL ws i) a b=cntW ws a b+if a≤i∧i<b then 1 else 0:=by
 rw [cntW,cntW,countP_flip (p:=bitW (setL ws i)) (q:=bitW ws) (by rw [bitW_set hu hi];simp) hb (fun j hj=>by rw [bitW_set hu hi];simp [hj])];congr 1
 by_cases h:a≤i∧i<b
 · rw [if_pos xo,if_pos h]
 · rw [if_neg xo,if_neg h]
structure SlGd (c:SlC) (S lw n lc:Nat):Prop where
 seg:c.seg=S
 elw:c.ws.length=lw
 elk:c.ks.length=n
 elv:c.vs.length=n
 elc:c.cs.length=lc
 s4:4≤S
 s64:S≤64
 cn:n=S*lc
 wn:n≤64*lw
 n1:1≤n
 nm:n≤65536
 u:U64s c.ws
 cnt:∀k,k<lc→c.cs.getD k 0=(cntW c.ws (k*S) ((k+1)*S):Int)
 hi:∀i,n≤i→bitW c.ws i=false
 clr:∀i,bitW c.ws i=false→c.ks.getD i 0=0∧c.vs.getD i 0=0
theorem SlGd.ok {c:SlC} {S lw n lc:Nat} (h:SlGd c S lw n lc):okC c=true:=by
 simp only [okC,Bool.and_eq_true,List.all_eq_true,decide_eq_true_eq];refine ⟨fun x hx=>h.u x hx,fun x hx=> ?_⟩;obtain ⟨k,hk,rfl⟩:=List.mem_iff_getElem.1 hx;have:=h.cnt k (by rw [←h.elc];exact hk);rw [List.getD_eq_getElem?_getD,List.getElem?_eq_getElem hk,Option.getD_some] at this;have h2:=cntW_le c.ws (k*S) ((k+1)*S);rw [show (k+1)*S-k*S=S by rw [Nat.succ_mul];omega] at h2;have:=h.s64;omega
theorem seg_in {S i k:Nat} (hS:4≤S):(k*S≤i∧i<(k+1)*S)↔i/S=k:=by
 constructor
 · rintro ⟨h1,h2⟩;apply Nat.le_antisymm
   · exact Nat.le_of_lt_succ ((Nat.div_lt_iff_lt_mul xo).2 h2)
   · exact (Nat.le_div_iff_mul_le xo).2 h1
 · rintro rfl;exact ⟨Nat.div_mul_le_self _ _,by rw [Nat.succ_mul];have e:=Nat.div_add_mod i S;have:=Nat.mod_lt i (show 0<S by omega);rw [Nat.mul_comm] at e;omega⟩
theorem SlGd.tk {c:SlC} {S lw n lc:Nat} (h:SlGd c S lw n lc) {i:Nat} (hi:i<n):SlGd (tkC c i) S lw n lc:=by
 have hq:i/64<c.ws.length:=by rw [h.elw];have:=h.wn;omega
 have hs:i/S<lc:=(Nat.div_lt_iff_lt_mul (by have:=h.s4;omega)).2 (by rw [Nat.mul_comm,←h.cn];exact hi);have hseg:c.seg.toNat=S:=by rw [h.seg];rfl
 refine ⟨h.seg,?_,?_,?_,?_,h.s4,h.s64,h.cn,h.wn,h.n1,h.nm,U64s_clr h.u i,?_,?_,?_⟩
 · simp [tkC,clrL,h.elw]
 · simp [tkC,h.elk]
 · simp [tkC,h.elv]
 · simp only [tkC];split
   · rw [List.length_set];exact h.elc
   · exact h.elc
 · intro k hk;simp only [tkC];rw [hseg];cases hb:bitW c.ws i with
   | true=>
    have e:=cntW_clr h.u hq hb (k*S) ((k+1)*S);rw [if_pos rfl,getD_set_at,h.elc];by_cases hki:i/S=k
    · subst hki;rw [if_pos ((seg_in h.s4).2 rfl)] at e;rw [if_pos ⟨rfl,hk⟩,h.cnt _ hk,e];omega
    · rw [if_neg (fun q=>hki ((seg_in h.s4).1 q))] at e;rw [if_neg (fun q=>hki q.1),h.cnt _ hk,e];omega
   | false=>
    rw [if_neg xdd,clrL_same h.u hb,h.cnt k hk]
 · intro j hj;simp only [tkC];rw [bitW_clr h.u hq,h.hi j hj];rfl
 · intro j hj;simp only [tkC] at hj ⊢;rw [bitW_clr h.u hq] at hj;rw [getD_set_at,getD_set_at,h.elk,h.elv];by_cases hji:i=j
   · subst hji;simp [hi]
   · rw [if_neg (fun q=>hji q.1),if_neg (fun q=>hji q.1)];apply h.clr;have:j≠i:=fun e=>hji e.symm
     simpa [this] using hj
theorem tk_bit {c:SlC} {S lw n lc:Nat} (h:SlGd c S lw n lc) {i:Nat} (hi:i<n) (j:Nat):bitW (tkC c i).ws j=(bitW c.ws j&&decide (j≠i)):=
  bitW_clr h.u (by rw [h.elw];have:=h.wn;omega) j
theorem SlGd.ly {c:SlC} {S lw n lc:Nat} (h:SlGd c S lw n lc) {i:Nat} (hi:i<n) (key val:Int):SlGd (lyC c i key val) S lw n lc:=by
 have g:=h.tk hi;have hq:i/64<(tkC c i).ws.length:=by rw [g.elw];have:=h.wn;omega
 have hseg:c.seg.toNat=S:=by rw [h.seg];rfl
 have hb:bitW (tkC c i).ws i=false:=by rw [tk_bit h hi];simp
 have hs:i/S<lc:=(Nat.div_lt_iff_lt_mul (by have:=h.s4;omega)).2 (by rw [Nat.mul_comm,←h.cn];exact hi);refine ⟨h.seg,?_,?_,?_,?_,h.s4,h.s64,h.cn,h.wn,h.n1,h.nm,U64s_set g.u i,?_,?_,?_⟩
 · simp only [lyC,setL,List.length_set];exact g.elw
 · simp only [lyC,List.length_set];exact g.elk
 · simp only [lyC,List.length_set];exact g.elv
 · simp only [lyC,List.length_set];exact g.elc
 · intro k hk;simp only [lyC];rw [hseg];have e:=cntW_set g.u hq hb (k*S) ((k+1)*S);rw [getD_set_at,g.elc,e];by_cases hki:i/S=k
   · subst hki;rw [if_pos ⟨rfl,hk⟩,if_pos ((seg_in h.s4).2 rfl),g.cnt _ hk];push_cast
     rfl
   · rw [if_neg (fun q=>hki q.1),if_neg (fun q=>hki ((seg_in h.s4).1 q)),g.cnt _ hk];simp
 · intro j hj;simp only [lyC];rw [bitW_set g.u hq,g.hi j hj];simp;omega
 · intro j hj;simp only [lyC] at hj ⊢;rw [bitW_set g.u hq] at hj;have hji:¬i=j:=by
    intro e;subst e;simp at hj
   rw [getD_set_at,getD_set_at,if_neg (fun q=>hji q.1),if_neg (fun q=>hji q.1)];apply g.clr;simp only [Bool.or_eq_false_iff] at hj;exact hj.1
theorem SlGd.tks {c:SlC} {S lw n lc lo:Nat} (h:SlGd c S lw n lc):∀j,lo+j≤n→SlGd (tks c lo j) S lw n lc
  | 0,_=>h
  | j+1,hj=>(SlGd.tks h j xo).tk xo
theorem SlGd.lys {c:SlC} {S lw n lc:Nat} (h:SlGd c S lw n lc) {ps:List Nat} (hp:∀k,ps.getD k 0<n) (L:List (Int×Int)):∀k,SlGd (lys c ps L k) S lw n lc
  | 0=>h
  | k+1=>(SlGd.lys h hp L k).ly (hp k) _ _
theorem slMay_gd {c:SlC} (hu:U64s c.ws) (h:slMay c=true):∃S M:Nat,SlGd c S ((S*M+63)/64) (S*M) M∧pwB (S:Int)=true∧pwB (M:Int)=true∧1≤M:=by
 have hm:=h;simp only [slMay,Bool.and_eq_true] at h;obtain ⟨⟨h5,h6⟩,h7⟩:=h;obtain ⟨S,M,e1,b1,b2,b3,b4,b5,b6,b7,b8,b9,p1,p2,b10⟩:=slHead_facts h5;have hn1:1≤S*M:=Nat.mul_pos xo b6;refine ⟨S,M,⟨e1,b9,b3,b4,b5,b1,b2,rfl,by omega,hn1,b7,hu,?_,b10,?_⟩,p1,p2,b6⟩
 · intro k hk;have:=List.all_eq_true.1 h7 k (List.mem_range.2 (by rw [b5];exact hk));rw [beq_iff_eq,e1,Int.toNat_natCast] at this;exact this
 · intro i hi;rcases Nat.lt_or_ge i c.ks.length with q|q
   · have:=List.all_eq_true.1 h6 i (List.mem_range.2 q);rw [hi,Bool.false_or,Bool.and_eq_true,beq_iff_eq,beq_iff_eq] at this;exact this
   · rw [List.getD_eq_getElem?_getD,List.getD_eq_getElem?_getD,List.getElem?_eq_none q,List.getElem?_eq_none xo];exact ⟨rfl,rfl⟩
def plF (n lo hi k:Nat):Nat:=lo+k*(hi-lo)/n
def plR (n lo hi:Nat):List Nat:=(List.range n).map (plF n lo hi)
theorem plR_length (n lo hi:Nat):(plR n lo hi).length=n:=by simp [plR]
theorem plR_get {n lo hi k:Nat} (h:k<n):(plR n lo hi).getD k 0=plF n lo hi k:=by
 rw [List.getD_eq_getElem?_getD,plR,List.getElem?_map,List.getElem?_range h];rfl
theorem plF_step {n lo hi:Nat} (k:Nat) (h0:0<n) (h:n≤hi-lo):plF n lo hi k<plF n lo hi (k+1):=by
 unfold plF;have:k*(hi-lo)/n+1≤(k+1)*(hi-lo)/n:=by
  rw [←Nat.add_div_right _ h0,Nat.succ_mul];exact Nat.div_le_div_right xo
 omega
theorem plF_lt {n lo hi k:Nat} (hk:k<n) (h:n≤hi-lo):plF n lo hi k<hi:=by
 unfold plF;have:k*(hi-lo)/n<hi-lo:=by
  rw [Nat.div_lt_iff_lt_mul xo,Nat.mul_comm];exact (Nat.mul_lt_mul_left xo).2 hk
 omega
theorem plR_pv {n lo hi k:Nat} (hk:k<n) (h:n≤hi-lo):pvF (plR n lo hi) lo k<((plR n lo hi).getD k 0:Nat)∧(plR n lo hi).getD k 0<hi:=by
 rw [plR_get hk];refine ⟨?_,plF_lt hk h⟩;unfold pvF;split
 · have:lo≤plF n lo hi k:=Nat.le_add_right _ _;omega
 · rw [plR_get xo];have:=plF_step (lo:=lo) (k-1) xo h;rw [show k-1+1=k by omega] at this;omega
theorem plR_ltn {n lo hi N:Nat} (h:n≤hi-lo) (hh:hi≤N) (hN:0<N) (k:Nat):(plR n lo hi).getD k 0<N:=by
 rcases Nat.lt_or_ge k n with q|q
 · rw [plR_get q];have:=plF_lt (lo:=lo) q h;omega
 · rw [List.getD_eq_getElem?_getD,List.getElem?_eq_none (by rw [plR_length];exact q)];exact hN
def spC (c:SlC) (lo hi:Nat) (L:List (Int×Int)):SlC:=lys (tks c lo (hi-lo)) (plR L.length lo hi) L L.length
theorem SlGd.sp {c:SlC} {S lw n lc lo hi:Nat} (h:SlGd c S lw n lc) (hlo:lo≤hi) (hh:hi≤n) {L:List (Int×Int)} (hL:L.length≤hi-lo):SlGd (spC c lo hi L) S lw n lc:=
  SlGd.lys (h.tks (hi-lo) xo) (fun k=>plR_ltn hL hh (by have:=h.n1;omega) k) L _
theorem zero_gd {S M lw:Nat} (h4:4≤S) (h6:S≤64) (hM:1≤M) (hm:S*M≤65536) (hl:lw=(S*M+63)/64):SlGd (zeroSl S (S*M) lw M) S lw (S*M) M:=by
 have z:∀m i,(List.replicate m (0:Int)).getD i 0=0:=fun m i=>by
  rw [List.getD_eq_getElem?_getD,List.getElem?_replicate];split<;>rfl
 have zb:∀i,bitW (zeroSl S (S*M) lw M).ws i=false:=fun i=>by
  rw [bitW,zeroSl];dsimp only;rw [z];exact bitI_zero _
 have zc:∀a d,(List.range' a d).countP (bitW (zeroSl S (S*M) lw M).ws)=0:=fun a d=>by
  rw [List.countP_eq_zero];intro i _;rw [zb i];decide
 have hn1:1≤S*M:=Nat.mul_pos xo hM;refine ⟨rfl,by simp [zeroSl],by simp [zeroSl],by simp [zeroSl],by simp [zeroSl],h4,h6,rfl,by omega,hn1,hm,?_,?_,fun i _=>zb i,?_⟩
 · intro x hx;obtain ⟨-,rfl⟩:=List.mem_replicate.1 hx;omega
 · intro k hk;rw [cntW,zc];simp only [zeroSl];rw [z];rfl
 · intro i _;exact ⟨z _ _,z _ _⟩
end
section
open Go.RowKit
theorem cntW_add (ws:List Int) {a b d:Nat} (h1:a≤b) (h2:b≤d):cntW ws a d=cntW ws a b+cntW ws b d:=by
 unfold cntW;rw [←List.countP_append];congr 1
 have e:List.range' a (b-a)++List.range' b (d-b)=List.range' a (d-a):=by
  have:=List.range'_append (s:=a) (m:=b-a) (n:=d-b) (step:=1);rw [show a+1*(b-a)=b by omega,show b-a+(d-b)=d-a by omega] at this;exact this
 rw [e]
theorem sumC_cnt {c:SlC} {S lw n lc:Nat} (h:SlGd c S lw n lc) (a:Nat):∀d,a+d≤lc→sumC c.cs a (a+d)=(cntW c.ws (a*S) ((a+d)*S):Int)
  | 0,_=>by rw [Nat.add_zero,sumC_nil,cntW_none (Nat.le_refl _)];rfl
  | d+1,hd=>by
   have ih:=sumC_cnt h a d xo;have e:=cntW_add c.ws (a:=a*S) (b:=(a+d)*S) (d:=(a+d+1)*S) (Nat.mul_le_mul_right _ xo) (Nat.mul_le_mul_right _ xo);rw [←Nat.add_assoc,sumC_succ c.cs xo,ih,h.cnt (a+d) xo,e];push_cast
   rfl
theorem sumC_cnt2 {c:SlC} {S lw n lc:Nat} (h:SlGd c S lw n lc) {a b:Nat} (hab:a≤b) (hb:b≤lc):sumC c.cs a b=(cntW c.ws (a*S) (b*S):Int):=by
 have:=sumC_cnt h a (b-a) xo;rwa [show a+(b-a)=b by omega] at this
end
section
open Go.RowKit
theorem prs_in {c:SlC} {a b:Nat} {p:Int×Int}:p ∈ prs c a b↔∃j,(a≤j∧j<b∧bitW c.ws j=true)∧(c.ks.getD j 0,c.vs.getD j 0)=p:=by
 unfold prs plsW;rw [List.mem_map];constructor
 · rintro ⟨j,hj,rfl⟩;rw [List.mem_filter,List.mem_range'_1] at hj;exact ⟨j,⟨hj.1.1,by omega,hj.2⟩,rfl⟩
 · rintro ⟨j,⟨h1,h2,h3⟩,rfl⟩;exact ⟨j,List.mem_filter.2 ⟨List.mem_range'_1.2 ⟨h1,by omega⟩,h3⟩,rfl⟩
def fndL (l:List (Int×Int)) (key:Int):Option (Int×Int):=l.find? fun p=>p.1==key
theorem find_get {c:SlC} {key:Int} (h:seekE c=0):
    (∃r:Nat,findV c key=((r:Int),0)∧r<c.ks.length∧bitW c.ws r=true∧c.ks.getD r 0=key∧fndL (prs c 0 c.ks.length) key=some (key,c.vs.getD r 0))∨(findV c key=(0,6)∧fndL (prs c 0 c.ks.length) key=none):=by
 have hmo:=seek_mono h;have hF:=frS_is c.ws c.ks c.ks.length key;have hnv:nextV c key=if frS c.ws c.ks c.ks.length key=c.ks.length then (0,6) else ((frS c.ws c.ks c.ks.length key:Int),0):=by rw [nextV,if_pos h]
 generalize frS c.ws c.ks c.ks.length key=r at *;have hnone:(∀j,j<c.ks.length→bitW c.ws j=true→c.ks.getD j 0≠key)→fndL (prs c 0 c.ks.length) key=none:=by
  intro hn;rw [fndL,List.find?_eq_none];intro p hp;obtain ⟨j,⟨-,h2,h3⟩,rfl⟩:=prs_in.1 hp;simpa using hn j h2 h3
 by_cases hr:r=c.ks.length
 · right;rw [if_pos hr] at hnv;refine ⟨by rw [findV,hnv];rfl,hnone fun j hj hb=> ?_⟩;have:=hF.low j xo hb;omega
 · rw [if_neg hr] at hnv;have hrn:r<c.ks.length:=by have:=hF.le;omega
   obtain ⟨hb,hk⟩:=hF.hit hrn;by_cases hke:c.ks.getD r 0=key
   · left;refine ⟨r,by rw [findV,hnv];exact (if_pos rfl).trans (if_pos hke),hrn,hb,hke,?_⟩;cases hf:fndL (prs c 0 c.ks.length) key with
     | none=>
      rw [fndL,List.find?_eq_none] at hf;have:=hf (c.ks.getD r 0,c.vs.getD r 0) (prs_in.2 ⟨r,⟨by omega,hrn,hb⟩,rfl⟩);exact absurd (beq_iff_eq.2 hke) this
     | some p=>
      have h1:=List.find?_some hf;obtain ⟨j,⟨-,h2,h3⟩,rfl⟩:=prs_in.1 (List.mem_of_find?_eq_some hf);have hjk:c.ks.getD j 0=key:=by simpa using h1
      have hjr:j=r:=by
       rcases Nat.lt_trichotomy j r with q|q|q
       · have:=hF.low j q h3;omega
       · exact q
       · have:=hmo r j q h2 hb h3;omega
      rw [hjr,hke]
   · right;refine ⟨by rw [findV,hnv];exact (if_pos rfl).trans (if_neg hke),hnone fun j hj hbj e=> ?_⟩;rcases Nat.lt_trichotomy j r with q|q|q
     · have:=hF.low j q hbj;omega
     · rw [q] at e;exact hke e
     · have:=hmo r j q hj hb hbj;omega
end
section
open Go.RowKit Go.Shelf
attribute [local go_sem] Oper.semAt_some
end
end Go.Proofs.YtmnlagmmbfjbeaaDoor

/- Merged: SlFill, FillPl, Conf, ConfD, GapPl, Share, GetPl, Ref08, Plc, LayW, Put02, FilS, F64, FracW. -/
import Derived.Test.YtbedhbpgnfffmaaGreatDoorCobAnswersP5
import Derived.Laws.BitsAllLaws
import Derived.Test.YtbedhbpgnfffmaaGreatDoorCobAnswersP1
import Derived.Test.YtbedhbpgnfffmaaGreatDoorCobAnswersP3
import Derived.Deep.CutRange
import Derived.Test.YtbedhbpgnfffmaaGreatDoorCobAnswersP4
import Derived.Laws.ComplexArith
import Derived.Test.YtbedhbpgnfffmaaGreatDoorCobAnswersP2
namespace Go.Proofs.YtbedhbpgnfffmaaGreatDoor
set_option maxRecDepth 100000
set_option maxHeartbeats 40000000
set_option linter.unusedVariables false
set_option linter.unusedSimpArgs false
section
open Go.RowKit
def ui (c:aW) (lo:Nat):Nat->aW
  | 0=>c
  | j+1=>uz (ui c lo j) (lo+j)
def vV (c:aW) (ps:List Nat) (L:List (Int×Int)):Nat->aW
  | 0=>c
  | k+1=>ul (vV c ps L k) (ps.getD k 0) (L.getD k (0,0)).1 (L.getD k (0,0)).2
theorem F_ (c:aW) (lo:Nat):∀j,(ui c lo j).ai=c.ai
  | 0=>rfl
  | j+1=>by rw [ui,uz];exact F_ c lo j
theorem PZ (c:aW) (ps:List Nat) (L:List (Int×Int)):∀k,(vV c ps L k).ai=c.ai
  | 0=>rfl
  | k+1=>by rw [vV,ul];exact PZ c ps L k
def pvF (ps:List Nat) (lo:Nat) (k:Nat):Int:=if k=0 then (lo:Int)-1 else (ps.getD (k-1) 0:Nat)
theorem NL {B g1 g2 g3 g4:Nat} {w0 w W:World} (hb:Below B w0 w) (k:kV g1 g2 g3 g4 w W) (hB:B<=w.heap.size) (h1:B<=g1) (h2:B<=g2) (h3:B<=g3) (h4:B<=g4):Below B w0 W:=
  ⟨k.os.trans hb.os,k.tape.trans hb.tape,k.output.trans hb.output,Nat.le_trans hb.size k.size,fun q hq=>(k.block q xo xo xo xo xo).trans (hb.block q hq)⟩
theorem uO {B b g1 g2 g3 g4:Nat} {w0 w W:World} (hb:Below B w0 w) (k:rq b g1 g2 g3 g4 w W) (hB:B<=w.heap.size) (h0:B<=b) (h1:B<=g1) (h2:B<=g2) (h3:B<=g3) (h4:B<=g4):Below B w0 W:=
  ⟨k.os.trans hb.os,k.tape.trans hb.tape,k.output.trans hb.output,Nat.le_trans hb.size k.size,fun q hq=>(k.block q xo xo xo xo xo xo).trans (hb.block q hq)⟩
theorem qW {w:World} {B:Nat} {e:TypeId} {v:Value} {n:Nat} {xs:List Value} (h:w.ownsRow B e 1 v n xs) (hn:0<n):∃g k,v= .slice (some ⟨g,0,none⟩) n k/\B<=g/\g<w.heap.size:=by
 obtain ⟨h1,⟨rfl,h2⟩ | ⟨g,cap,cur,rfl,hg,hh,_⟩⟩:=h
 . omega
 . exact ⟨g,cap,rfl,hg,(Array.getElem?_eq_some_iff.1 hh).1⟩
theorem Jf (w:World) (ai:Int) (wa ka va ca:Option Addr) (wc kc vc cc lw n lc:Nat) (laid:Int) (c:aW) (lo hi m S:Nat) (ps:List Nat) (L:List (Int×Int)) (pa la:Option Addr) (pc pl:Nat)
    (hseg:c.ai=ai) (hlaid:c.laid=laid) (wF:c.ws.length=lw) (hlk:c.ks.length=n) (hlv:c.vs.length=n) (hlc:c.cs.length=lc) (h1:0<lw) (h2:0<n) (h3:0<lc) (hn:n<=65536) (SC:lw<=65536) (SE:lc<=65536) (hS:ai=S) (hS4:4<=S) (hlo:lo<=hi) (hhi:hi<=n) (hwn:n<=64*lw) (hcn:n=S*lc)
    (hps:ps.length=m) (hL:L.length=m) (hm:m<=65536) (hpv:∀k,k<m->pvF ps lo k<(ps.getD k 0:Nat)/\ps.getD k 0<hi) (adX:∀j,j<hi-lo->Vu (ui c lo j)=true) (adY:∀k,k<m->Vu (vV (ui c lo (hi-lo)) ps L k)=true)
    (HP:Hid (aQ .i64 w pa (ints ps))) (HL:Hid (aQ .i64 w la (lC L)))
    (PT:Hid (∀W,Below w.heap.size w W->Calls Tryz.prog 172 #[.agg #[.int .i64 ai,.slice wa lw wc,.slice ka n kc,.slice va n vc,.slice ca lc cc,.int .u64 laid],.int .i64 lo,.int .i64 hi] W (aC W (.int .i64 0))))
    (TW:Hid (∀W,Below w.heap.size w W->Calls Tryz.prog 85 #[.agg #[.int .i64 ai,.slice wa lw wc,.slice ka n kc,.slice va n vc,.slice ca lc cc,.int .u64 laid]] W (vk W c))):
    Calls Tryz.prog 220 #[.agg #[.int .i64 ai,.slice wa lw wc,.slice ka n kc,.slice va n vc,.slice ca lc cc,.int .u64 laid],.int .i64 lo,.int .i64 hi,.slice pa m pc,.slice la m pl] w (dm w (vV (ui c lo (hi-lo)) ps L m) (.int .i64 0)):=by
 have HPV:=hid hpv;have HOT:=hid adX;have HOL:=hid adY;have HPS:=hid hps;have HLL:=hid hL;have HC:=hid (And.intro hseg (And.intro hlaid (And.intro wF (And.intro hlk (And.intro hlv hlc)))));have HSS:=hid hS;have HCN:=hid hcn;have gm:((m:Int) != (m:Int))=false:=by simp
 have hwl:IntKind.i64.wrap ((lo:Int)-1)=(lo:Int)-1:=IntWalk.i64_in _ xo;clear hpv adX adY hps hL hseg hlaid wF hlk hlv hlc hS hcn;go_enter Tryz.func220,Tryz.ntmps220
 go_wp2_with fail
 refine (PT.out _ ((br.alloc (Nat.le_refl _) _).alloc ax _)).mono ?_;rintro e w1 ⟨rfl,hb1⟩;have aA:=hb1.size;try simp only [World.size_alloc,World.size_setCell] at aA
 have hh:=jl hb1 (jI (jA (b:=w.heap.size) ax));obtain ⟨aO,aN,aK,aU,aT,aV⟩:=hh;have bF:=aP hb1 (dB (bV (b:=w.heap.size) ax));have hh:=jl hb1 (jA (b:=w.heap.size+1) ax);obtain ⟨a_,aZ,bf,dh,df,cZ⟩:=hh;have hh:=Qs hb1 (bV (b:=w.heap.size+1) ax) (zB (b:=w.heap.size+1) ax);obtain ⟨bQ,bP,bT,dQ,dP,dO⟩:=hh;have bW:=aP hb1 (bV (b:=w.heap.size+1) ax);have hB1:Below w.heap.size w w1:=aH;have HB1:=hid hB1;have hz1:w.heap.size+2<=w1.heap.size:=xo;clear hb1 hB1;go_wp2
 go_loopg [13,38] m (fun gk v iv wr=>∃k:Nat,k+gk=m/\iv= .int .i64 k/\v= .int .i64 (pvF ps lo k)/\w1=wr)
 case atStart=>exact ⟨0,by omega,rfl,by simp [pvF],rfl⟩
 case round=>
  obtain ⟨k,hk,rfl,rfl,rfl⟩:=hrel;by_cases hlt:k<m
  . obtain ⟨bl,ol,x',rfl,hx',cl,zl⟩:=(HP.out.below HB1.out).get (i:=k) (by rw [jD,HPS.out];exact hlt);obtain ⟨x,hx⟩:∃x,ps.getD k 0=x:=⟨_,rfl⟩
    have hxx:x'=(x:Int):=by rw [<-hx'.out,vY,hx]
    subst hxx;have hpv:=HPV.out k hlt;rw [hx] at hpv;have HX:=hid hx;obtain ⟨pv,adU⟩:∃pv,pvF ps lo k=pv:=⟨_,rfl⟩
    rw [adU] at hpv ⊢;have g1:decide ((x:Int)<=pv)=false:=by simp;omega
    have g2:decide ((x:Int)≥hi)=false:=by simp;omega
    have HK:=hid hk;clear hx hx' adU hk;go_wp2
    go_roundg (gk-1)
    case measure=>have:=HK.out;omega
    case rel=>exact ⟨k+1,by have:=HK.out;omega,by go_num,by rw [pvF,if_neg xo,Nat.add_sub_cancel,HX.out],rfl⟩
  . have V_:m=k:=xo;subst V_;go_wp2_with fail
    refine (TW.out w1 HB1.out).mono ?_;rintro e w2 ⟨v1,v2,v3,v4,rfl,o1,o2,o3,o4,hb2,hne⟩;obtain ⟨Hw,zY,AO,AP,LQ,Ep⟩:=HC.out;rw [AO] at o1;rw [AP] at o2;rw [LQ] at o3;rw [Ep] at o4;rw [Hw,zY];obtain ⟨g1,k1,rfl,hg1,hg1'⟩:=qW o1 h1;obtain ⟨g2,k2,rfl,hg2,abS⟩:=qW o2 h2;obtain ⟨g3,k3,rfl,hg3,hg3'⟩:=qW o3 h2;obtain ⟨g4,k4,rfl,hg4,afZ⟩:=qW o4 h3;have n23:g2≠g3:=hne g2 g3 rfl rfl;have apart:∀ {e e':TypeId} {g g' n n' k k':Nat} {xs xs':List Value},w2.ownsRow w1.heap.size e 1 (.slice (some ⟨g,0,none⟩) n k) n xs->w2.ownsRow w1.heap.size e' 1 (.slice (some ⟨g',0,none⟩) n' k') n' xs'->e≠e'->g≠g':=by
     intro e e' g g' n n' k k' xs xs' ha hb hc;rcases kQ ha hb hc with h|h
     . cases h
     . intro hgg;exact h (by subst hgg;rfl)
    have n12:=apart o1 o2 au;have n13:=apart o1 o3 au;have n14:=apart o1 o4 au;have n24:=apart o2 o4 au;have n34:=apart o3 o4 au;clear apart hne;have fH:=hb2.size;have D6:Hid (Below w1.heap.size w1 w2):=hid hb2;have HO:=hid (And.intro o1 (And.intro o2 (And.intro o3 o4)));clear o1 o2 o3 o4 hb2;go_wp2
    have hb3:Below w2.heap.size w2 (w2.alloc (.cells #[.int .i64 ai,.slice (some ⟨g1,0,none⟩) lw k1,.slice (some ⟨g2,0,none⟩) n k2,.slice (some ⟨g3,0,none⟩) n k3,.slice (some ⟨g4,0,none⟩) lc k4,.int .u64 laid] 177)):=br.alloc (Nat.le_refl _) _;have hA:xy w1.heap.size (w2.alloc (.cells #[.int .i64 ai,.slice (some ⟨g1,0,none⟩) lw k1,.slice (some ⟨g2,0,none⟩) n k2,.slice (some ⟨g3,0,none⟩) n k3,.slice (some ⟨g4,0,none⟩) lc k4,.int .u64 laid] 177)) w2.heap.size g1 g2 g3 g4 k1 k2 k3 k4 lw n lc c:=by
     unfold xy;rw [Hw,zY];exact ⟨by (exact iP),by (exact iP),by (exact iP),by (exact iP),by (exact iP),by (exact iP),by (exact iP),ay HO.out.1 hb3,ay HO.out.2.1 hb3,ay HO.out.2.2.1 hb3,ay HO.out.2.2.2 hb3⟩
    have HA:=hid hA;have hzz:(w2.alloc (.cells #[.int .i64 ai,.slice (some ⟨g1,0,none⟩) lw k1,.slice (some ⟨g2,0,none⟩) n k2,.slice (some ⟨g3,0,none⟩) n k3,.slice (some ⟨g4,0,none⟩) lc k4,.int .u64 laid] 177)).heap.size=w2.heap.size+1:=by simp
    have HB3:Hid (Below w1.heap.size w1 (w2.alloc (.cells #[.int .i64 ai,.slice (some ⟨g1,0,none⟩) lw k1,.slice (some ⟨g2,0,none⟩) n k2,.slice (some ⟨g3,0,none⟩) n k3,.slice (some ⟨g4,0,none⟩) lc k4,.int .u64 laid] 177))):=hid (D6.out.trans (hb3.mono D6.out.size));generalize w2.alloc (.cells #[.int .i64 ai,.slice (some ⟨g1,0,none⟩) lw k1,.slice (some ⟨g2,0,none⟩) n k2,.slice (some ⟨g3,0,none⟩) n k3,.slice (some ⟨g4,0,none⟩) lc k4,.int .u64 laid] 177)=w3 at *;have HNE:Hid (LH w2.heap.size g1 g2 g3 g4):=hid ⟨by omega,by omega,by omega,by omega,n12,n13,n14,n23,n24,n34⟩;have hbb:w1.heap.size<=w2.heap.size:=D6.out.size;have HEQ:=hid (And.intro Hw zY);clear hA hb3 HO n12 n13 n14 n23 n24 n34 Hw zY AO AP LQ Ep D6;go_loopg [17] (hi-lo) (fun gk iv wr=>∃j:Nat,j+gk=hi-lo/\iv= .int .i64 ((lo:Int)+j)/\Hid (xy w1.heap.size wr w2.heap.size g1 g2 g3 g4 k1 k2 k3 k4 lw n lc (ui c lo j))/\Hid (Below w1.heap.size w1 wr)/\w2.heap.size<wr.heap.size)
    case atStart=>exact ⟨0,by omega,by simp,HA,HB3,by omega⟩
    case round=>
     obtain ⟨j,hj,rfl,HAj,HBj,hzj⟩:=hrel;by_cases hjt:lo+j<hi
     . have g5:decide ((lo:Int)+j<hi)=true:=by simp;omega
       have TK:=O9 wr w1.heap.size w2.heap.size g1 g2 g3 g4 k1 k2 k3 k4 lw n lc (lo+j) S (ui c lo j) HAj.out HNE.out (HOT.out j xo) xo hn xo SC (by rw [F_,HEQ.out.1];exact HSS.out) hS4 (by have:=HCN.out;exact Nat.div_lt_of_lt_mul xo) SE;rw [show ((lo+j:Nat):Int)=(lo:Int)+j by omega] at TK;have TKH:=hid TK;have HJ:=hid hj;clear TK hj;go_wp2_with fail
       refine TKH.out.mono ?_;rintro e w5 ⟨rfl,hA5,hk5⟩;have hB5:=NL HBj.out hk5 xo hg1 hg2 hg3 hg4;have Um:=hk5.size;have HA5:=hid hA5;have xB:=hid hB5;clear hA5 hk5 hB5;go_wp2
       go_roundg (gk-1)
       case measure=>have:=HJ.out;omega
       case rel=>exact ⟨j+1,by have:=HJ.out;omega,congrArg _ xo,HA5,xB,by omega⟩
     . have g5:decide ((lo:Int)+j<hi)=false:=by simp;omega
       obtain rfl:j=hi-lo:=xo;go_wp2
       generalize hi-lo=dl at *;go_loopg [68] m (fun gk iv wr=>∃k:Nat,k+gk=m/\iv= .int .i64 k/\Hid (xy w1.heap.size wr w2.heap.size g1 g2 g3 g4 k1 k2 k3 k4 lw n lc (vV (ui c lo dl) ps L k))/\Hid (Below w1.heap.size w1 wr)/\w2.heap.size<wr.heap.size)
       case atStart=>exact ⟨0,by omega,rfl,HAj,HBj,hzj⟩
       case round=>
        obtain ⟨k,hk,rfl,HAk,HBk,hzk⟩:=hrel;have hBk:Below w.heap.size w wr:=aj HBk.out HB1.out xo;by_cases hkt:k<m
        . obtain ⟨bp,op,x',rfl,hx',cl,zl⟩:=(HP.out.below hBk).get (i:=k) (by rw [jD,HPS.out];exact hkt);obtain ⟨bl,ol,rfl,q0,q1,zq⟩:=wY (HL.out.below hBk) (i:=k) (by rw [HLL.out];exact hkt);obtain ⟨x,hx⟩:∃x,ps.getD k 0=x:=⟨_,rfl⟩
          have hxx:x'=(x:Int):=by rw [<-hx'.out,vY,hx]
          subst hxx;have hpv:=(HPV.out k hkt).2;have LY:=VP wr w1.heap.size w2.heap.size g1 g2 g3 g4 k1 k2 k3 k4 lw n lc x S (vV (ui c lo dl) ps L k) (L.getD k (0,0)).1 (L.getD k (0,0)).2 HAk.out HNE.out (HOL.out k hkt) xo hn xo SC (by rw [PZ,F_,HEQ.out.1];exact HSS.out) hS4 (by have:=HCN.out;exact Nat.div_lt_of_lt_mul xo) SE;have LYH:Hid (Calls Tryz.prog 114 #[.pointer (some ⟨w2.heap.size,0,none⟩),.int .i64 x,.agg #[.int .i64 (L.getD k (0,0)).1,.int .i64 (L.getD k (0,0)).2]] wr fun e W=>e= .returned (.tuple #[])/\xy w1.heap.size W w2.heap.size g1 g2 g3 g4 k1 k2 k3 k4 lw n lc (vV (ui c lo dl) ps L (k+1))/\rq w2.heap.size g1 g2 g3 g4 wr W):=hid (by rw [vV,hx];exact LY);have HK:=hid hk;generalize (L.getD k (0,0)).1=kx at *;generalize (L.getD k (0,0)).2=vx at *;clear LY hk hx hx';go_wp2_with fail
          refine LYH.out.mono ?_;rintro e w5 ⟨rfl,hA5,hk5⟩;have hB5:=uO HBk.out hk5 xo xo hg1 hg2 hg3 hg4;have Um:=hk5.size;have HA5:=hid hA5;have xB:=hid hB5;clear hA5 hk5 hB5;go_wp2
          go_roundg (gk-1)
          case measure=>have:=HK.out;omega
          case rel=>exact ⟨k+1,by have:=HK.out;omega,by go_num,HA5,xB,by omega⟩
        . have V_:m=k:=xo;subst V_;have hAe:=HAk.out;unfold xy at hAe;obtain ⟨e0,e1,e2,e3,e4,e5,-,p1,p2,p3,p4⟩:=hAe;have l1:=ik p1;have l2:=ik p2;have l3:=ik p3;have l4:=ik p4;generalize vV (ui c lo dl) ps L m=d at *;have EW:=HBk.out.size;simp (disch:=omega) only [jK HBk.out,rX HBk.out] at aO aN aK aU aT aV a_ aZ bf dh df cZ bQ bP bT dQ dP dO;replace bF:=aP HBk.out bF;replace bW:=aP HBk.out bW;have Ls:=hid p1;have HP2:=hid p2;have Iw:=hid p3;have Lr:=hid p4;clear p1 p2 p3 p4 HAk;go_wp2
          have HQ:Hid (∀q,w.heap.size+2<=q->((((((wr.setCell ⟨w.heap.size+1,0,none⟩ (.int .i64 d.ai)).setCell ⟨w.heap.size+1,1,none⟩ (.slice (some ⟨g1,0,none⟩) lw k1)).setCell ⟨w.heap.size+1,2,none⟩ (.slice (some ⟨g2,0,none⟩) n k2)).setCell ⟨w.heap.size+1,3,none⟩ (.slice (some ⟨g3,0,none⟩) n k3)).setCell ⟨w.heap.size+1,4,none⟩ (.slice (some ⟨g4,0,none⟩) lc k4)).setCell ⟨w.heap.size+1,5,none⟩ (.int .u64 d.laid)).heap[q]? =wr.heap[q]?):=hid fun q hq=>by
           rw [ae _ _ _ dG,ae _ _ _ dG,ae _ _ _ dG,ae _ _ _ dG,ae _ _ _ dG,ae _ _ _ dG]
          refine bodyPost_ret (aF rfl rfl (ag _ Tryz.underlying29 rfl xk (tH a_ aZ bf dh df cZ))) rfl ⟨_,_,_,_,rfl,?_,?_,?_,?_,?_⟩
          . rw [l1];exact az (af Ls.out fun j hj=>HQ.out j (by have:=(Ls.out.lt j hj).1;omega)) xo
          . rw [l2];exact az (af HP2.out fun j hj=>HQ.out j (by have:=(HP2.out.lt j hj).1;omega)) xo
          . rw [l3];exact az (af Iw.out fun j hj=>HQ.out j (by have:=(Iw.out.lt j hj).1;omega)) xo
          . rw [l4];exact az (af Lr.out fun j hj=>HQ.out j (by have:=(Lr.out.lt j hj).1;omega)) xo
          . exact (((((hBk.setCell dG _).setCell dG _).setCell dG _).setCell dG _).setCell dG _).setCell dG _
end
section
open Go Go.RowKit
theorem IU {r:Nat} (hr:r<64):IntKind.u64.wrap (2^r)=((2^r:Nat):Int):=by
 have h:2^r<2^64:=Nat.pow_lt_pow_right xo hr;have e:(2:Int)^r=((2^r:Nat):Int):=by push_cast;rfl
 rw [e,IntKind.wrap_u64,Int.emod_eq_of_lt (Int.natCast_nonneg _) xo]
theorem Kq {x r:Nat} (hx:x<18446744073709551616) (hr:r<64):Ox (x:Int) r=((x &&& (2^64-(2^r+1)):Nat):Int):=by
 have h:2^r<2^64:=Nat.pow_lt_pow_right xo hr;rw [Ox,IU hr,u64_andNot_nat _ _ hx xo,show 18446744073709551615-2^r=2^64-(2^r+1) by omega]
theorem Ji {x r:Nat} (hx:x<18446744073709551616) (hr:r<64):Q9 (x:Int) r=((x ||| 2^r:Nat):Int):=by
 have h:2^r<2^64:=Nat.pow_lt_pow_right xo hr;rw [Q9,IU hr,u64_or_nat _ _ hx xo]
theorem KZ {x:Int} {r:Nat} (h0:0<=x) (h1:x<18446744073709551616) (hr:r<64) (k:Nat):je (Ox x r) k=(je x k&&decide (k≠r)):=by
 obtain ⟨n,rfl⟩:=Int.eq_ofNat_of_zero_le h0;have h:2^r<2^64:=Nat.pow_lt_pow_right xo hr;rw [Kq xo hr,fD,fD,Nat.testBit_and,Nat.testBit_two_pow_sub_succ h,Nat.testBit_two_pow];by_cases hk:k<64
 . by_cases hkr:r=k
   . subst hkr;simp
   . have:k≠r:=fun e=>hkr e.symm
     simp [hk,hkr,this]
 . have:n.testBit k=false:=by
     have:=zo (x:=(n:Int)) h1 (k:=k) xo;rwa [fD] at this
   simp [this]
theorem Xc {x:Int} {r:Nat} (h0:0<=x) (h1:x<18446744073709551616) (hr:r<64) (k:Nat):je (Q9 x r) k=(je x k||decide (k=r)):=by
 obtain ⟨n,rfl⟩:=Int.eq_ofNat_of_zero_le h0;rw [Ji xo hr,fD,fD,Nat.testBit_or,Nat.testBit_two_pow];by_cases hkr:r=k
 . subst hkr;simp
 . have:k≠r:=fun e=>hkr e.symm
   simp [hkr,this]
theorem Ql {x:Int} {r:Nat} (h0:0<=x) (h1:x<18446744073709551616) (hr:r<64):0<=Ox x r/\Ox x r<18446744073709551616:=by
 obtain ⟨n,rfl⟩:=Int.eq_ofNat_of_zero_le h0;rw [Kq xo hr];have:=Nat.and_le_left (n:=n) (m:=2^64-(2^r+1));omega
theorem Yc {x:Int} {r:Nat} (h0:0<=x) (h1:x<18446744073709551616) (hr:r<64):0<=Q9 x r/\Q9 x r<18446744073709551616:=by
 obtain ⟨n,rfl⟩:=Int.eq_ofNat_of_zero_le h0;rw [Ji xo hr];have h:2^r<2^64:=Nat.pow_lt_pow_right xo hr;have:=Nat.or_lt_two_pow (x:=n) (y:=2^r) (n:=64) xo h;omega
theorem dI (l:List Int) (i j:Nat) (v:Int):(l.set i v).getD j 0=if i=j/\i<l.length then v else l.getD j 0:=by
 rw [List.getD_eq_getElem?_getD,List.getD_eq_getElem?_getD,List.getElem?_set];by_cases h:i=j
 . subst h;by_cases h2:i<l.length
   . simp [h2]
   . simp [h2]
 . simp [h]
theorem uZ {ws:List Int} (hu:fB ws) {i:Nat} (hi:i/64<ws.length) (j:Nat):bG (Ew ws i) j=(bG ws j&&decide (j≠i)):=by
 have hg:=hu.get (i/64);rw [bG,Ew,dI];by_cases h:i/64=j/64
 . rw [if_pos ⟨h,hi⟩,KZ hg.1 hg.2 (Nat.mod_lt _ xo),h,bG];congr 1
   rw [decide_eq_decide];omega
 . rw [if_neg (fun q=>h q.1),bG];have:j≠i:=fun e=>h (by rw [e])
   simp [this]
theorem uY {ws:List Int} (hu:fB ws) {i:Nat} (hi:i/64<ws.length) (j:Nat):bG (Gm ws i) j=(bG ws j||decide (j=i)):=by
 have hg:=hu.get (i/64);rw [bG,Gm,dI];by_cases h:i/64=j/64
 . rw [if_pos ⟨h,hi⟩,Xc hg.1 hg.2 (Nat.mod_lt _ xo),h,bG];congr 1
   rw [decide_eq_decide];omega
 . rw [if_neg (fun q=>h q.1),bG];have:j≠i:=fun e=>h (by rw [e])
   simp [this]
theorem Xo {ws:List Int} (hu:fB ws) (i:Nat):fB (Ew ws i):=by
 intro x hx;rcases List.mem_or_eq_of_mem_set hx with h|rfl
 . exact hu x h
 . have hg:=hu.get (i/64);exact Ql hg.1 hg.2 (Nat.mod_lt _ xo)
theorem Xn {ws:List Int} (hu:fB ws) (i:Nat):fB (Gm ws i):=by
 intro x hx;rcases List.mem_or_eq_of_mem_set hx with h|rfl
 . exact hu x h
 . have hg:=hu.get (i/64);exact Yc hg.1 hg.2 (Nat.mod_lt _ xo)
theorem Eb (l:List Int) (i:Nat):l.set i (l.getD i 0)=l:=by
 apply List.ext_getElem? fun j=> ?_
 rw [List.getElem?_set];by_cases h:i=j
 . subst h;rw [if_pos rfl];by_cases h2:i<l.length
   . simp [h2,List.getD_eq_getElem?_getD]
   . rw [if_neg h2,List.getElem?_eq_none xo]
 . rw [if_neg h]
theorem FM {ws:List Int} (hu:fB ws) {i:Nat} (hb:bG ws i=false):Ew ws i=ws:=by
 have hg:=hu.get (i/64);have hr:i%64<64:=Nat.mod_lt _ xo;have hc:=Ql hg.1 hg.2 hr;rw [Ew];have:Ox (ws.getD (i/64) 0) (i%64)=ws.getD (i/64) 0:=by
  apply Di hc.1 hg.1;intro k;rw [KZ hg.1 hg.2 hr];by_cases hk:k=i%64
  . subst hk;rw [bG] at hb;rw [hb];rfl
  . simp [hk]
 rw [this,Eb]
theorem Aa {p q:Nat->Bool} {i:Nat} (hp:p i=true) (hq:q i=false) (he:∀j,j≠i->q j=p j):∀(d a:Nat),(List.range' a d).countP p=(List.range' a d).countP q+if a<=i/\i<a+d then 1 else 0:=by
 intro d;induction d with
 | zero=>intro a;simp
 | succ d ih=>
  intro a;rw [List.range'_succ,List.countP_cons,List.countP_cons,ih (a+1)];by_cases h:a=i
  . subst h;have e1:¬(a+1<=a/\a<a+1+d):=xo;have e2:a<=a/\a<a+(d+1):=xo;rw [hp,hq,if_neg e1,if_pos e2];simp
  . rw [he a h];by_cases h2:a+1<=i/\i<a+1+d
    . have e2:a<=i/\i<a+(d+1):=xo;rw [if_pos h2,if_pos e2];omega
    . have e2:¬(a<=i/\i<a+(d+1)):=xo;rw [if_neg h2,if_neg e2];omega
theorem WO {ws:List Int} (hu:fB ws) {i:Nat} (hi:i/64<ws.length) (hb:bG ws i=true) (a b:Nat):dD ws a b=dD (Ew ws i) a b+if a<=i/\i<b then 1 else 0:=by
 rw [dD,dD,Aa (p:=bG ws) (q:=bG (Ew ws i)) hb (by rw [uZ hu hi];simp) (fun j hj=>by rw [uZ hu hi];simp [hj])];congr 1
 by_cases h:a<=i/\i<b
 . rw [if_pos xo,if_pos h]
 . rw [if_neg xo,if_neg h]
theorem Ko {ws:List Int} (hu:fB ws) {i:Nat} (hi:i/64<ws.length) (hb:bG ws i=false) (a b:Nat):dD (Gm ws i) a b=dD ws a b+if a<=i/\i<b then 1 else 0:=by
 rw [dD,dD,Aa (p:=bG (Gm ws i)) (q:=bG ws) (by rw [uY hu hi];simp) hb (fun j hj=>by rw [uY hu hi];simp [hj])];congr 1
 by_cases h:a<=i/\i<b
 . rw [if_pos xo,if_pos h]
 . rw [if_neg xo,if_neg h]
structure fQ (c:aW) (S lw n lc:Nat):Prop where
 ai:c.ai=S
 AO:c.ws.length=lw
 AP:c.ks.length=n
 LQ:c.vs.length=n
 Ep:c.cs.length=lc
 s4:4<=S
 s64:S<=64
 cn:n=S*lc
 wn:n<=64*lw
 n1:1<=n
 nm:n<=65536
 u:fB c.ws
 cnt:∀k,k<lc->c.cs.getD k 0=(dD c.ws (k*S) ((k+1)*S):Int)
 hi:∀i,n<=i->bG c.ws i=false
 clr:∀i,bG c.ws i=false->c.ks.getD i 0=0/\c.vs.getD i 0=0
theorem fQ.ok {c:aW} {S lw n lc:Nat} (h:fQ c S lw n lc):Vu c=true:=by
 simp only [Vu,Bool.and_eq_true,List.all_eq_true,decide_eq_true_eq];refine ⟨fun x hx=>h.u x hx,fun x hx=> ?_⟩;obtain ⟨k,hk,rfl⟩:=List.mem_iff_getElem.1 hx;have:=h.cnt k (by rw [<-h.Ep];exact hk);rw [List.getD_eq_getElem?_getD,List.getElem?_eq_getElem hk,Option.getD_some] at this;have h2:=oH c.ws (k*S) ((k+1)*S);rw [show (k+1)*S-k*S=S by rw [Nat.succ_mul];omega] at h2;have:=h.s64;omega
theorem Gn {S i k:Nat} (hS:4<=S):(k*S<=i/\i<(k+1)*S)↔i/S=k:=by
 constructor
 . rintro ⟨h1,h2⟩;apply Nat.le_antisymm
   . exact Nat.le_of_lt_succ ((Nat.div_lt_iff_lt_mul xo).2 h2)
   . exact (Nat.le_div_iff_mul_le xo).2 h1
 . rintro rfl;exact ⟨Nat.div_mul_le_self _ _,by rw [Nat.succ_mul];have e:=Nat.div_add_mod i S;have:=Nat.mod_lt i (show 0<S by omega);rw [Nat.mul_comm] at e;omega⟩
theorem fQ.tk {c:aW} {S lw n lc:Nat} (h:fQ c S lw n lc) {i:Nat} (hi:i<n):fQ (uz c i) S lw n lc:=by
 have hq:i/64<c.ws.length:=by rw [h.AO];have:=h.wn;omega
 have hs:i/S<lc:=(Nat.div_lt_iff_lt_mul (by have:=h.s4;omega)).2 (by rw [Nat.mul_comm,<-h.cn];exact hi);have hseg:c.ai.toNat=S:=by rw [h.ai];rfl
 refine ⟨h.ai,?_,?_,?_,?_,h.s4,h.s64,h.cn,h.wn,h.n1,h.nm,Xo h.u i,?_,?_,?_⟩
 . simp [uz,Ew,h.AO]
 . simp [uz,h.AP]
 . simp [uz,h.LQ]
 . simp only [uz];split
   . rw [List.length_set];exact h.Ep
   . exact h.Ep
 . intro k hk;simp only [uz];rw [hseg];cases hb:bG c.ws i with
   | true=>
    have e:=WO h.u hq hb (k*S) ((k+1)*S);rw [if_pos rfl,dI,h.Ep];by_cases hki:i/S=k
    . subst hki;rw [if_pos ((Gn h.s4).2 rfl)] at e;rw [if_pos ⟨rfl,hk⟩,h.cnt _ hk,e];omega
    . rw [if_neg (fun q=>hki ((Gn h.s4).1 q))] at e;rw [if_neg (fun q=>hki q.1),h.cnt _ hk,e];omega
   | false=>
    rw [if_neg au,FM h.u hb,h.cnt k hk]
 . intro j hj;simp only [uz];rw [uZ h.u hq,h.hi j hj];rfl
 . intro j hj;simp only [uz] at hj ⊢;rw [uZ h.u hq] at hj;rw [dI,dI,h.AP,h.LQ];by_cases hji:i=j
   . subst hji;simp [hi]
   . rw [if_neg (fun q=>hji q.1),if_neg (fun q=>hji q.1)];apply h.clr;have:j≠i:=fun e=>hji e.symm
     simpa [this] using hj
theorem BV {c:aW} {S lw n lc:Nat} (h:fQ c S lw n lc) {i:Nat} (hi:i<n) (j:Nat):bG (uz c i).ws j=(bG c.ws j&&decide (j≠i)):=
  uZ h.u (by rw [h.AO];have:=h.wn;omega) j
theorem fQ.ly {c:aW} {S lw n lc:Nat} (h:fQ c S lw n lc) {i:Nat} (hi:i<n) (key val:Int):fQ (ul c i key val) S lw n lc:=by
 have g:=h.tk hi;have hq:i/64<(uz c i).ws.length:=by rw [g.AO];have:=h.wn;omega
 have hseg:c.ai.toNat=S:=by rw [h.ai];rfl
 have hb:bG (uz c i).ws i=false:=by rw [BV h hi];simp
 have hs:i/S<lc:=(Nat.div_lt_iff_lt_mul (by have:=h.s4;omega)).2 (by rw [Nat.mul_comm,<-h.cn];exact hi);refine ⟨h.ai,?_,?_,?_,?_,h.s4,h.s64,h.cn,h.wn,h.n1,h.nm,Xn g.u i,?_,?_,?_⟩
 . simp only [ul,Gm,List.length_set];exact g.AO
 . simp only [ul,List.length_set];exact g.AP
 . simp only [ul,List.length_set];exact g.LQ
 . simp only [ul,List.length_set];exact g.Ep
 . intro k hk;simp only [ul];rw [hseg];have e:=Ko g.u hq hb (k*S) ((k+1)*S);rw [dI,g.Ep,e];by_cases hki:i/S=k
   . subst hki;rw [if_pos ⟨rfl,hk⟩,if_pos ((Gn h.s4).2 rfl),g.cnt _ hk];push_cast
     rfl
   . rw [if_neg (fun q=>hki q.1),if_neg (fun q=>hki ((Gn h.s4).1 q)),g.cnt _ hk];simp
 . intro j hj;simp only [ul];rw [uY g.u hq,g.hi j hj];simp;omega
 . intro j hj;simp only [ul] at hj ⊢;rw [uY g.u hq] at hj;have hji:¬i=j:=by
    intro e;subst e;simp at hj
   rw [dI,dI,if_neg (fun q=>hji q.1),if_neg (fun q=>hji q.1)];apply g.clr;simp only [Bool.or_eq_false_iff] at hj;exact hj.1
theorem VL {c:aW} {S lw n lc:Nat} (h:fQ c S lw n lc) {i:Nat} (hi:i<n) (key val:Int) (j:Nat):bG (ul c i key val).ws j=(bG c.ws j||decide (j=i)):=by
 have g:=h.tk hi;simp only [ul];rw [uY g.u (by rw [g.AO];have:=h.wn;omega),BV h hi];by_cases hj:j=i
 . simp [hj]
 . simp [hj]
theorem fQ.ui {c:aW} {S lw n lc lo:Nat} (h:fQ c S lw n lc):∀j,lo+j<=n->fQ (ui c lo j) S lw n lc
  | 0,_=>h
  | j+1,hj=>(fQ.ui h j xo).tk xo
theorem vF {c:aW} {S lw n lc lo:Nat} (h:fQ c S lw n lc) (i:Nat):∀j,lo+j<=n->bG (Go.Proofs.YtbedhbpgnfffmaaGreatDoor.ui c lo j).ws i=(bG c.ws i&& !(decide (lo<=i)&&decide (i<lo+j)))
  | 0,_=>by
   have:(decide (lo<=i)&&decide (i<lo+0))=false:=by simp
   rw [this];simp [Go.Proofs.YtbedhbpgnfffmaaGreatDoor.ui]
  | j+1,hj=>by
   rw [Go.Proofs.YtbedhbpgnfffmaaGreatDoor.ui,BV (h.ui j xo) xo,vF h i j xo];by_cases hi:i=lo+j
   . subst hi;simp
   . have e:(decide (i<lo+(j+1)))=decide (i<lo+j):=by rw [decide_eq_decide];omega
     rw [e];simp [hi]
theorem fQ.vV {c:aW} {S lw n lc:Nat} (h:fQ c S lw n lc) {ps:List Nat} (hp:∀k,ps.getD k 0<n) (L:List (Int×Int)):∀k,fQ (vV c ps L k) S lw n lc
  | 0=>h
  | k+1=>(fQ.vV h hp L k).ly (hp k) _ _
theorem Bf {c:aW} {S lw n lc:Nat} (h:fQ c S lw n lc) {ps:List Nat} (hp:∀k,ps.getD k 0<n) (L:List (Int×Int)) (i:Nat):∀k,bG (Go.Proofs.YtbedhbpgnfffmaaGreatDoor.vV c ps L k).ws i=true↔bG c.ws i=true\/∃j,j<k/\ps.getD j 0=i
  | 0=>by simp [Go.Proofs.YtbedhbpgnfffmaaGreatDoor.vV]
  | k+1=>by
   rw [Go.Proofs.YtbedhbpgnfffmaaGreatDoor.vV,VL (h.vV hp L k) (hp k),Bool.or_eq_true,Bf h hp L i k,decide_eq_true_eq];constructor
   . rintro ((h1 | ⟨j,h1,h2⟩)|h1)
     . exact Or.inl h1
     . exact Or.inr ⟨j,by omega,h2⟩
     . exact Or.inr ⟨k,by omega,h1.symm⟩
   . rintro (h1 | ⟨j,h1,h2⟩)
     . exact Or.inl (Or.inl h1)
     . rcases Nat.lt_or_ge j k with q|q
       . exact Or.inl (Or.inr ⟨j,q,h2⟩)
       . obtain rfl:j=k:=xo;exact Or.inr h2.symm
theorem UX {c:aW} (hu:fB c.ws) (h:fV c=true):∃S M:Nat,fQ c S ((S*M+63)/64) (S*M) M/\wB (S:Int)=true/\wB (M:Int)=true/\1<=M:=by
 have hm:=h;simp only [fV,Bool.and_eq_true] at h;obtain ⟨⟨h5,h6⟩,h7⟩:=h;obtain ⟨S,M,e1,b1,b2,b3,b4,b5,b6,b7,b8,b9,p1,p2,b10⟩:=dW h5;have hn1:1<=S*M:=Nat.mul_pos xo b6;refine ⟨S,M,⟨e1,b9,b3,b4,b5,b1,b2,rfl,by omega,hn1,b7,hu,?_,b10,?_⟩,p1,p2,b6⟩
 . intro k hk;have:=List.all_eq_true.1 h7 k (List.mem_range.2 (by rw [b5];exact hk));rw [beq_iff_eq,e1,Int.toNat_natCast] at this;exact this
 . intro i hi;rcases Nat.lt_or_ge i c.ks.length with q|q
   . have:=List.all_eq_true.1 h6 i (List.mem_range.2 q);rw [hi,Bool.false_or,Bool.and_eq_true,beq_iff_eq,beq_iff_eq] at this;exact this
   . rw [List.getD_eq_getElem?_getD,List.getD_eq_getElem?_getD,List.getElem?_eq_none q,List.getElem?_eq_none xo];exact ⟨rfl,rfl⟩
def wK (n lo hi k:Nat):Nat:=lo+k*(hi-lo)/n
def xO (n lo hi:Nat):List Nat:=(List.range n).map (wK n lo hi)
theorem nZ (n lo hi:Nat):(xO n lo hi).length=n:=by simp [xO]
theorem kw {n lo hi k:Nat} (h:k<n):(xO n lo hi).getD k 0=wK n lo hi k:=by
 rw [List.getD_eq_getElem?_getD,xO,List.getElem?_map,List.getElem?_range h];rfl
theorem CQ {n lo hi:Nat} (k:Nat) (h0:0<n) (h:n<=hi-lo):wK n lo hi k<wK n lo hi (k+1):=by
 unfold wK;have:k*(hi-lo)/n+1<=(k+1)*(hi-lo)/n:=by
  rw [<-Nat.add_div_right _ h0,Nat.succ_mul];exact Nat.div_le_div_right xo
 omega
theorem xP {n lo hi:Nat} (h0:0<n) (h:n<=hi-lo) (j:Nat):∀d,wK n lo hi j<wK n lo hi (j+(d+1))
  | 0=>CQ j h0 h
  | d+1=>Nat.lt_trans (xP h0 h j d) (CQ _ h0 h)
theorem yR {n lo hi k:Nat} (hk:k<n) (h:n<=hi-lo):wK n lo hi k<hi:=by
 unfold wK;have:k*(hi-lo)/n<hi-lo:=by
  rw [Nat.div_lt_iff_lt_mul xo,Nat.mul_comm];exact (Nat.mul_lt_mul_left xo).2 hk
 omega
theorem Vl {n lo hi k:Nat} (hk:k<n) (h:n<=hi-lo):pvF (xO n lo hi) lo k<((xO n lo hi).getD k 0:Nat)/\(xO n lo hi).getD k 0<hi:=by
 rw [kw hk];refine ⟨?_,yR hk h⟩;unfold pvF;split
 . have:lo<=wK n lo hi k:=Nat.le_add_right _ _;omega
 . rw [kw xo];have:=CQ (lo:=lo) (k-1) xo h;rw [show k-1+1=k by omega] at this;omega
theorem qU {n lo hi N:Nat} (h:n<=hi-lo) (hh:hi<=N) (hN:0<N) (k:Nat):(xO n lo hi).getD k 0<N:=by
 rcases Nat.lt_or_ge k n with q|q
 . rw [kw q];have:=yR (lo:=lo) q h;omega
 . rw [List.getD_eq_getElem?_getD,List.getElem?_eq_none (by rw [nZ];exact q)];exact hN
def Az (c:aW) (lo hi:Nat) (L:List (Int×Int)):aW:=vV (ui c lo (hi-lo)) (xO L.length lo hi) L L.length
theorem fQ.sp {c:aW} {S lw n lc lo hi:Nat} (h:fQ c S lw n lc) (hlo:lo<=hi) (hh:hi<=n) {L:List (Int×Int)} (hL:L.length<=hi-lo):fQ (Az c lo hi L) S lw n lc:=
  fQ.vV (h.ui (hi-lo) xo) (fun k=>qU hL hh (by have:=h.n1;omega) k) L _
theorem VJ {c:aW} {S lw n lc lo hi:Nat} (h:fQ c S lw n lc) (hlo:lo<=hi) (hh:hi<=n) {L:List (Int×Int)} (hL:L.length<=hi-lo) {k:Nat} (hk:k<L.length):bG (vV (ui c lo (hi-lo)) (xO L.length lo hi) L k).ws ((xO L.length lo hi).getD k 0)=false:=by
 rw [Bool.eq_false_iff];intro hb;have hn:=h.n1;rcases (Bf (h.ui (hi-lo) xo) (fun k=>qU hL hh xo k) L _ k).1 hb with q | ⟨j,hj,q⟩
 . rw [vF h _ _ xo,Bool.and_eq_true] at q;have h1:=Vl (lo:=lo) hk hL;have h2:lo<=(xO L.length lo hi).getD k 0:=by
    rw [kw hk];exact Nat.le_add_right _ _
   have:(decide (lo<=(xO L.length lo hi).getD k 0)&&decide ((xO L.length lo hi).getD k 0<lo+(hi-lo)))=true:=by
    rw [Bool.and_eq_true,decide_eq_true_eq,decide_eq_true_eq];omega
   rw [this] at q;simp at q
 . rw [kw hk,kw xo] at q;have:=xP (lo:=lo) xo hL j (k-j-1);rw [show j+(k-j-1+1)=k by omega] at this;omega
theorem XU {S M lw:Nat} (h4:4<=S) (h6:S<=64) (hM:1<=M) (hm:S*M<=65536) (hl:lw=(S*M+63)/64):fQ (iF S (S*M) lw M) S lw (S*M) M:=by
 have z:∀m i,(List.replicate m (0:Int)).getD i 0=0:=fun m i=>by
  rw [List.getD_eq_getElem?_getD,List.getElem?_replicate];split<;>rfl
 have zb:∀i,bG (iF S (S*M) lw M).ws i=false:=fun i=>by
  rw [bG,iF];dsimp only;rw [z];exact qc _
 have zc:∀a d,(List.range' a d).countP (bG (iF S (S*M) lw M).ws)=0:=fun a d=>by
  rw [List.countP_eq_zero];intro i _;rw [zb i];decide
 have hn1:1<=S*M:=Nat.mul_pos xo hM;refine ⟨rfl,by simp [iF],by simp [iF],by simp [iF],by simp [iF],h4,h6,rfl,by omega,hn1,hm,?_,?_,fun i _=>zb i,?_⟩
 . intro x hx;obtain ⟨-,rfl⟩:=List.mem_replicate.1 hx;omega
 . intro k hk;rw [dD,zc];simp only [iF];rw [z];rfl
 . intro i _;exact ⟨z _ _,z _ _⟩
end
section
open Go.RowKit
structure bY where
 tag:Int
 most:Int
 ai:Int
 least:Int
 den:Int
 ll:Int
 rl:Int
 rh:Int
 lh:Int
@[reducible] def cfV (c:bY):Value:= .agg #[.int .u8 c.tag,.int .i64 c.most,.int .i64 c.ai,.int .i64 c.least,.int .i64 c.den,.int .i64 c.ll,.int .i64 c.rl,.int .i64 c.rh,.int .i64 c.lh]
def o_ (a b c d:Int):Int:=if 0<b*c-a*d then -1 else if b*c-a*d<0 then 1 else 0
def kW (n lo hi:Int):Bool:=decide (lo<=n)&&decide (n<=hi)&&wB n
def mQ (c:bY) (n:Int):Nat->Int->Int
  | 0,size=>size
  | k+1,size=>if c.rh*size<n*c.den then mQ c n k (2*size) else size
def ig (c:bY) (n:Int):Int:=mQ c n 20 c.least
def EX (c:bY) (size:Int):Nat:=(size/c.ai).toNat.log2
def pg (c:bY):Bool:=
  decide (1<=c.tag)&&decide (c.tag<=3)&&decide (1<=c.most)&&decide (c.most<=16384)&&kW c.ai 4 64&&kW c.least c.ai 256&&decide (1<=c.den)&&decide (c.den<=64) &&
  decide (0<=c.ll)&&decide (c.ll<c.rl)&&decide (c.rl<c.rh)&&decide (c.rh<c.lh)&&decide (c.lh<=c.den)&&decide (c.den<=2*c.rh)&&decide (8*c.rl<=c.den)&&decide (2*c.den<=c.rl*c.least)
def gQ (c:bY):Bool:=pg c&&decide (c.den*EX c (ig c c.most)<=(c.lh-c.rh)*c.ai)
def Ey (c:bY):Int:=if gQ c=true then 0 else 50
theorem mZ {n lo hi:Int}:kW n lo hi=true↔lo<=n/\n<=hi/\wB n=true:=by
 simp only [kW,Bool.and_eq_true,decide_eq_true_eq];exact ⟨fun h=>⟨h.1.1,h.1.2,h.2⟩,fun h=>⟨⟨h.1,h.2.1⟩,h.2.2⟩⟩
theorem QW {c:bY} {n size:Int} (h:¬c.rh*size<n*c.den):∀k,mQ c n k size=size
  | 0=>rfl
  | k+1=>if_neg h
theorem O_ {c:bY} {n:Int}:∀(k:Nat) (size:Int),0<=size->size<=mQ c n k size/\mQ c n k size<=size*2^k:=by
 intro k;induction k with
 | zero=>intro size h0;rw [mQ];simp
 | succ k ih=>
  intro size h0;rw [mQ];split
  . obtain ⟨a,b⟩:=ih (2*size) xo;have e:2*size*2^k=size*2^(k+1):=by rw [Int.pow_succ,Int.mul_comm 2 size,Int.mul_assoc,Int.mul_comm 2]
    omega
  . have h2:(1:Int)<=2^(k+1):=by
      have:(2:Int)^(k+1)=((2^(k+1):Nat):Int):=by push_cast;rfl
      rw [this];have:=Nat.two_pow_pos (k+1);omega
    have:=Int.mul_le_mul_of_nonneg_left h2 h0;omega
theorem BZ {c:bY} {n:Int} (h1:1<=c.rh):∀(k:Nat) (size:Int),0<=size->n*c.den<=size*2^k->n*c.den<=c.rh*mQ c n k size:=by
 intro k;induction k with
 | zero=>
  intro size h0 h2;have:=Int.mul_le_mul_of_nonneg_right h1 h0;rw [mQ];simp at h2;omega
 | succ k ih=>
  intro size h0 h2;rw [mQ];split
  . refine ih (2*size) xo ?_;rw [Int.pow_succ] at h2;have:2*size*2^k=size*(2^k*2):=by rw [Int.mul_comm 2 size,Int.mul_assoc,Int.mul_comm 2]
    omega
  . omega
def pW (c:bY) (h:Nat):Int:=c.ai*2^h
def GZ (leaf root:Int) (high h:Nat):Int:=leaf*high+(root-leaf)*h
def J4 (c:bY) (high h:Nat) (n leaf root:Int):Int:=if 0<high then o_ n (pW c h) (GZ leaf root high h) (c.den*high) else o_ n (pW c h) root c.den
def qL (c:bY) (high h:Nat) (n:Int):Bool:=if high=0 then decide (n*c.den<=pW c h*c.rh) else decide (n*high*c.den<=pW c h*(c.lh*((high:Int)-h)+c.rh*h))
def Gl (c:bY) (size:Int) (high h:Nat) (n:Int):Bool:=decide (size=c.least)||decide (pW c h*(c.ll*((high:Int)-h)+c.rl*h)<=(n+1)*high*c.den)
theorem J8 (a b c d:Int):decide (o_ a b c d<=0)=decide (a*d<=b*c):=by
 unfold o_;congr 1
 apply propext;split
 . omega
 . split<;>omega
theorem WM (a b c d:Int):decide (0<=o_ a b c d)=decide (b*c<=a*d):=by
 unfold o_;congr 1
 apply propext;split
 . omega
 . split<;>omega
theorem GY (leaf root:Int) (high h:Nat):GZ leaf root high h=leaf*((high:Int)-h)+root*h:=by
 rw [GZ,Int.mul_sub,Int.sub_mul];omega
theorem WC (c:bY) (high h:Nat) (n:Int):decide (J4 c high h n c.lh c.rh<=0)=qL c high h n:=by
 unfold J4 qL;rcases Nat.eq_zero_or_pos high with e|e
 . rw [if_neg xo,if_pos e,J8]
 . rw [if_pos e,if_neg xo,J8,GY,Int.mul_comm c.den,<-Int.mul_assoc]
theorem UU (c:bY) (size:Int) (high h:Nat) (n:Int) (hz:0<high):(decide (0<=J4 c high h (n+1) c.ll c.rl))=decide (pW c h*(c.ll*((high:Int)-h)+c.rl*h)<=(n+1)*high*c.den):=by
 unfold J4;rw [if_pos hz,WM,GY,Int.mul_comm c.den,<-Int.mul_assoc]
theorem nG {c:bY} (h:pg c=true):1<=c.tag/\c.tag<=3/\1<=c.most/\c.most<=16384/\kW c.ai 4 64=true/\kW c.least c.ai 256=true/\1<=c.den/\c.den<=64/\0<=c.ll/\c.ll<c.rl/\c.rl<c.rh/\c.rh<c.lh/\c.lh<=c.den/\c.den<=2*c.rh/\8*c.rl<=c.den/\2*c.den<=c.rl*c.least:=by
 simp only [pg,Bool.and_eq_true,decide_eq_true_eq] at h;obtain ⟨⟨⟨⟨⟨⟨⟨⟨⟨⟨⟨⟨⟨⟨⟨h1,h2⟩,h3⟩,h4⟩,h5⟩,h6⟩,h7⟩,h8⟩,h9⟩,h10⟩,h11⟩,h12⟩,h13⟩,EZ⟩,h15⟩,h16⟩:=h;exact ⟨h1,h2,h3,h4,h5,h6,h7,h8,h9,h10,h11,h12,h13,EZ,h15,h16⟩
theorem r_ {n lo hi:Int} (h:kW n lo hi=true):lo<=n/\n<=hi/\∃k:Nat,n=((2^k:Nat):Int):=by
 obtain ⟨h1,h2,h3⟩:=mZ.1 h;refine ⟨h1,h2,?_⟩;rcases Int.lt_or_le 0 n with h0|h0
 . obtain ⟨m,rfl⟩:∃m:Nat,n=m:=⟨n.toNat,by omega⟩
   obtain ⟨k,rfl⟩:=Yh h3;exact ⟨k,rfl⟩
 . rw [Py h0] at h3;cases h3
theorem pO (k:Nat):wB ((2^k:Nat):Int)=true:=by
 have:=Nat.two_pow_pos k;rw [Gs this,Nat.log2_two_pow]
theorem X7 {c:bY} {n:Int} (h1:1<=c.rh) (h2:c.den<=2*c.rh) (h3:0<=n):∀(k:Nat) (size m:Int),size<=m->4*n<=m->mQ c n k size<=m:=by
 intro k;induction k with
 | zero=>intro size m hs hm;rw [mQ];exact hs
 | succ k ih=>
  intro size m hs hm;rw [mQ];split
  case isTrue h=>
   refine ih _ _ ?_ hm;have h4:n*c.den<=n*(2*c.rh):=Int.mul_le_mul_of_nonneg_left h2 h3;have h5:c.rh*size<c.rh*(2*n):=by
    have:n*(2*c.rh)=c.rh*(2*n):=by rw [Int.mul_comm n,Int.mul_assoc,Int.mul_left_comm]
    omega
   have:=Int.lt_of_mul_lt_mul_left h5 xo;omega
  . exact hs
theorem UM (c:bY) (n:Int):∀(k:Nat) (size:Int),∃j:Nat,j<=k/\mQ c n k size=size*2^j:=by
 intro k;induction k with
 | zero=>intro size;exact ⟨0,Nat.le_refl _,by rw [mQ];simp⟩
 | succ k ih=>
  intro size;rw [mQ];split
  . obtain ⟨j,hj,e⟩:=ih (2*size);refine ⟨j+1,by omega,?_⟩;rw [e,Int.pow_succ,Int.mul_comm 2 size,Int.mul_assoc,Int.mul_comm 2]
  . exact ⟨0,by omega,by simp⟩
def jS (cs:List Int) (a b:Nat):Int:=((List.range' a (b-a)).map fun i=>cs.getD i 0).sum
theorem B_ (cs:List Int) (a:Nat):jS cs a a=0:=by simp [jS]
theorem QY (cs:List Int) {a b:Nat} (h:b<=a):jS cs a b=0:=by rw [jS,show b-a=0 by omega];rfl
theorem UQ (l:List Int) (x:Int):(l++[x]).sum=l.sum+x:=by
 induction l with
 | nil=>simp
 | cons y l ih=>simp only [List.cons_append,List.sum_cons,ih];omega
theorem yJ (cs:List Int) {a b:Nat} (h:a<=b):jS cs a (b+1)=jS cs a b+cs.getD b 0:=by
 rw [jS,jS,show b+1-a=(b-a)+1 by omega,List.range'_1_concat,List.map_append,List.map_singleton,UQ,show a+(b-a)=b by omega]
def OM (cs:List Int) (S:Nat):Prop:=∀i,0<=cs.getD i 0/\cs.getD i 0<=S
theorem Pe {cs:List Int} {S:Nat} (h:OM cs S) (a:Nat):∀d,0<=jS cs a (a+d)/\jS cs a (a+d)<=(S*d:Nat):=by
 intro d;induction d with
 | zero=>rw [Nat.add_zero,B_];simp
 | succ d ih=>
  rw [<-Nat.add_assoc,yJ cs xo,Nat.mul_succ];have:=h (a+d);push_cast
  push_cast at ih
  omega
theorem UR {cs:List Int} {S:Nat} (h:OM cs S) (a b:Nat):0<=jS cs a b/\jS cs a b<=(S*(b-a):Nat):=by
 rcases Nat.le_total a b with e|e
 . have:=Pe h a (b-a);rwa [show a+(b-a)=b by omega] at this
 . rw [QY cs e];exact ⟨Int.le_refl _,by omega⟩
theorem Qk {s:aW} {S:Nat} (hs:s.ai=S) (h:acf s=true):OM s.cs S:=by
 intro i;rcases Nat.lt_or_ge i s.cs.length with hi|hi
 . have:=List.all_eq_true.1 h i (List.mem_range.2 hi);rw [beq_iff_eq,hs,Int.toNat_natCast] at this;have h2:=oH s.ws (i*S) ((i+1)*S);rw [show (i+1)*S-i*S=S by rw [Nat.succ_mul];omega] at h2;rw [this];omega
 . rw [List.getD_eq_getElem?_getD,List.getElem?_eq_none hi];simp
def MG (c:bY) (s:aW) (high h i:Nat):Bool:=qL c high h (jS s.cs (i*2^h) ((i+1)*2^h))&&Gl c s.ks.length high h (jS s.cs (i*2^h) ((i+1)*2^h))
def rowB (c:bY) (s:aW) (high h:Nat):Bool:=(List.range (s.cs.length/2^h)).all fun i=>MG c s high h i
def J5 (c:bY) (s:aW) (high:Nat):Bool:=(List.range (high+1)).all fun h=>rowB c s high h
def pU (c:bY) (s:aW):Bool:=fV s&&decide (s.ai=c.ai)&&kW s.ks.length c.least (ig c c.most)&&decide (jS s.cs 0 s.cs.length<=c.most)
def Ho (c:bY) (s:aW):Bool:=pU c s&&J5 c s (EX c s.ks.length)
def kY (c:bY) (s:aW):Int:=if gQ c=true then (if Ho c s=true then 0 else 8) else 50
def X0 (x P:Nat):Nat:=(x+P-1)/P
theorem BN {x P k:Nat} (hP:0<P):X0 x P<=k↔x<=k*P:=by
 unfold X0;constructor
 . intro h;have h1:=Nat.div_add_mod (x+P-1) P;have h2:=Nat.mod_lt (x+P-1) hP;have h3:P*((x+P-1)/P)<=P*k:=Nat.mul_le_mul_left _ h;rw [Nat.mul_comm k];omega
 . intro h;apply Nat.le_of_lt_succ;rw [Nat.div_lt_iff_lt_mul hP,Nat.succ_mul];omega
theorem BO (x:Nat) {P:Nat} (hP:0<P):x<=X0 x P*P/\X0 x P*P<x+P:=by
 constructor
 . exact (BN hP).1 (Nat.le_refl _)
 . unfold X0;have h1:=Nat.div_mul_le_self (x+P-1) P;omega
theorem adv {n lo w P q k:Nat} (hn:0<n) (hw:0<w):(lo+q*w<=wK n lo (lo+P*w) k/\wK n lo (lo+P*w) k<lo+(q+1)*w)↔(q*n<=k*P/\k*P<(q+1)*n):=by
 unfold wK;rw [Nat.add_sub_cancel_left];have e1:(q*w<=k*(P*w)/n)↔q*n<=k*P:=by
  rw [Nat.le_div_iff_mul_le hn];constructor
  . intro h;refine Nat.le_of_mul_le_mul_right (c:=w) ?_ hw;rw [Nat.mul_right_comm,Nat.mul_assoc k];exact h
  . intro h;have:=Nat.mul_le_mul_right w h;rw [Nat.mul_right_comm,Nat.mul_assoc k] at this;exact this
 have e2:(k*(P*w)/n<(q+1)*w)↔k*P<(q+1)*n:=by
  rw [Nat.div_lt_iff_lt_mul hn];constructor
  . intro h;refine Nat.lt_of_mul_lt_mul_right (a:=w) ?_;rw [Nat.mul_assoc k,Nat.mul_right_comm (q+1)];exact h
  . intro h;have:=(Nat.mul_lt_mul_right hw).2 h;rw [Nat.mul_assoc k,Nat.mul_right_comm (q+1)] at this;exact this
 omega
theorem DF (a b:Nat):∀n,a<=b->b<=n->(List.range n).countP (fun k=>decide (a<=k)&&decide (k<b))=b-a:=by
 intro n hab hbn;induction n with
 | zero=>simp;omega
 | succ n ih =>
  rw [List.range_succ,List.countP_append,List.countP_singleton];by_cases h:b<=n
  . rw [ih h];have:¬n<b:=xo;simp [this]
  . obtain rfl:b=n+1:=xo;by_cases ha:a=n+1
    . subst ha;have e:(List.range n).countP (fun k=>decide (n+1<=k)&&decide (k<n+1))=0:=by
       rw [List.countP_eq_zero];intro k hk;have:=List.mem_range.1 hk;simp only [Bool.and_eq_true,decide_eq_true_eq];omega
      rw [e];simp
    . have e :(List.range n).countP (fun k=>decide (a<=k)&&decide (k<n+1))=n-a:=by
        rcases Nat.eq_or_lt_of_le (show a<=n by omega) with q|q
        . subst q;rw [List.countP_eq_zero.2]
          . omega
          . intro k hk;have:=List.mem_range.1 hk;simp;omega
        . clear ih;have:(List.range n).countP (fun k=>decide (a<=k)&&decide (k<n+1))=(List.range n).countP (fun k=>decide (a<=k)):=by
           apply List.countP_congr;intro k hk;have:=List.mem_range.1 hk;simp;omega
          rw [this];clear this hab hbn h ha;induction n with
          | zero=>omega
          | succ m ih=>
           rw [List.range_succ,List.countP_append,List.countP_singleton];rcases Nat.eq_or_lt_of_le (show a<=m by omega) with q2|q2
           . subst q2;have:(List.range a).countP (fun k=>decide (a<=k))=0:=by
              rw [List.countP_eq_zero];intro k hk;have:=List.mem_range.1 hk;simp;omega
             rw [this];simp
           . rw [ih q2];have:a<=m:=xo;simp [this];omega
      rw [e];have:a<=n:=xo;simp [this];omega
theorem share (n lo w P q:Nat) (hw:0<w) (hP:0<P) (hq:q<P):∃c,(List.range n).countP (fun k=>decide (lo+q*w<=wK n lo (lo+P*w) k)&&decide (wK n lo (lo+P*w) k<lo+(q+1)*w))=c/\c*P<n+P/\n<(c+1)*P:=by
 rcases Nat.eq_zero_or_pos n with h0|h0
 . subst h0;exact ⟨0,rfl,by omega,by omega⟩
 refine ⟨X0 ((q+1)*n) P-X0 (q*n) P,?_,?_,?_⟩
 . rw [<-DF (X0 (q*n) P) (X0 ((q+1)*n) P) n]
   . apply List.countP_congr;intro k _;have h:=adv (lo:=lo) (P:=P) (q:=q) (k:=k) h0 hw;have h1:=BN (x:=q*n) (k:=k) hP;have h2:=BN (x:=(q+1)*n) (k:=k) hP;simp only [Bool.and_eq_true,decide_eq_true_eq];omega
   . rw [BN hP];have:=(BO ((q+1)*n) hP).1;rw [Nat.succ_mul] at this ⊢;omega
   . rw [BN hP];rw [Nat.mul_comm n];exact Nat.mul_le_mul_right _ xo
 . have a1:=BO (q*n) hP;have a2:=BO ((q+1)*n) hP;rw [Nat.sub_mul];rw [Nat.succ_mul] at a2 ⊢;omega
 . have a1:=BO (q*n) hP;have a2:=BO ((q+1)*n) hP;rw [Nat.succ_mul,Nat.sub_mul];rw [Nat.succ_mul] at a2 ⊢;omega
theorem kU (ws:List Int) {a b d:Nat} (h1:a<=b) (h2:b<=d):dD ws a d=dD ws a b+dD ws b d:=by
 unfold dD;rw [<-List.countP_append];congr 1
 have e:List.range' a (b-a)++List.range' b (d-b)=List.range' a (d-a):=by
  have:=List.range'_append (s:=a) (m:=b-a) (n:=d-b) (step:=1);rw [show a+1*(b-a)=b by omega,show b-a+(d-b)=d-a by omega] at this;exact this
 rw [e]
theorem DJ {ws ws':List Int} {a b:Nat} (h:∀i,a<=i->i<b->bG ws i=bG ws' i):dD ws a b=dD ws' a b:=by
 unfold dD;apply List.countP_congr;intro i hi;have:=List.mem_range'_1.1 hi;rw [h i this.1 xo]
theorem Tj {ws:List Int} {a b:Nat} (h:∀i,a<=i->i<b->bG ws i=false):dD ws a b=0:=by
 unfold dD;rw [List.countP_eq_zero];intro i hi;have:=List.mem_range'_1.1 hi;rw [h i this.1 xo];decide
theorem Ja {c:aW} {S lw n lc:Nat} (h:fQ c S lw n lc) (a:Nat):∀d,a+d<=lc->jS c.cs a (a+d)=(dD c.ws (a*S) ((a+d)*S):Int)
  | 0,_=>by rw [Nat.add_zero,B_,zg (Nat.le_refl _)];rfl
  | d+1,hd=>by
   have ih:=Ja h a d xo;have e:=kU c.ws (a:=a*S) (b:=(a+d)*S) (d:=(a+d+1)*S) (Nat.mul_le_mul_right _ xo) (Nat.mul_le_mul_right _ xo);rw [<-Nat.add_assoc,yJ c.cs xo,ih,h.cnt (a+d) xo,e];push_cast
   rfl
theorem vH {c:aW} {S lw n lc:Nat} (h:fQ c S lw n lc) {a b:Nat} (hab:a<=b) (hb:b<=lc):jS c.cs a b=(dD c.ws (a*S) (b*S):Int):=by
 have:=Ja h a (b-a) xo;rwa [show a+(b-a)=b by omega] at this
theorem H7 {c:aW} {S lw n lc lo hi:Nat} (h:fQ c S lw n lc) (hlo:lo<=hi) (hh:hi<=n) (x y:Nat):(y<=lo\/hi<=x->dD (ui c lo (hi-lo)).ws x y=dD c.ws x y)/\(lo<=x->y<=hi->dD (ui c lo (hi-lo)).ws x y=0):=by
 constructor
 . intro hd;refine DJ fun i h1 h2=> ?_
   rw [vF h i (hi-lo) xo];have:(decide (lo<=i)&&decide (i<lo+(hi-lo)))=false:=by
    rw [Bool.and_eq_false_iff,decide_eq_false_iff_not,decide_eq_false_iff_not];omega
   rw [this];simp
 . intro h1 h2;refine Tj fun i h3 h4=> ?_
   rw [vF h i (hi-lo) xo];have:(decide (lo<=i)&&decide (i<lo+(hi-lo)))=true:=by
    rw [Bool.and_eq_true,decide_eq_true_eq,decide_eq_true_eq];omega
   rw [this];simp
theorem acd {c:aW} {S lw n lc i:Nat} (h:fQ c S lw n lc) (hi:i<n) (hb:bG c.ws i=false) (key val:Int) (x y:Nat):dD (ul c i key val).ws x y=dD c.ws x y+if x<=i/\i<y then 1 else 0:=by
 have hq:i/64<c.ws.length:=by rw [h.AO];have:=h.wn;omega
 have e:(ul c i key val).ws=Gm c.ws i:=by
  simp only [ul,uz];rw [FM h.u hb]
 rw [e,Ko h.u hq hb]
theorem Qj {c:aW} {S lw n lc lo hi:Nat} (h:fQ c S lw n lc) (hlo:lo<=hi) (hh:hi<=n) {L:List (Int×Int)} (hL:L.length<=hi-lo) (x y:Nat):∀k,k<=L.length->
    dD (vV (ui c lo (hi-lo)) (xO L.length lo hi) L k).ws x y=dD (ui c lo (hi-lo)).ws x y+(List.range k).countP (fun j=>decide (x<=wK L.length lo hi j)&&decide (wK L.length lo hi j<y))
  | 0,_=>by simp [vV]
  | k+1,hk=>by
   have hn:=h.n1;have g:=fQ.vV (h.ui (lo:=lo) (hi-lo) xo) (fun k=>qU hL hh xo k) L k;rw [vV,acd g (qU hL hh xo k) (VJ h hlo hh hL xo),Qj h hlo hh hL x y k xo,List.range_succ,List.countP_append,List.countP_singleton,kw xo,Nat.add_assoc];congr 2
   by_cases q:x<=wK L.length lo hi k/\wK L.length lo hi k<y
   . rw [if_pos q,if_pos (by simp [q.1,q.2])]
   . rw [if_neg q,if_neg (by simpa using q)]
theorem Ou {c:aW} {S lw n lc lo hi:Nat} (h:fQ c S lw n lc) (hlo:lo<=hi) (hh:hi<=n) {L:List (Int×Int)} (hL:L.length<=hi-lo) (x y:Nat):
    dD (Az c lo hi L).ws x y=dD (ui c lo (hi-lo)).ws x y+(List.range L.length).countP (fun j=>decide (x<=wK L.length lo hi j)&&decide (wK L.length lo hi j<y)):=
  Qj h hlo hh hL x y L.length (Nat.le_refl _)
theorem yt {c:aW} {S lw n lc lo hi:Nat} (h:fQ c S lw n lc) (hlo:lo<=hi) (hh:hi<=n) {L:List (Int×Int)} (hL:L.length<=hi-lo) {x y:Nat} (hd:y<=lo\/hi<=x):dD (Az c lo hi L).ws x y=dD c.ws x y:=by
 rw [Ou h hlo hh hL,(H7 h hlo hh x y).1 hd];have:(List.range L.length).countP (fun j=>decide (x<=wK L.length lo hi j)&&decide (wK L.length lo hi j<y))=0:=by
  rw [List.countP_eq_zero];intro j hj;have h1:=yR (lo:=lo) (List.mem_range.1 hj) hL;have h2:lo<=wK L.length lo hi j:=Nat.le_add_right _ _;simp only [Bool.and_eq_true,decide_eq_true_eq];omega
 rw [this];rfl
theorem H8 {c:aW} {S lw n lc lo hi:Nat} (h:fQ c S lw n lc) (hlo:lo<=hi) (hh:hi<=n) {L:List (Int×Int)} (hL:L.length<=hi-lo):dD (Az c lo hi L).ws lo hi=L.length:=by
 rw [Ou h hlo hh hL,(H7 h hlo hh lo hi).2 (Nat.le_refl _) (Nat.le_refl _),Nat.zero_add];have:(List.range L.length).countP (fun j=>decide (lo<=wK L.length lo hi j)&&decide (wK L.length lo hi j<hi))=(List.range L.length).length:=by
  rw [List.countP_eq_length];intro j hj;have h1:=yR (lo:=lo) (List.mem_range.1 hj) hL;have h2:lo<=wK L.length lo hi j:=Nat.le_add_right _ _;simp only [Bool.and_eq_true,decide_eq_true_eq];omega
 rw [this,List.length_range]
theorem J_ {c:aW} {S lw n lc lo w P q:Nat} (h:fQ c S lw n lc) (hh:lo+P*w<=n) {L:List (Int×Int)} (hL:L.length<=P*w) (hw:0<w) (hP:0<P) (hq:q<P):∃x,dD (Az c lo (lo+P*w) L).ws (lo+q*w) (lo+(q+1)*w)=x/\x*P<L.length+P/\L.length<(x+1)*P:=by
 have hq1:(q+1)*w<=P*w:=Nat.mul_le_mul_right _ hq;obtain ⟨x,e,h1,h2⟩:=share L.length lo w P q hw hP hq;refine ⟨x,?_,h1,h2⟩;rw [Ou h (Nat.le_add_right _ _) hh xo,(H7 h (Nat.le_add_right _ _) hh _ _).2 (Nat.le_add_right _ _) xo,Nat.zero_add];exact e
theorem tK {c:aW} {a b:Nat} {p:Int×Int}:p ∈ b_ c a b↔∃j,(a<=j/\j<b/\bG c.ws j=true)/\(c.ks.getD j 0,c.vs.getD j 0)=p:=by
 unfold b_ eQ;rw [List.mem_map];constructor
 . rintro ⟨j,hj,rfl⟩;rw [List.mem_filter,List.mem_range'_1] at hj;exact ⟨j,⟨hj.1.1,by omega,hj.2⟩,rfl⟩
 . rintro ⟨j,⟨h1,h2,h3⟩,rfl⟩;exact ⟨j,List.mem_filter.2 ⟨List.mem_range'_1.2 ⟨h1,by omega⟩,h3⟩,rfl⟩
def kZ (l:List (Int×Int)) (key:Int):Option (Int×Int):=l.find? fun p=>p.1==key
theorem Dw {c:aW} {key:Int} (h:fE c=0):
    (∃r:Nat,oQ c key=((r:Int),0)/\r<c.ks.length/\bG c.ws r=true/\c.ks.getD r 0=key/\kZ (b_ c 0 c.ks.length) key=some (key,c.vs.getD r 0))\/(oQ c key=(0,6)/\kZ (b_ c 0 c.ks.length) key=none):=by
 have hmo:=vI h;have hF:=qF c.ws c.ks c.ks.length key;have Qc:kC c key=if xA c.ws c.ks c.ks.length key=c.ks.length then (0,6) else ((xA c.ws c.ks c.ks.length key:Int),0):=by rw [kC,if_pos h]
 generalize xA c.ws c.ks c.ks.length key=r at *;have hnone:(∀j,j<c.ks.length->bG c.ws j=true->c.ks.getD j 0≠key)->kZ (b_ c 0 c.ks.length) key=none:=by
  intro hn;rw [kZ,List.find?_eq_none];intro p hp;obtain ⟨j,⟨-,h2,h3⟩,rfl⟩:=tK.1 hp;simpa using hn j h2 h3
 by_cases hr:r=c.ks.length
 . right;rw [if_pos hr] at Qc;refine ⟨by rw [oQ,Qc];rfl,hnone fun j hj hb=> ?_⟩;have:=hF.low j xo hb;omega
 . rw [if_neg hr] at Qc;have hrn:r<c.ks.length:=by have:=hF.le;omega
   obtain ⟨hb,hk⟩:=hF.hit hrn;by_cases hke:c.ks.getD r 0=key
   . left;refine ⟨r,by rw [oQ,Qc];exact (if_pos rfl).trans (if_pos hke),hrn,hb,hke,?_⟩;cases hf:kZ (b_ c 0 c.ks.length) key with
     | none=>
      rw [kZ,List.find?_eq_none] at hf;have:=hf (c.ks.getD r 0,c.vs.getD r 0) (tK.2 ⟨r,⟨by omega,hrn,hb⟩,rfl⟩);exact absurd (beq_iff_eq.2 hke) this
     | some p=>
      have h1:=List.find?_some hf;obtain ⟨j,⟨-,h2,h3⟩,rfl⟩:=tK.1 (List.mem_of_find?_eq_some hf);have hjk:c.ks.getD j 0=key:=by simpa using h1
      have hjr:j=r:=by
       rcases Nat.lt_trichotomy j r with q|q|q
       . have:=hF.low j q h3;omega
       . exact q
       . have:=hmo r j q h2 hb h3;omega
      rw [hjr,hke]
   . right;refine ⟨by rw [oQ,Qc];exact (if_pos rfl).trans (if_neg hke),hnone fun j hj hbj e=> ?_⟩;rcases Nat.lt_trichotomy j r with q|q|q
     . have:=hF.low j q hbj;omega
     . rw [q] at e;exact hke e
     . have:=hmo r j q hj hb hbj;omega
end
section
open Go.RowKit Go.Shelf
attribute [local go_sem] Oper.semAt_some
def sF (l:List Int):List (Array Value):=l.map fun x=> #[.int .i64 x]
theorem xY (l:List Int):(sF l).length=l.length:=by simp [sF]
theorem ET {l:List Int} {k:Nat} (h:k<l.length):(sF l).getD k #[]= #[.int .i64 (l.getD k 0)]:=by
 simp [sF,List.getD_eq_getElem?_getD,List.getElem?_eq_getElem h]
theorem Ea {l:List Int} {k:Nat} (h:k<l.length):l.take (k+1)=l.take k++[l.getD k 0]:=by
 rw [List.take_succ_eq_append_getElem h];simp [List.getD_eq_getElem?_getD,List.getElem?_eq_getElem h]
structure Am (W:World) (b1 b2 b3:Nat) (m lo hi:Nat):Prop where
 n:W.cell? ⟨b1,0,none⟩=some (.int .i64 m)
 lo:W.cell? ⟨b2,0,none⟩=some (.int .i64 lo)
 hi:W.cell? ⟨b3,0,none⟩=some (.int .i64 hi)
theorem Am.below {W W':World} {b1 b2 b3 m lo hi:Nat} (h:Am W b1 b2 b3 m lo hi) (hb:Below W.heap.size W W'):Am W' b1 b2 b3 m lo hi:=
  ⟨(hb.cell (World.block_lt_of_cell? _ _ h.n)).trans h.n,(hb.cell (World.block_lt_of_cell? _ _ h.lo)).trans h.lo,(hb.cell (World.block_lt_of_cell? _ _ h.hi)).trans h.hi⟩
theorem Am.kept {S:Nat->Prop} {W W':World} {b1 b2 b3 m lo hi:Nat} (h:Am W b1 b2 b3 m lo hi) (hk:EF S W W') (s1:S b1) (s2:S b2) (s3:S b3):Am W' b1 b2 b3 m lo hi:=
  ⟨hk.cell (a:=⟨b1,0,none⟩) s1 h.n,hk.cell (a:=⟨b2,0,none⟩) s2 h.lo,hk.cell (a:=⟨b3,0,none⟩) s3 h.hi⟩
theorem GL (m lo hi:Nat) (hlh:lo<=hi) (hhi:hi<=65536) (hm:m<=65536) (S:Nat->Prop) (b1 b2 b3:Nat) (s1:S b1) (s2:S b2) (s3:S b3) (w:World) (hbx:Am w b1 b2 b3 m lo hi):
    Iter Tryz.prog 232 #[.pointer (some ⟨b1,0,none⟩),.pointer (some ⟨b2,0,none⟩),.pointer (some ⟨b3,0,none⟩)] (sF (ints (xO m lo hi))) (EF S) w:=by
 intro l J Jx W hW hJ hJx hY h0;have HY:=hid hY;have HJ:=hid hJ;have F7:=hid (hbx.below hW);have XE:=hid (show (sF (ints (xO m lo hi))).length=m by rw [xY,jD,nZ]);have HGT:=hid (fun k (h:k<m)=>show (sF (ints (xO m lo hi))).getD k #[]= #[.int .i64 (wK m lo hi k:Nat)] by
  rw [ET (by rw [jD,nZ];exact h),vY,kw h])
 have HH0:=hid h0;clear hY hJ hJx hbx h0;generalize sF (ints (xO m lo hi))=xs at *;refine callsIn_of_wp Tryz.func232 rfl trivial ?_ rfl;simp only [Tryz.ntmps232,List.size_toArray,List.length_cons,List.length_nil,Nat.reduceAdd,Nat.reduceSub,Array.replicate_succ,Array.replicate_zero,List.push_toArray,List.append_toArray,List.nil_append,List.cons_append];have q1:=F7.out.n;gi_wp2
 gi_loopg [7] m (fun g iv wr=>∃i:Nat,i+g=m/\iv= .int .i64 i/\Hid (J i wr)/\Hid (Am wr b1 b2 b3 m lo hi))
 case atStart=>exact ⟨0,by omega,rfl,HH0,F7⟩
 case round=>
  obtain ⟨i,hi',rfl,QG,HB⟩:=hrel;clear q1 HH0;by_cases hlt:i<m
  . obtain ⟨q1,q2,q3⟩:=HB.out;have hb1:i*(hi-lo)<=65536*65536:=Nat.mul_le_mul xo xo;obtain ⟨D,hD⟩:∃D:Int,((hi-lo:Nat):Int)=D:=⟨_,rfl⟩
    have hDw:IntKind.i64.wrap ((hi:Int)-lo)=D:=by rw [<-hD];rw [show (hi:Int)-lo=((hi-lo:Nat):Int) by omega];exact IntWalk.i64_in _ xo
    obtain ⟨X,hX⟩:∃X:Int,((i*(hi-lo):Nat):Int)=X:=⟨_,rfl⟩
    have hXw:IntKind.i64.wrap ((i:Int)*D)=X:=by rw [<-hX,<-hD];push_cast;exact IntWalk.i64_in _ (by push_cast at hb1;omega)
    obtain ⟨qn,hqn⟩:∃qn,i*(hi-lo)/m=qn:=⟨_,rfl⟩
    have hqb:qn<=65536*65536:=by rw [<-hqn];exact Nat.le_trans (Nat.div_le_self _ _) hb1
    have hqt:X.tdiv m=(qn:Int):=by rw [<-hX,Int.tdiv_eq_ediv_of_nonneg xo,<-Int.natCast_ediv,hqn]
    have hqw:IntKind.i64.wrap (qn:Int)=qn:=IntWalk.i64_in _ xo;obtain ⟨pl,hpl⟩:∃pl:Int,((wK m lo hi i:Nat):Int)=pl:=⟨_,rfl⟩
    have ai_:IntKind.i64.wrap ((lo:Int)+qn)=pl:=by
     rw [<-hpl,wK,hqn];push_cast
     exact IntWalk.i64_in _ xo
    have hpa:=HGT.out i hlt;rw [hpl] at hpa;have hm0:((m:Int)==0)=false:=by simp;omega
    have hm1:¬(m:Int)=0:=xo;have hm2:¬m=0:=xo;have HI2:=hid hi';clear hD hX hqn hpl hqb hb1 hi';gi_wp2
    refine gX 10 xk (N:=23) rfl xk xk au (fun w'=>∃q,w'=wr.drewN q) (Ext 29) (rO [.is (.func (.yield l) #[] #[]),.is (.int .i64 lo),.is (.int .i64 i),.is (.int .i64 hi),.is (.int .i64 lo),.is (.int .i64 D),.is (.int .i64 X),.is (.int .i64 m),.is (.int .i64 qn),.is (.int .i64 pl)]) (iV _) ⟨1,rfl⟩ ?steps ?fin
    case steps=>
     refine ⟨?o0,?o1,?o2,?o3,?o4,?o5,?o6,?o7,?o8,?o9,trivial⟩<;>intro u a w' ev hJ hd K hK
     case o0=>
      rw [if_pos (bg rfl)];have e0:tg a 0= .func (.yield l) #[] #[]:=ev 0 au;have HK:=hid hK;clear hK ev hd;go_simp;exact HK.out _ _ aS hJ rfl (Ext.refl _ _)
     case o1=>
      rw [if_pos (bg rfl)];have e2:tg a 2= .pointer (some ⟨b2,0,none⟩):=ev 2 au;have g0:=(iw hJ q2)
      have HK:=hid hK;clear hK ev hd;go_simp;exact HK.out _ _ aS hJ rfl (Ext.refl _ _)
     case o2=>
      rw [if_pos (bg rfl)];have e5:tg a 5= .int .i64 i:=ev 5 au;have HK:=hid hK;clear hK ev hd;go_simp;exact HK.out _ _ aS hJ rfl (Ext.refl _ _)
     case o3=>
      rw [if_pos (bg rfl)];have e3:tg a 3= .pointer (some ⟨b3,0,none⟩):=ev 3 au;have g0:=(iw hJ q3)
      have HK:=hid hK;clear hK ev hd;go_simp;exact HK.out _ _ aS hJ rfl (Ext.refl _ _)
     case o4=>
      rw [if_pos (bg rfl)];have e2:tg a 2= .pointer (some ⟨b2,0,none⟩):=ev 2 au;have g0:=(iw hJ q2)
      have HK:=hid hK;clear hK ev hd;go_simp;exact HK.out _ _ aS hJ rfl (Ext.refl _ _)
     case o5=>
      rw [if_pos (bg rfl)];have e13:tg a 13= .int .i64 hi:=(ev 13 au).trans (hd 3 _ xk rfl);have e14:tg a 14= .int .i64 lo:=(ev 14 au).trans (hd 4 _ xk rfl);have HK:=hid hK;clear hK ev hd;go_simp;exact HK.out _ _ aS hJ rfl (Ext.refl _ _)
     case o6=>
      rw [if_pos (bg rfl)];have e12:tg a 12= .int .i64 i:=(ev 12 au).trans (hd 2 _ xk rfl);have e15:tg a 15= .int .i64 D:=(ev 15 au).trans (hd 5 _ xk rfl);have HK:=hid hK;clear hK ev hd;go_simp;exact HK.out _ _ aS hJ rfl (Ext.refl _ _)
     case o7=>
      rw [if_pos (bg rfl)];have e1:tg a 1= .pointer (some ⟨b1,0,none⟩):=ev 1 au;have g0:=(iw hJ q1)
      have HK:=hid hK;clear hK ev hd;go_simp;exact HK.out _ _ aS hJ rfl (Ext.refl _ _)
     case o8=>
      rw [if_pos (bg rfl)];have e16:tg a 16= .int .i64 X:=(ev 16 au).trans (hd 6 _ xk rfl);have e17:tg a 17= .int .i64 m:=(ev 17 au).trans (hd 7 _ xk rfl);have HK:=hid hK;clear hK ev hd;go_simp;exact HK.out _ _ aS hJ rfl (Ext.refl _ _)
     case o9=>
      rw [if_pos (bg rfl)];have e11:tg a 11= .int .i64 lo:=(ev 11 au).trans (hd 1 _ xk rfl);have e18:tg a 18= .int .i64 qn:=(ev 18 au).trans (hd 8 _ xk rfl);have HK:=hid hK;clear hK ev hd;go_simp;exact HK.out _ _ aS hJ rfl (Ext.refl _ _)
    case fin=>
     intro u w3 hJ3 hG;have h10:u 10= .func (.yield l) #[] #[]:=hG 0 _ rfl;have h19:u 19= .int .i64 pl:=hG 9 _ rfl;have Ei:Below wr.heap.size wr w3:=by obtain ⟨q,rfl⟩:=hJ3;exact below_drewN br q
     have IQ:=hid Ei;obtain ⟨fn,tmps,assign,body,hy,hR⟩:=HY.out i w3 (by rw [XE.out];exact hlt) (HJ.out _ _ _ QG.out Ei);rw [hpa] at hy;clear hG hJ3 hpa Ei q1 q2 q3;simp only [aX,kR,dstsOf,List.take_succ_cons,List.take_zero,List.filterMap_cons,List.filterMap_nil,List.contains_cons,List.contains_nil,Nat.reduceBEq,Bool.or_false,Bool.false_or,Bool.or_true,Bool.true_or,if_true,if_false,Bool.false_eq_true,Nat.reduceAdd,Nat.zero_add,List.drop_succ_cons,List.drop_zero,h10,h19];gi_wp2
     refine ⟨rfl,hR.mono ?_⟩;rintro e W3 (⟨rfl,hJ3,hk3⟩ | ⟨rfl,hJx3⟩)
     . have HB3:=hid ((HB.out.below IQ.out).kept hk3 s1 s2 s3);have AY:=hid hJ3;clear hJ3 hk3 hy hR;gi_wp2
       gi_roundg (gk-1)
       case measure=>have:=HI2.out;omega
       case rel=>exact ⟨i+1,by have:=HI2.out;omega,by go_num,AY,HB3⟩
     . have AY:=hid hJx3;clear hJx3 hy hR;gi_wp2
       exact bodyPost_ret (results_none rfl _ _ _) rfl ⟨⟨_,rfl⟩,.inr ⟨i+1,by rw [XE.out];omega,AY.out⟩⟩
  . have him:i=m:=xo;subst him;gi_wp2
    refine bodyPost_end (results_none rfl _ _ _) rfl ⟨⟨_,rfl⟩,.inl ?_⟩;rw [XE.out];exact QG.out
structure aap (l:List Int) (B:Nat) (w:World) (k:Nat) (W:World):Prop where
 own:∃v,W.cell? ⟨B,0,none⟩=some v/\W.ownsRow (B+1) 3 1 v k ((l.take k).map (Value.int .i64))
 fz:W.frozen? ⟨B,0,none⟩=false
 bel:Below B w W
theorem aap.calm {l:List Int} {B M:Nat} {w:World} {k:Nat} {W W':World} (h:aap l B w k W) (hc:Calm M W W') (hB:B<=M):aap l B w k W':=by
 obtain ⟨⟨v,h1,h2⟩,h3,h4⟩:=h;exact ⟨⟨v,hc.cell h1,hc.owns h2⟩,hc.frozen h1 h3,hc.below hB h4⟩
theorem IJ (l:List Int) (hl:l.length<=100000) (gf:Nat) (lb:Array Value) (eg:∀args w,(callFunc gf args).run Tryz.prog w= .ok (.enter gf args) w) (w:World) (hit:Iter Tryz.prog gf lb (sF l) (EF (fun k=>k<w.heap.size)) w):
    Calls Tryz.prog 231 #[.slice none 0 0,.func (.func gf) #[] lb] w (zD w l):=by
 have IT:=hid (fun W (hb:Below w.heap.size w W)=>hit.later hb);have Ap:=hid (xY l);have HPG:=hid (fun k (h:k<l.length)=>ET h);clear hit;refine dM Tryz.func231 rfl ?_;simp only [Tryz.ntmps231,List.size_toArray,List.length_cons,List.length_nil,Nat.reduceAdd,Nat.reduceSub,Array.replicate_succ,Array.replicate_zero,List.push_toArray,List.append_toArray,List.nil_append,List.cons_append];go_wp2
 refine qj (xs:=sF l) (Kp:=EF (fun k=>k<w.heap.size)) rfl eg
   (IT.out _ (br.alloc (Nat.le_refl _) _)) br (fun h k=>fun i hi=>(k i hi).trans (h i hi)) ?kb ?ps
   (aap l w.heap.size w) (fun _ _=>False) ?hI (fun _ _ _ h _=>h) ?h0 ?round ?done (fun _ _ _ _ h _=>h.elim)
 case kb=>
  intro W q o o' hl _ _ k hk;simp at hl;exact World.putObj_heap_other xo
 case ps=>
  intro x hx;simp only [sF,List.mem_map] at hx;obtain ⟨k,_,rfl⟩:=hx;rfl
 case hI=>
  intro k W W' h hc;exact h.calm hc ax
 case h0=>
  exact ⟨⟨_,by (exact dL),World.ownsRow_nil _ _ _ _⟩,by (exact dL),by (exact aH)⟩
 case round=>
  intro q k W hq hk hi;rw [Ap.out] at hk;rw [HPG.out k hk];have htk:=hid (Ea hk);generalize l.getD k 0=x at *;obtain ⟨⟨v,hv,ho⟩,hfz,hbel⟩:=hi;have hzb:w.heap.size<W.heap.size:=World.block_lt_of_cell? _ _ hv;obtain ⟨ao,co,rfl,-⟩:=aG ho;have hlt1:(l.take k).length=k:=by rw [List.length_take];omega
  gi_wp2
  have hab:Below W.heap.size W W:=Below.refl _ _;refine ⟨jC hab,fun i hi=>hab.block i xo,?_⟩;intro W2 hc;have hv2:W2.cell? ⟨w.heap.size,0,none⟩=some (.slice ao k co):=hc.cell ((hab.cell (p:=⟨w.heap.size,0,none⟩) hzb).trans hv);have Wi:W2.frozen? ⟨w.heap.size,0,none⟩=false:=hc.frozen ((hab.cell (p:=⟨w.heap.size,0,none⟩) hzb).trans hv) ((hab.frozen (p:=⟨w.heap.size,0,none⟩) hzb).trans hfz);have ho2:=hc.owns (ay ho hab);have qZ:Below w.heap.size w W2:=hc.below ax hbel;have hz2:=qZ.size;have yA:=hid ho2;have HB2:=hid qZ;have hzw:w.heap.size<W2.heap.size:=World.block_lt_of_cell? _ _ hv2;clear ho hbel hab hc ho2 qZ hv hfz
  gi_wp2_with (gi_at_builtin;refine wpListIn_append_own _ rfl (.tmp 8) (.tmp 10) 26 rfl (w.heap.size+1) 3 _ (.int .i64 0) 1 8 Tryz.underlying26 (info_parts qB).choose_spec.1 (info_parts qB).choose_spec.2.1 (info_parts qB).choose_spec.2.2.1 (info_parts qB).choose_spec.2.2.2 rfl au _ k _ rfl (yA.out.alloc (.cells #[.int .i64 x] 3)) ⟨W2.heap.size,0,none⟩ 1 1 [.int .i64 x] rfl rfl (oq _ [.int .i64 x] _ _ rfl _ rfl) (by simp [Value.oneCell']) (by unfold maxLen;omega) xo (by simp;omega) ?_;intro v' w3 ho3 hg3 _
               obtain ⟨a3,c3,rfl,-⟩:=aG ho3;have Dl:some w.heap.size≠(Value.slice ao k co).ownBlock:=fun e=>(by have:=(yA.out.lt _ e.symm).1;omega)
               have Dt:=hg3.block w.heap.size (by simp;omega) Dl;have hv3:w3.cell? ⟨w.heap.size,0,none⟩=some (.slice ao k co):=(World.cell?_of_block (a:=⟨w.heap.size,0,none⟩) Dt).trans ((((Below.refl _ W2).alloc (Nat.le_refl _) _).cell (p:=⟨w.heap.size,0,none⟩) hzw).trans hv2);have SG:w3.frozen? ⟨w.heap.size,0,none⟩=false:=(World.frozen?_of_block (a:=⟨w.heap.size,0,none⟩) Dt).trans ((((Below.refl _ W2).alloc (Nat.le_refl _) _).frozen (p:=⟨w.heap.size,0,none⟩) hzw).trans Wi);have Ua:=hid ho3;have Un:=hid hg3;clear ho3 hg3 Dt Dl)
  have hB3:Below w.heap.size w w3:=(HB2.out.alloc xo (.cells #[.int .i64 x] 3)).grown Un.out (by simp;omega) (fun z hz=>by have:=(yA.out.lt _ hz).1;omega);have hK3:KeepsOthers W2 w3:=(jC (((Below.refl _ W2).alloc (Nat.le_refl _) _))).trans (KeepsOthers.of_grownBy Un.out (uH (yA.out.alloc _)));refine ⟨hK3.trans (KeepsOthers.setCell _ _ _),fun i hi=> ?_,⟨⟨_,World.cell?_setCell_same _ _ _ hv3,?_⟩,?_,hB3.setCell (Nat.le_refl _) _⟩⟩
  . rw [Below.heap_setCell _ _ _ _ (show i≠w.heap.size by omega),Un.out.block i (by simp;omega) (fun e=>by have:=(yA.out.lt _ e.symm).1;omega)];exact ((Below.refl _ W2).alloc (Nat.le_refl _) _).block i xo
  . rw [htk.out,List.map_append];exact af Ua.out fun z hz=>Below.heap_setCell _ _ _ _ (by have:=(Ua.out.lt _ hz).1;show z≠w.heap.size;omega)
  . rw [World.frozen?_setCell];exact SG
 case done=>
  intro D W hD hi hK;obtain ⟨⟨v,hv,ho⟩,hfz,hbel⟩:=hi;rw [Ap.out,List.take_length] at ho;obtain ⟨ao,co,rfl,-⟩:=aG ho;have HO:=hid ho;have HB:=hid hbel;clear ho hbel;go_wp2
  simp at hD;refine jo hK (results_tmp rfl _ _ _) ⟨_,rfl,?_,?_⟩
  . exact az ((Calm.putObj (B:=0) _ (Nat.zero_le _) hK rfl).owns HO.out) xo
  . exact (Calm.putObj (B:=w.heap.size) _ xo hK rfl).below (Nat.le_refl _) HB.out
theorem EG (l:List Int) (hl:l.length<=100000) (gf:Nat) (lb:Array Value) (eg:∀args w,(callFunc gf args).run Tryz.prog w= .ok (.enter gf args) w) (w:World) (hit:Iter Tryz.prog gf lb (sF l) (EF (fun k=>k<w.heap.size)) w):
    Calls Tryz.prog 228 #[.func (.func gf) #[] lb] w (zD w l):=by
 have A:=hid (IJ l hl gf lb eg w hit);clear hit;go_enter Tryz.func228,Tryz.ntmps228
 go_wp2_with fail
 refine A.out.mono ?_;rintro e w1 ⟨v,rfl,ho,hb⟩;have HO:=hid ho;have HB:=hid hb;clear ho hb;go_wp2
 go_ret
 exact ⟨v,rfl,HO.out,HB.out⟩
theorem MK (m lo hi:Int) (w:World):
    Calls Tryz.prog 229 #[.int .i64 m,.int .i64 lo,.int .i64 hi] w fun e w'=>e= .returned (.func (.func 232) #[] #[.pointer (some ⟨w.heap.size,0,none⟩),.pointer (some ⟨w.heap.size+1,0,none⟩),.pointer (some ⟨w.heap.size+2,0,none⟩)])/\
      w'=((w.alloc (.cells #[.int .i64 m] 3)).alloc (.cells #[.int .i64 lo] 3)).alloc (.cells #[.int .i64 hi] 3):=by
 go_enter Tryz.func229,Tryz.ntmps229
 go_wp2
 go_ret
 exact ⟨rfl,rfl⟩
theorem Ya (m lo hi:Nat) (hlh:lo<=hi) (hhi:hi<=65536) (hm:m<=hi-lo) (w:World):
    Calls Tryz.prog 227 #[.int .i64 m,.int .i64 lo,.int .i64 hi] w fun e w'=>e= .returned (.bool true)/\w=w':=by
 have hw:IntKind.i64.wrap ((hi:Int)-lo)=(hi:Int)-lo:=IntWalk.i64_in _ xo;have hg:decide ((m:Int)<=(hi:Int)-lo)=true:=by simp;omega
 go_enter Tryz.func227,Tryz.ntmps227
 go_wp2
 go_ret
 exact ⟨rfl,rfl⟩
def QK (w:World) (l:List Int) (x:Value) (e:Ending) (w':World):Prop:=
  ∃v,e= .returned (.tuple #[v,x])/\w'.ownsRow w.heap.size 3 1 v l.length (l.map (Value.int .i64))/\Below w.heap.size w w'
theorem TR (m lo hi:Nat) (hlh:lo<=hi) (hhi:hi<=65536) (hm:m<=hi-lo) (w:World):
    Calls Tryz.prog 219 #[.int .i64 m,.int .i64 lo,.int .i64 hi] w (QK w (ints (xO m lo hi)) (.int .i64 0)):=by
 have MY:=hid (fun w=>Ya m lo hi hlh hhi hm w);have PS:=hid (fun w=>MK m lo hi w);have HL:=hid (show (ints (xO m lo hi)).length<=100000 by rw [jD,nZ];omega);have IT:=hid (fun W hbx=>GL m lo hi hlh hhi xo (fun k=>k<w.heap.size+3) w.heap.size (w.heap.size+1) (w.heap.size+2) xo xo xo W hbx);generalize ints (xO m lo hi)=L at *;go_enter Tryz.func219,Tryz.ntmps219
 go_wp2_with (first
   | (go_at_call 227;refine (MY.out _).mono ?_;rintro e w' ⟨rfl,rfl⟩)
   | (go_at_call 229;refine (PS.out _).mono ?_;rintro e w' ⟨rfl,rfl⟩)
   | (go_at_call 228;fail))
 have hB:Below w.heap.size w (((w.alloc (.cells #[.int .i64 m] 3)).alloc (.cells #[.int .i64 lo] 3)).alloc (.cells #[.int .i64 hi] 3)):=aH;have hI:Iter Tryz.prog 232 #[.pointer (some ⟨w.heap.size,0,none⟩),.pointer (some ⟨w.heap.size+1,0,none⟩),.pointer (some ⟨w.heap.size+2,0,none⟩)] (sF L) (EF (fun k=>k<w.heap.size+3)) (((w.alloc (.cells #[.int .i64 m] 3)).alloc (.cells #[.int .i64 lo] 3)).alloc (.cells #[.int .i64 hi] 3)):=
   IT.out _ ⟨by (exact dL),by (exact dL),by (exact dL)⟩
 have hz:(((w.alloc (.cells #[.int .i64 m] 3)).alloc (.cells #[.int .i64 lo] 3)).alloc (.cells #[.int .i64 hi] 3)).heap.size=w.heap.size+3:=by simp
 generalize (((w.alloc (.cells #[.int .i64 m] 3)).alloc (.cells #[.int .i64 lo] 3)).alloc (.cells #[.int .i64 hi] 3))=w1 at *;rw [<-hz] at hI;have CO:=hid (EG L HL.out 232 _ (fun args w=>rfl) w1 hI);have HB:=hid hB;clear hI hB IT;go_wp2_with fail
 refine CO.out.mono ?_;rintro e w2 ⟨v,rfl,ho,hb⟩;have HO:=hid (az ho (by omega:w.heap.size<=w1.heap.size));have HB2:=xv hb HB;clear ho hb;go_wp2
 go_ret2
 exact ⟨v,rfl,HO.out,HB2.out⟩
theorem RI (w:World) (ai:Int) (wa ka va ca:Option Addr) (wc kc vc cc lw n lv lc:Nat) (laid:Int) (lo hi m:Nat) (ps:List Int) (la:Option Addr) (pl:Nat) (d:aW) (hps:ps.length=m)
    (CK:Hid (∀W,Below w.heap.size w W->Calls Tryz.prog 95 #[.agg #[.int .i64 ai,.slice wa lw wc,.slice ka n kc,.slice va lv vc,.slice ca lc cc,.int .u64 laid]] W (aC W (.int .i64 0))))
    (PL:Hid (∀W,Below w.heap.size w W->Calls Tryz.prog 219 #[.int .i64 m,.int .i64 lo,.int .i64 hi] W (QK W ps (.int .i64 0))))
    (FI:Hid (∀W pa pc,Below w.heap.size w W->aQ .i64 W pa ps->Calls Tryz.prog 220 #[.agg #[.int .i64 ai,.slice wa lw wc,.slice ka n kc,.slice va lv vc,.slice ca lc cc,.int .u64 laid],.int .i64 lo,.int .i64 hi,.slice pa m pc,.slice la m pl] W (dm W d (.int .i64 0)))):
    Calls Tryz.prog 183 #[.agg #[.int .i64 ai,.slice wa lw wc,.slice ka n kc,.slice va lv vc,.slice ca lc cc,.int .u64 laid],.int .i64 lo,.int .i64 hi,.slice la m pl] w (dm w d (.int .i64 0)):=by
 have Ap:=hid hps;clear hps;go_enter Tryz.func183,Tryz.ntmps183
 go_wp2
 refine bZ 0 (fun _ _ _=>False) rfl (fun _ _ _ h=>h.elim) ?_;intro H hH nS;go_wp2_with fail
 refine (CK.out _ aH).mono ?_;rintro e w1 ⟨rfl,hb1⟩;have aA:=hb1.size;try simp only [World.size_alloc,World.size_setCell] at aA
 have hh:=jl hb1 (jI (jA (b:=w.heap.size) ax));obtain ⟨aO,aN,aK,aU,aT,aV⟩:=hh;have bF:=aP hb1 (dB (bV (b:=w.heap.size) ax));have hh:=jl hb1 (jA (b:=w.heap.size+1) ax);obtain ⟨a_,aZ,bf,dh,df,cZ⟩:=hh;have hh:=Qs hb1 (bV (b:=w.heap.size+1) ax) (zB (b:=w.heap.size+1) ax);obtain ⟨bQ,bP,bT,dQ,dP,dO⟩:=hh;have bW:=aP hb1 (bV (b:=w.heap.size+1) ax);have hB1:Below w.heap.size w w1:=aH;have HB1:=hid hB1;clear hb1 hB1;go_wp2_with fail
 refine (PL.out _ HB1.out).mono ?_;rintro e w2 ⟨v,rfl,ho,hb2⟩;have fH:=hb2.size;simp (disch:=omega) only [jK hb2,rX hb2] at aO aN aK aU aT aV a_ aZ bf dh df cZ bQ bP bT dQ dP dO;replace bF:=aP hb2 bF;replace bW:=aP hb2 bW;have HB2:=xv hb2 HB1;rw [Ap.out] at ho;obtain ⟨pa,pc,rfl,hi2,-⟩:=ak ho;have FC:=hid (FI.out w2 pa pc HB2.out hi2);have hz2:=bW;clear hb2 ho hi2;go_wp2_with fail
 refine (FC.out).mono ?_;rintro e w3 ⟨v1,v2,v3,v4,rfl,p1,p2,p3,p4,hb3⟩;have kD:=hb3.size;simp (disch:=omega) only [jK hb3,rX hb3] at aO aN aK aU aT aV a_ aZ bf dh df cZ bQ bP bT dQ dP dO;replace bF:=aP hb3 bF;replace bW:=aP hb3 bW;have HB3:=xv hb3 HB2;obtain ⟨a1,k1,rfl,-⟩:=aG p1;obtain ⟨a2,k2,rfl,-⟩:=aG p2;obtain ⟨a3,k3,rfl,-⟩:=aG p3;obtain ⟨a4,k4,rfl,-⟩:=aG p4;have Ls:=hid p1;have HP2:=hid p2;have Iw:=hid p3;have Lr:=hid p4;clear p1 p2 p3 p4;clear hb3;go_upto_region 7 with (fail)
 have hsx:=tH (x:= .int .i64 d.ai) (y:= .slice a1 d.ws.length k1) (z:= .slice a2 d.ks.length k2) (p:= .slice a3 d.vs.length k3) (q:= .slice a4 d.cs.length k4) (r:= .int .u64 d.laid) a_ aZ bf dh df cZ;have hfz:∀a:Addr,((((((w3.setCell ⟨w.heap.size+1,0,none⟩ (.int .i64 d.ai)).setCell ⟨w.heap.size+1,1,none⟩ (.slice a1 d.ws.length k1)).setCell ⟨w.heap.size+1,2,none⟩ (.slice a2 d.ks.length k2)).setCell ⟨w.heap.size+1,3,none⟩ (.slice a3 d.vs.length k3)).setCell ⟨w.heap.size+1,4,none⟩ (.slice a4 d.cs.length k4)).setCell ⟨w.heap.size+1,5,none⟩ (.int .u64 d.laid)).frozen? a=w3.frozen? a:=fun a=>by
  rw [World.frozen?_setCell,World.frozen?_setCell,World.frozen?_setCell,World.frozen?_setCell,World.frozen?_setCell,World.frozen?_setCell]
 have aai:Hid (∀q,q≠w.heap.size+1->((((((w3.setCell ⟨w.heap.size+1,0,none⟩ (.int .i64 d.ai)).setCell ⟨w.heap.size+1,1,none⟩ (.slice a1 d.ws.length k1)).setCell ⟨w.heap.size+1,2,none⟩ (.slice a2 d.ks.length k2)).setCell ⟨w.heap.size+1,3,none⟩ (.slice a3 d.vs.length k3)).setCell ⟨w.heap.size+1,4,none⟩ (.slice a4 d.cs.length k4)).setCell ⟨w.heap.size+1,5,none⟩ (.int .u64 d.laid)).heap[q]? =w3.heap[q]?):=hid fun q hq=>by
  rw [ae _ _ _ hq,ae _ _ _ hq,ae _ _ _ hq,ae _ _ _ hq,ae _ _ _ hq,ae _ _ _ hq]
 have aiS:((((((w3.setCell ⟨w.heap.size+1,0,none⟩ (.int .i64 d.ai)).setCell ⟨w.heap.size+1,1,none⟩ (.slice a1 d.ws.length k1)).setCell ⟨w.heap.size+1,2,none⟩ (.slice a2 d.ks.length k2)).setCell ⟨w.heap.size+1,3,none⟩ (.slice a3 d.vs.length k3)).setCell ⟨w.heap.size+1,4,none⟩ (.slice a4 d.cs.length k4)).setCell ⟨w.heap.size+1,5,none⟩ (.int .u64 d.laid)).heap.size=w3.heap.size:=by simp
 have agQ:Hid (Below w.heap.size w ((((((w3.setCell ⟨w.heap.size+1,0,none⟩ (.int .i64 d.ai)).setCell ⟨w.heap.size+1,1,none⟩ (.slice a1 d.ws.length k1)).setCell ⟨w.heap.size+1,2,none⟩ (.slice a2 d.ks.length k2)).setCell ⟨w.heap.size+1,3,none⟩ (.slice a3 d.vs.length k3)).setCell ⟨w.heap.size+1,4,none⟩ (.slice a4 d.cs.length k4)).setCell ⟨w.heap.size+1,5,none⟩ (.int .u64 d.laid))):=hid ((((((HB3.out.setCell dG _).setCell dG _).setCell dG _).setCell dG _).setCell dG _).setCell dG _);generalize ((((((w3.setCell ⟨w.heap.size+1,0,none⟩ (.int .i64 d.ai)).setCell ⟨w.heap.size+1,1,none⟩ (.slice a1 d.ws.length k1)).setCell ⟨w.heap.size+1,2,none⟩ (.slice a2 d.ks.length k2)).setCell ⟨w.heap.size+1,3,none⟩ (.slice a3 d.vs.length k3)).setCell ⟨w.heap.size+1,4,none⟩ (.slice a4 d.cs.length k4)).setCell ⟨w.heap.size+1,5,none⟩ (.int .u64 d.laid))=w4 at *;have s0:=hsx 0 _ rfl;have s1:=hsx 1 _ rfl;have s2:=hsx 2 _ rfl;have s3:=hsx 3 _ rfl;have s4:=hsx 4 _ rfl;have s5:=hsx 5 _ rfl;replace bQ:=(hfz _).trans bQ;replace bP:=(hfz _).trans bP;replace bT:=(hfz _).trans bT;replace dQ:=(hfz _).trans dQ;replace dP:=(hfz _).trans dP;replace dO:=(hfz _).trans dO;clear hsx hfz a_ aZ bf dh df cZ;go_wp2
 simp only [Exit.jump];refine bodyPost_ret (aF rfl rfl (ag _ Tryz.underlying29 rfl xk (tH s0 s1 s2 s3 s4 s5))) rfl ⟨_,_,_,_,rfl,?_,?_,?_,?_,?_⟩
 . exact az (af Ls.out fun j hj=>(by
     have h9:=(Ls.out.lt j hj).1;rw [ae _ _ _ dG,ae _ _ _ dG,ae _ _ _ dG,ae _ _ _ dG,ae _ _ _ dG,ae _ _ _ dG];exact aai.out _ xo)) xo
 . exact az (af HP2.out fun j hj=>(by
     have h9:=(HP2.out.lt j hj).1;rw [ae _ _ _ dG,ae _ _ _ dG,ae _ _ _ dG,ae _ _ _ dG,ae _ _ _ dG,ae _ _ _ dG];exact aai.out _ xo)) xo
 . exact az (af Iw.out fun j hj=>(by
     have h9:=(Iw.out.lt j hj).1;rw [ae _ _ _ dG,ae _ _ _ dG,ae _ _ _ dG,ae _ _ _ dG,ae _ _ _ dG,ae _ _ _ dG];exact aai.out _ xo)) xo
 . exact az (af Lr.out fun j hj=>(by
     have h9:=(Lr.out.lt j hj).1;rw [ae _ _ _ dG,ae _ _ _ dG,ae _ _ _ dG,ae _ _ _ dG,ae _ _ _ dG,ae _ _ _ dG];exact aai.out _ xo)) xo
 . exact (((((agQ.out.setCell dG _).setCell dG _).setCell dG _).setCell dG _).setCell dG _).setCell dG _
theorem TV (w:World) (ai:Int) (wa ka va ca:Option Addr) (wc kc vc cc lw n lv lc:Nat) (laid:Int) (size m:Nat) (la:Option Addr) (pl:Nat) (z d:aW) (hzu:fB z.ws)
    (CK:Hid (∀W,Below w.heap.size w W->Calls Tryz.prog 95 #[.agg #[.int .i64 ai,.slice wa lw wc,.slice ka n kc,.slice va lv vc,.slice ca lc cc,.int .u64 laid]] W (aC W (.int .i64 0))))
    (NW:Hid (∀W,Below w.heap.size w W->Calls Tryz.prog 184 #[.int .i64 ai,.int .i64 size] W (dm W z (.int .i64 0))))
    (OV:Hid (∀W sa,Below w.heap.size w W->iy W ⟨z.ai,z.ws,z.ks,z.vs,z.cs,laid⟩ sa->(sa.wa=none->sa.wc=0)->(sa.ka=none->sa.kc=0)->(sa.va=none->sa.vc=0)->(sa.ca=none->sa.cc=0)->Calls Tryz.prog 183 #[jB ⟨z.ai,z.ws,z.ks,z.vs,z.cs,laid⟩ sa,.int .i64 0,.int .i64 size,.slice la m pl] W (dm W d (.int .i64 0)))):
    Calls Tryz.prog 120 #[.agg #[.int .i64 ai,.slice wa lw wc,.slice ka n kc,.slice va lv vc,.slice ca lc cc,.int .u64 laid],.int .i64 size,.slice la m pl] w (dm w d (.int .i64 0)):=by
 go_enter Tryz.func120,Tryz.ntmps120
 go_wp2_with fail
 refine (CK.out _ aH).mono ?_;rintro e w0 ⟨rfl,hb0⟩;have adK:=hb0.size;try simp only [World.size_alloc,World.size_setCell] at adK
 have hh:=jl hb0 (jI (jA (b:=w.heap.size) ax));obtain ⟨aO,aN,aK,aU,aT,aV⟩:=hh;have bF:=aP hb0 (dB (bV (b:=w.heap.size) ax));have hh:=jl hb0 (jA (b:=w.heap.size+1) ax);obtain ⟨a_,aZ,bf,dh,df,cZ⟩:=hh;have hh:=Qs hb0 (bV (b:=w.heap.size+1) ax) (zB (b:=w.heap.size+1) ax);obtain ⟨bQ,bP,bT,dQ,dP,dO⟩:=hh;have bW:=aP hb0 (bV (b:=w.heap.size+1) ax);have hB0:Below w.heap.size w w0:=aH;have HB0:=hid hB0;clear hb0 hB0;go_wp2_with fail
 refine (NW.out _ HB0.out).mono ?_;rintro e w1 ⟨v1,v2,v3,v4,rfl,p1,p2,p3,p4,hb1⟩;have aA:=hb1.size;simp (disch:=omega) only [jK hb1,rX hb1] at *;replace bF:=aP hb1 bF;replace bW:=aP hb1 bW;obtain ⟨a1,k1,rfl,i1,-,y1,-,-⟩:=ak p1;obtain ⟨a2,k2,rfl,i2,-,y2,-,-⟩:=ak p2;obtain ⟨a3,k3,rfl,i3,-,y3,-,-⟩:=ak p3;obtain ⟨a4,k4,rfl,i4,-,y4,-,-⟩:=ak p4;have HI:=hid (show iy w1 ⟨z.ai,z.ws,z.ks,z.vs,z.cs,laid⟩ ⟨a1,a2,a3,a4,k1,k2,k3,k4⟩ from ⟨i1,i2,i3,i4,hzu⟩);have HY:=hid (And.intro y1 (And.intro y2 (And.intro y3 y4)));have HB1:=xv hb1 HB0;clear p1 p2 p3 p4 i1 i2 i3 i4 y1 y2 y3 y4 hb1 hzu;go_upto_region 8 with (fail)
 generalize hw2:w1.alloc _=w2;have hh:=Dy hw2 (jI (⟨aO,aN,aK,aU,aT,aV⟩));clear aO aN aK aU aT aV;obtain ⟨aO,aN,aK,aU,aT,aV⟩:=hh;replace bF:=kT hw2 (dB (bF));have hh:=Dy hw2 (jI (⟨a_,aZ,bf,dh,df,cZ⟩));clear a_ aZ bf dh df cZ;obtain ⟨a_,aZ,bf,dh,df,cZ⟩:=hh;have hh:=ef6 hw2 (La bW ⟨bQ,bP,bT,dQ,dP,dO⟩);clear bQ bP bT dQ dP dO;obtain ⟨bQ,bP,bT,dQ,dP,dO⟩:=hh;replace bW:=kT hw2 (dB (bW));have hh:=Dy hw2 (jA (b:=w1.heap.size) ax);obtain ⟨agE,agD,agC,agB,agA,agz⟩:=hh;have z_o:=kT hw2 (bV (b:=w1.heap.size) ax);have hb2:Below w1.heap.size w1 w2:=by rw [<-hw2];exact br.alloc (Nat.le_refl _) _
 have HB2:=xv hb2 HB1;have HC:=hid (OV.out w2 ⟨a1,a2,a3,a4,k1,k2,k3,k4⟩ HB2.out (HI.out.below hb2) (fun e=>(HY.out.1 e).2) (fun e=>(HY.out.2.1 e).2) (fun e=>(HY.out.2.2.1 e).2) (fun e=>(HY.out.2.2.2 e).2));have hz2:=HB2.out.size;have ai0:=bW;clear hw2 hb2;dsimp only [jB] at HC;go_wp2_with fail
 refine HC.out.mono ?_;rintro e w3 ⟨v1,v2,v3,v4,rfl,p1,p2,p3,p4,hb3⟩;have kD:=hb3.size;simp (disch:=omega) only [jK hb3,rX hb3] at *;replace bF:=aP hb3 bF;replace bW:=aP hb3 bW;replace z_o:=aP hb3 z_o;have HB3:=hid (aj hb3 HB2.out hz2);obtain ⟨x1,y1,rfl,-⟩:=aG p1;obtain ⟨x2,y2,rfl,-⟩:=aG p2;obtain ⟨x3,y3,rfl,-⟩:=aG p3;obtain ⟨x4,y4,rfl,-⟩:=aG p4;have Ls:=hid p1;have HP2:=hid p2;have Iw:=hid p3;have Lr:=hid p4;clear p1 p2 p3 p4;clear hb3;go_wp2
 have HQ:Hid (∀q,q≠w.heap.size+1->((((((w3.setCell ⟨w.heap.size+1,0,none⟩ (.int .i64 d.ai)).setCell ⟨w.heap.size+1,1,none⟩ (.slice x1 d.ws.length y1)).setCell ⟨w.heap.size+1,2,none⟩ (.slice x2 d.ks.length y2)).setCell ⟨w.heap.size+1,3,none⟩ (.slice x3 d.vs.length y3)).setCell ⟨w.heap.size+1,4,none⟩ (.slice x4 d.cs.length y4)).setCell ⟨w.heap.size+1,5,none⟩ (.int .u64 d.laid)).heap[q]? =w3.heap[q]?):=hid fun q hq=>by
  rw [ae _ _ _ hq,ae _ _ _ hq,ae _ _ _ hq,ae _ _ _ hq,ae _ _ _ hq,ae _ _ _ hq]
 refine bodyPost_ret (aF rfl rfl (ag _ Tryz.underlying29 rfl xk (tH a_ aZ bf dh df cZ))) rfl ⟨_,_,_,_,rfl,?_,?_,?_,?_,?_⟩
 . exact az (af Ls.out fun j hj=>HQ.out _ (by have:=(Ls.out.lt j hj).1;omega)) xo
 . exact az (af HP2.out fun j hj=>HQ.out _ (by have:=(HP2.out.lt j hj).1;omega)) xo
 . exact az (af Iw.out fun j hj=>HQ.out _ (by have:=(Iw.out.lt j hj).1;omega)) xo
 . exact az (af Lr.out fun j hj=>HQ.out _ (by have:=(Lr.out.lt j hj).1;omega)) xo
 . exact (((((HB3.out.setCell dG _).setCell dG _).setCell dG _).setCell dG _).setCell dG _).setCell dG _
end
section
open Go.RowKit
structure yC (B:Nat) (W:World) (b g1 g2 g3 g4 k1 k2 k3 k4 lw n lc:Nat) (c:aW):Prop where
 c0:W.cell? ⟨b,0,none⟩=some (.int .i64 c.ai)
 c1:W.cell? ⟨b,1,none⟩=some (.slice (some ⟨g1,0,none⟩) lw k1)
 c2:W.cell? ⟨b,2,none⟩=some (.slice (some ⟨g2,0,none⟩) n k2)
 c3:W.cell? ⟨b,3,none⟩=some (.slice (some ⟨g3,0,none⟩) n k3)
 c4:W.cell? ⟨b,4,none⟩=some (.slice (some ⟨g4,0,none⟩) lc k4)
 c5:W.cell? ⟨b,5,none⟩=some (.int .u64 c.laid)
 f1:W.frozen? ⟨b,1,none⟩=false
 f5:W.frozen? ⟨b,5,none⟩=false
 o1:W.ownsRow B 27 1 (.slice (some ⟨g1,0,none⟩) lw k1) lw (c.ws.map (Value.int .u64))
 o2:W.ownsRow B 2 1 (.slice (some ⟨g2,0,none⟩) n k2) n (c.ks.map (Value.int .i64))
 o3:W.ownsRow B 2 1 (.slice (some ⟨g3,0,none⟩) n k3) n (c.vs.map (Value.int .i64))
 o4:W.ownsRow B 3 1 (.slice (some ⟨g4,0,none⟩) lc k4) lc (c.cs.map (Value.int .i64))
 bB:b<B
 n23:g2≠g3
theorem xR {w:World} {B g g' n n' k k':Nat} {e e':TypeId} {xs xs':List Value} (ha:w.ownsRow B e 1 (.slice (some ⟨g,0,none⟩) n k) n xs) (hb:w.ownsRow B e' 1 (.slice (some ⟨g',0,none⟩) n' k') n' xs') (hc:e≠e'):g≠g':=by
 rcases kQ ha hb hc with h|h
 . cases h
 . intro hgg;exact h (by subst hgg;rfl)
section
variable {B b g1 g2 g3 g4 k1 k2 k3 k4 lw n lc:Nat} {W W':World} {c:aW}
theorem yC.nums (h:yC B W b g1 g2 g3 g4 k1 k2 k3 k4 lw n lc c):B<=g1/\B<=g2/\B<=g3/\B<=g4/\g1<W.heap.size/\g2<W.heap.size/\g3<W.heap.size/\g4<W.heap.size/\g1≠g2/\g1≠g3/\g1≠g4/\g2≠g4/\g3≠g4/\b<W.heap.size:=
  ⟨(h.o1.lt g1 rfl).1,(h.o2.lt g2 rfl).1,(h.o3.lt g3 rfl).1,(h.o4.lt g4 rfl).1,(h.o1.lt g1 rfl).2,(h.o2.lt g2 rfl).2,(h.o3.lt g3 rfl).2,(h.o4.lt g4 rfl).2,xR h.o1 h.o2 au,xR h.o1 h.o3 au,xR h.o1 h.o4 au,xR h.o2 h.o4 au,xR h.o3 h.o4 au,World.block_lt_of_cell? _ _ h.c0⟩
theorem yC.heap (h:yC B W b g1 g2 g3 g4 k1 k2 k3 k4 lw n lc c) (hb:W'.heap[b]? =W.heap[b]?) (h1:W'.heap[g1]? =W.heap[g1]?) (h2:W'.heap[g2]? =W.heap[g2]?) (h3:W'.heap[g3]? =W.heap[g3]?) (h4:W'.heap[g4]? =W.heap[g4]?):yC B W' b g1 g2 g3 g4 k1 k2 k3 k4 lw n lc c:=
  ⟨(World.cell?_of_block (a:=⟨b,0,none⟩) hb).trans h.c0,(World.cell?_of_block (a:=⟨b,1,none⟩) hb).trans h.c1,(World.cell?_of_block (a:=⟨b,2,none⟩) hb).trans h.c2,(World.cell?_of_block (a:=⟨b,3,none⟩) hb).trans h.c3,(World.cell?_of_block (a:=⟨b,4,none⟩) hb).trans h.c4,(World.cell?_of_block (a:=⟨b,5,none⟩) hb).trans h.c5,
    (World.frozen?_of_block (a:=⟨b,1,none⟩) hb).trans h.f1,(World.frozen?_of_block (a:=⟨b,5,none⟩) hb).trans h.f5,
    af h.o1 fun j hj=>by cases hj;exact h1,af h.o2 fun j hj=>by cases hj;exact h2,af h.o3 fun j hj=>by cases hj;exact h3,af h.o4 fun j hj=>by cases hj;exact h4,h.bB,h.n23⟩
theorem yC.below (h:yC B W b g1 g2 g3 g4 k1 k2 k3 k4 lw n lc c) (hb:Below W.heap.size W W'):yC B W' b g1 g2 g3 g4 k1 k2 k3 k4 lw n lc c:=by
 have q:=h.nums;exact h.heap (hb.block _ xo) (hb.block _ xo) (hb.block _ xo) (hb.block _ xo) (hb.block _ xo)
theorem yC.drew (h:yC B W b g1 g2 g3 g4 k1 k2 k3 k4 lw n lc c):yC B W.drew b g1 g2 g3 g4 k1 k2 k3 k4 lw n lc c:=h.heap rfl rfl rfl rfl rfl
theorem yC.Gm (h:yC B W b g1 g2 g3 g4 k1 k2 k3 k4 lw n lc c) (y:Int):yC B (W.setCell ⟨b,5,none⟩ (.int .u64 y)) b g1 g2 g3 g4 k1 k2 k3 k4 lw n lc ⟨c.ai,c.ws,c.ks,c.vs,c.cs,y⟩:=by
 have q:=h.nums;have hbB:=h.bB;have hk:∀z,z≠b->(W.setCell ⟨b,5,none⟩ (.int .u64 y)).heap[z]? =W.heap[z]? :=fun z hz=>ae _ _ _ hz
 exact ⟨aB ax h.c0,aB ax h.c1,aB ax h.c2,aB ax h.c3,aB ax h.c4,World.cell?_setCell_same _ _ _ h.c5,
   by rw [World.frozen?_setCell];exact h.f1,by rw [World.frozen?_setCell];exact h.f5,
   af h.o1 fun j hj=>by cases hj;exact hk _ dG,af h.o2 fun j hj=>by cases hj;exact hk _ dG,af h.o3 fun j hj=>by cases hj;exact hk _ dG,af h.o4 fun j hj=>by cases hj;exact hk _ dG,h.bB,h.n23⟩
end
end
section
open Go
def Rep (d:Ieee.Datum) (n:Int):Prop:=∃s m i b,d= .number s m i/\b<=i/\b<=0/\Ieee.signed s m (i-b).toNat=n*2^(-b).toNat
theorem yL (s:Bool) (m u v:Nat):Ieee.signed s m (u+v)=Ieee.signed s m u*2^v:=by
 unfold Ieee.signed;rw [Nat.shiftLeft_eq,Nat.shiftLeft_eq,Nat.pow_add,<-Nat.mul_assoc];cases s<;>simp [Int.neg_mul]
theorem abf (s t:Bool) (m n u v:Nat):Ieee.signed (s ^^ t) (m*n) (u+v)=Ieee.signed s m u*Ieee.signed t n v:=by
 unfold Ieee.signed;rw [Nat.shiftLeft_eq,Nat.shiftLeft_eq,Nat.shiftLeft_eq,Nat.pow_add];have e:m*n*(2^u*2^v)=(m*2^u)*(n*2^v):=by
  rw [Nat.mul_assoc,Nat.mul_assoc,<-Nat.mul_assoc n,Nat.mul_comm n (2^u),Nat.mul_assoc]
 rw [e];cases s<;>cases t<;>simp [Int.neg_mul,Int.mul_neg]
theorem aa2 (k:Nat):(2:Int)^k≠0:=by
 have:(2:Int)^k=((2^k:Nat):Int):=by push_cast;rfl
 rw [this];have:=Nat.two_pow_pos k;omega
theorem Cj {s:Bool} {m:Nat} {i:Int} {n:Int} (h:Rep (.number s m i) n) {b:Int} (h1:b<=i) (h2:b<=0):Ieee.signed s m (i-b).toNat=n*2^(-b).toNat:=by
 obtain ⟨s',m',i',b',e,h3,h4,h5⟩:=h;cases e;rcases Int.le_total b b' with hb|hb
 . obtain ⟨k,hk⟩:∃k:Nat,b'-b=k:=⟨(b'-b).toNat,by omega⟩
   rw [show (i-b).toNat=(i-b').toNat+k by omega,yL,h5,show (-b).toNat=(-b').toNat+k by omega,Int.pow_add,Int.mul_assoc]
 . obtain ⟨k,hk⟩:∃k:Nat,b-b'=k:=⟨(b-b').toNat,by omega⟩
   rw [show (i-b').toNat=(i-b).toNat+k by omega,yL,show (-b').toNat=(-b).toNat+k by omega,Int.pow_add,<-Int.mul_assoc] at h5;exact Int.eq_of_mul_eq_mul_right (aa2 k) h5
theorem xJ {d:Ieee.Datum} {n:Int} (h:Rep d n):∃s m i,d= .number s m i:=by
 obtain ⟨s,m,i,b,e,-⟩:=h;exact ⟨s,m,i,e⟩
theorem Jn {d d':Ieee.Datum} {n n':Int} (h:Rep d n) (h':Rep d' n'):∃r,d.product d'=some r/\Rep r (n*n'):=by
 obtain ⟨s,m,i,b,rfl,h1,h2,h3⟩:=h;obtain ⟨t,k,j,c,rfl,g1,g2,g3⟩:=h';refine ⟨_,rfl,s ^^ t,m*k,i+j,b+c,rfl,by omega,by omega,?_⟩;rw [show (i+j-(b+c)).toNat=(i-b).toNat+(j-c).toNat by omega,abf,h3,g3,show (-(b+c)).toNat=(-b).toNat+(-c).toNat by omega,Int.pow_add];rw [Int.mul_assoc,Int.mul_assoc,<-Int.mul_assoc _ n',Int.mul_comm (2^(-b).toNat) n',Int.mul_assoc]
theorem abg (x:Int) (z:Bool) (u:Nat):Ieee.signed (if x=0 then z else x<0) x.natAbs u=x*2^u:=by
 unfold Ieee.signed;rw [Nat.shiftLeft_eq];have e:((x.natAbs*2^u:Nat):Int)=(x.natAbs:Int)*2^u:=by push_cast;rfl
 rw [e];by_cases h0:x=0
 . subst h0;cases z<;>simp
 . rw [if_neg h0];by_cases h:x<0
   . simp only [h,decide_true,if_true];rw [<-Int.neg_mul];congr 1
     omega
   . simp only [h,decide_false,Bool.false_eq_true,if_false];congr 1
     omega
theorem Pn {d d':Ieee.Datum} {n n':Int} (h:Rep d n) (h':Rep d' n'):∃r,d.sum d'=some r/\Rep r (n+n'):=by
 obtain ⟨s,m,i,rfl⟩:=xJ h;obtain ⟨t,k,j,rfl⟩:=xJ h';refine ⟨_,rfl,?_⟩;obtain ⟨b,hb⟩:∃b,min (min i j) 0=b:=⟨_,rfl⟩
 have r1:=Cj h (b:=b) xo xo;have r2:=Cj h' (b:=b) xo xo;refine ⟨_,_,_,b,rfl,by omega,by omega,?_⟩;rw [abg];obtain ⟨c,hc⟩:∃c:Nat,min i j-b=c:=⟨(min i j-b).toNat,by omega⟩
 rw [Int.add_mul,show (min i j-b).toNat=c by omega,<-yL,<-yL,show (i-min i j).toNat+c=(i-b).toNat by omega,show (j-min i j).toNat+c=(j-b).toNat by omega,r1,r2,Int.add_mul]
theorem xI {d:Ieee.Datum} {n:Int} (h:Rep d n):Rep d.opposite (-n):=by
 obtain ⟨s,m,i,b,rfl,h1,h2,h3⟩:=h;refine ⟨!s,m,i,b,rfl,h1,h2,?_⟩;rw [Int.neg_mul,<-h3];unfold Ieee.signed;cases s<;>simp
theorem Rj {d d':Ieee.Datum} {n n':Int} (h:Rep d n) (h':Rep d' n'):d.order d'=some (compare n n'):=by
 obtain ⟨s,m,i,rfl⟩:=xJ h;obtain ⟨t,k,j,rfl⟩:=xJ h';obtain ⟨b,hb⟩:∃b,min (min i j) 0=b:=⟨_,rfl⟩
 have r1:=Cj h (b:=b) xo xo;have r2:=Cj h' (b:=b) xo xo;obtain ⟨c,hc⟩:∃c:Nat,min i j-b=c:=⟨(min i j-b).toNat,by omega⟩
 rw [show (i-b).toNat=(i-min i j).toNat+c by omega,yL] at r1;rw [show (j-b).toNat=(j-min i j).toNat+c by omega,yL] at r2;unfold Ieee.Datum.order;simp only [Option.some.injEq];generalize Ieee.signed s m (i-min i j).toNat=x at *;generalize Ieee.signed t k (j-min i j).toNat=y at *;have p1:(0:Int)<2^c:=by
  have:(2:Int)^c=((2^c:Nat):Int):=by push_cast;rfl
  rw [this];have:=Nat.two_pow_pos c;omega
 have p2:(0:Int)<2^(-b).toNat:=by
  have:(2:Int)^(-b).toNat=((2^(-b).toNat:Nat):Int):=by push_cast;rfl
  rw [this];have:=Nat.two_pow_pos (-b).toNat;omega
 have key:x<y↔n<n':=by
  constructor
  . intro hlt;have:=Int.mul_lt_mul_of_pos_right hlt p1;rw [r1,r2] at this;exact Int.lt_of_mul_lt_mul_right this (Int.le_of_lt p2)
  . intro hlt;have:=Int.mul_lt_mul_of_pos_right hlt p2;rw [<-r1,<-r2] at this;exact Int.lt_of_mul_lt_mul_right this (Int.le_of_lt p1)
 have afu:x=y↔n=n':=by
  constructor
  . rintro rfl;rw [r1] at r2;exact Int.eq_of_mul_eq_mul_right (Int.ne_of_gt p2) r2
  . rintro rfl;rw [<-r2] at r1;exact Int.eq_of_mul_eq_mul_right (Int.ne_of_gt p1) r1
 simp only [compare,compareOfLessAndEq,key,afu]
theorem tX (m:Nat) (hm:0<m) (u:Nat):(m*2^u).log2=m.log2+u:=by
 have hp:=Nat.two_pow_pos u;have h1:2^m.log2<=m:=(Nat.le_log2 xo).1 (Nat.le_refl _);have h2:m<2^(m.log2+1):=(Nat.log2_lt xo).1 (Nat.lt_succ_self _);have hne:m*2^u≠0:=Nat.mul_ne_zero xo xo;refine (Nat.log2_eq_iff hne).2 ⟨?_,?_⟩
 . rw [Nat.pow_add];exact Nat.mul_le_mul_right _ h1
 . rw [show m.log2+u+1=(m.log2+1)+u by omega,Nat.pow_add];exact (Nat.mul_lt_mul_right hp).2 h2
theorem Px (w r:Nat) (neg:Bool) (h1:(w/Ieee.double.signWeight%2==1)=neg) (h2:w%Ieee.double.signWeight=r) (h3:¬r<Ieee.double.binade) (h4:r<Ieee.double.infRung):
    Ieee.double.read w= .number neg (Ieee.double.binade+r%Ieee.double.binade) (Ieee.double.leastPlace+(r/Ieee.double.binade-1:Nat)):=by
 unfold Ieee.Format.read;simp only [h1,h2,if_neg h3,if_pos h4]
theorem Rl {s:Bool} {t K:Nat} (ht:t<=52) (h1:4503599627370496<=K) (h2:K<9007199254740992):
    Ieee.double.read (Ieee.double.word s (min ((1074-t)*4503599627370496+K) Ieee.double.infRung))= .number s K (-(t:Int)):=by
 have e1:Ieee.double.infRung=9218868437227405312:=by decide
 have e2:Ieee.double.signWeight=9223372036854775808:=by decide
 have e3:Ieee.double.binade=4503599627370496:=by decide
 have e4:Ieee.double.leastPlace= -1074:=by decide
 obtain ⟨r,hr⟩:∃r,(1074-t)*4503599627370496+K=r:=⟨_,rfl⟩
 have hm:min r Ieee.double.infRung=r:=Nat.min_eq_left (by rw [e1];omega);rw [hr,hm];have a1:Ieee.double.binade+r%Ieee.double.binade=K:=by rw [e3];omega
 have a2:Ieee.double.leastPlace+((r/Ieee.double.binade-1:Nat):Int)= -(t:Int):=by rw [e3,e4];omega
 have h3:¬r<Ieee.double.binade:=by rw [e3];omega
 have h4:r<Ieee.double.infRung:=by rw [e1];omega
 have hw:Ieee.double.word s r=if s then 9223372036854775808+r else r:=by unfold Ieee.Format.word;rw [e2]
 rw [hw];cases s with
 | true=>
  rw [if_pos rfl,Px _ r true (by rw [e2,beq_iff_eq];omega) (by rw [e2];omega) h3 h4,a1,a2]
 | false=>
  rw [if_neg au,Px _ r false (by rw [e2,beq_eq_false_iff_ne];omega) (by rw [e2];omega) h3 h4,a1,a2]
theorem WJ (s:Bool) (n:Nat):Ieee.Toward.cut .even s n 0=n:=by
 simp [Ieee.Toward.cut,Nat.mod_one]
theorem Tf (s:Bool) (n d:Nat):Ieee.Toward.cut .even s (n*2^d) d=n:=by
 have hp:=Nat.two_pow_pos d;by_cases h0:n=0
 . subst h0;simp [Ieee.Toward.cut]
 . have hg:(1 <<< min d ((n*2^d).log2+2))=2^d:=by
     rw [tX n xo,Nat.shiftLeft_eq,Nat.one_mul,Nat.min_eq_left xo]
   unfold Ieee.Toward.cut;simp only [hg,Nat.mul_div_cancel _ hp,Nat.mul_mod_left];simp
theorem vM {d:Ieee.Datum} {n:Int} (h:Rep d n) (hn:n.natAbs<9007199254740992):Rep (Ieee.double.read (Ieee.double.write d)) n:=by
 obtain ⟨s,m,e,rfl⟩:=xJ h;obtain ⟨b,hb⟩:∃b,min e 0=b:=⟨_,rfl⟩
 have r:=Cj h (b:=b) xo xo;obtain ⟨u,hu⟩:∃u,(e-b).toNat=u:=⟨_,rfl⟩
 obtain ⟨v,hv⟩:∃v,(-b).toNat=v:=⟨_,rfl⟩
 rw [hu,hv] at r;have huv:u=0\/v=0:=xo;have hev:e=(u:Int)-v:=xo
 -- the sizes alone
 have ra:m*2^u=n.natAbs*2^v:=by
  have:=congrArg Int.natAbs r;rw [Int.natAbs_mul] at this;have e2:((2:Int)^v).natAbs=2^v:=by
   have:(2:Int)^v=((2^v:Nat):Int):=by push_cast;rfl
   rw [this];rfl
  rw [e2] at this;rw [<-this];unfold Ieee.signed;rw [Nat.shiftLeft_eq];cases s
  . rfl
  . simp only [if_true];omega
 have rs:s=true->n<=0:=fun hs=>by
  subst hs;apply Int.not_lt.1;intro hpos;unfold Ieee.signed at r;simp only [if_true] at r;have:(0:Int)<n*2^v:=Int.mul_pos hpos (by
   have:(2:Int)^v=((2^v:Nat):Int):=by push_cast;rfl
   rw [this];have:=Nat.two_pow_pos v;omega)
  omega
 have rs2:s=false->0<=n:=fun hs=>by
  subst hs;apply Int.not_lt.1;intro hneg;unfold Ieee.signed at r;simp only [Bool.false_eq_true,if_false] at r;have:n*2^v<0:=Int.mul_neg_of_neg_of_pos hneg (by
   have:(2:Int)^v=((2^v:Nat):Int):=by push_cast;rfl
   rw [this];have:=Nat.two_pow_pos v;omega)
  omega
 have hsn:∀K:Nat,∀t:Nat,K=n.natAbs*2^t->Rep (.number s K (-(t:Int))) n:=fun K t hK=>by
  refine ⟨s,K,_,-(t:Int),rfl,Int.le_refl _,by omega,?_⟩;rw [Int.sub_self,Int.neg_neg];unfold Ieee.signed;simp only [Int.toNat_zero,Nat.shiftLeft_zero,Int.toNat_natCast];have e2:((n.natAbs*2^t:Nat):Int)=(n.natAbs:Int)*2^t:=by push_cast;rfl
  rw [hK,e2];cases s with
  | true=>
   have:=rs rfl;simp only [if_true];rw [<-Int.neg_mul];congr 1
   omega
  | false=>
   have:=rs2 rfl;simp only [Bool.false_eq_true,if_false];congr 1
   omega
 unfold Ieee.Format.write Ieee.Format.nearest;simp only;by_cases hm:m=0
 . rw [if_pos hm];have hn0:n=0:=by
    rw [hm,Nat.zero_mul] at ra;have:=Nat.two_pow_pos v;have:n.natAbs=0:=by
     rcases Nat.mul_eq_zero.1 ra.symm with h|h<;>omega
    omega
   subst hn0;refine ⟨s,0,-1074,-1074,?_,Int.le_refl _,by decide,?_⟩
   . cases s<;>decide
   . rw [Int.zero_mul];unfold Ieee.signed;rw [Nat.zero_shiftLeft];cases s<;>rfl
 . rw [if_neg hm];have hN:0<n.natAbs:=by
    apply Nat.pos_of_ne_zero;intro h0;rw [h0,Nat.zero_mul] at ra;have:=Nat.two_pow_pos u;rcases Nat.mul_eq_zero.1 ra with h|h<;>omega
   have hl:=congrArg Nat.log2 ra;rw [tX m xo,tX n.natAbs hN] at hl;have ajG:n.natAbs.log2<=52:=by
    have:n.natAbs.log2<53:=(Nat.log2_lt xo).2 (by simpa using hn);omega
   obtain ⟨t,ht⟩:∃t:Nat,52-n.natAbs.log2=t:=⟨_,rfl⟩
   have hlast:max (e+(m.log2:Int)-(Ieee.double.fractionBits:Nat)) Ieee.double.leastPlace= -(t:Int):=by
    have e4:Ieee.double.leastPlace= -1074:=by decide
    have e5:((Ieee.double.fractionBits:Nat):Int)=52:=by decide
    rw [e4,e5];omega
   rw [hlast]
   have hkept:Ieee.Toward.cut .even s (m <<< (e - -(t:Int)).toNat) (-(t:Int)-e).toNat=n.natAbs*2^t:=by
    rw [Nat.shiftLeft_eq];by_cases hc: -(t:Int)<=e
    . rw [show (-(t:Int)-e).toNat=0 by omega,WJ];rcases huv with h|h
      . subst h;rw [Nat.pow_zero,Nat.mul_one] at ra;rw [ra,Nat.mul_assoc,<-Nat.pow_add];congr 2
        omega
      . subst h;rw [Nat.pow_zero,Nat.mul_one] at ra;rw [<-ra,Nat.mul_assoc,<-Nat.pow_add];congr 2
        omega
    . rw [show (e - -(t:Int)).toNat=0 by omega,Nat.pow_zero,Nat.mul_one];obtain ⟨dp,hdp⟩:∃dp,(-(t:Int)-e).toNat=dp:=⟨_,rfl⟩
      rw [hdp];have hu0:u=0:=xo;subst hu0;rw [Nat.pow_zero,Nat.mul_one] at ra;have em:m=(n.natAbs*2^t)*2^dp:=by
       rw [ra,Nat.mul_assoc,<-Nat.pow_add];congr 2
       omega
      rw [em];exact Tf s _ dp
   rw [hkept];have hK1:4503599627370496<=n.natAbs*2^t/\n.natAbs*2^t<9007199254740992:=by
    have h1:2^n.natAbs.log2<=n.natAbs:=(Nat.le_log2 xo).1 (Nat.le_refl _);have h2:n.natAbs<2^(n.natAbs.log2+1):=(Nat.log2_lt xo).1 (Nat.lt_succ_self _);have hp:=Nat.two_pow_pos t;constructor
    . have:=Nat.mul_le_mul_right (2^t) h1;rw [<-Nat.pow_add,show n.natAbs.log2+t=52 by omega] at this;exact this
    . have:=(Nat.mul_lt_mul_right hp).2 h2;rw [<-Nat.pow_add,show n.natAbs.log2+1+t=53 by omega] at this;exact this
   have e3:Ieee.double.binade=4503599627370496:=by decide
   have e4:(-(t:Int)-Ieee.double.leastPlace).toNat=1074-t:=by
    have e4:Ieee.double.leastPlace= -1074:=by decide
    rw [e4];omega
   rw [e3,e4,Rl xo hK1.1 hK1.2];exact hsn _ t rfl
theorem U2 (x:Nat):Ieee.double.read (x ^^^ 2^63)=(Ieee.double.read x).opposite:=by
 have e2:Ieee.double.signWeight=2^63:=by decide
 have h1:((x ^^^ 2^63)/Ieee.double.signWeight%2==1)= !(x/Ieee.double.signWeight%2==1):=by
  rw [e2];have t:∀y:Nat,(y/2^63%2==1)=y.testBit 63:=fun y=>by
   rw [Nat.testBit_eq_decide_div_mod_eq];rfl
  rw [t,t,Nat.testBit_xor,Nat.testBit_two_pow_self];simp
 have h2:(x ^^^ 2^63)%Ieee.double.signWeight=x%Ieee.double.signWeight:=by
  rw [e2];apply Nat.eq_of_testBit_eq;intro i;rw [Nat.testBit_mod_two_pow,Nat.testBit_mod_two_pow,Nat.testBit_xor,Nat.testBit_two_pow];by_cases h:i<63
  . have:¬63=i:=xo;simp [this]
  . simp [h]
 unfold Ieee.Format.read;simp only [h1,h2];split
 . rfl
 . split
   . rfl
   . split<;>rfl
theorem Yf {x:Nat} {n:Int} (h:Rep (Ieee.double.read x) n):Rep (Ieee.double.read (x ^^^ 2^63)) (-n):=by
 rw [U2];exact xI h
theorem Gq (n:Int) (hn:n.natAbs<9007199254740992):Rep (Ieee.double.read (floatOfInt .f64 n)) n:=by
 refine vM (d:= .number (n<0) n.natAbs 0) ⟨_,_,0,0,rfl,Int.le_refl _,Int.le_refl _,?_⟩ hn;unfold Ieee.signed;by_cases h:n<0
 . simp [h];omega
 . simp [h];omega
theorem Bz {x y:Nat} {n m:Int} (hx:Rep (Ieee.double.read x) n) (hy:Rep (Ieee.double.read y) m) (h:(n*m).natAbs<9007199254740992):∃r,floatBits .mul .f64 x y=some r/\Rep (Ieee.double.read r) (n*m):=by
 obtain ⟨d,h1,h2⟩:=Jn hx hy;exact ⟨_,by show ((Ieee.double.read x).product (Ieee.double.read y)).map _=_;rw [h1];rfl,vM h2 h⟩
theorem Zv {x y:Nat} {n m:Int} (hx:Rep (Ieee.double.read x) n) (hy:Rep (Ieee.double.read y) m) (h:(n+m).natAbs<9007199254740992):∃r,floatBits .add .f64 x y=some r/\Rep (Ieee.double.read r) (n+m):=by
 obtain ⟨d,h1,h2⟩:=Pn hx hy;exact ⟨_,by show ((Ieee.double.read x).sum (Ieee.double.read y)).map _=_;rw [h1];rfl,vM h2 h⟩
theorem Zu {x y:Nat} {n m:Int} (hx:Rep (Ieee.double.read x) n) (hy:Rep (Ieee.double.read y) m) (h:(n-m).natAbs<9007199254740992):∃r,floatBits .sub .f64 x y=some r/\Rep (Ieee.double.read r) (n-m):=by
 obtain ⟨d,h1,h2⟩:=Pn hx (xI hy);rw [<-Int.sub_eq_add_neg] at h2;exact ⟨_,by show ((Ieee.double.read x).sum (Ieee.double.read y).opposite).map _=_;rw [h1];rfl,vM h2 h⟩
theorem uf {a b:Int} (ha:a.natAbs<67108864) (hb:b.natAbs<67108864):(a*b).natAbs<4503599627370496:=by
 rw [Int.natAbs_mul];have h1:a.natAbs*b.natAbs<=67108863*67108863:=Nat.mul_le_mul xo xo;omega
theorem Ot {a b c d:Nat} {A B C D:Int} (ha:Rep (Ieee.double.read a) A) (hb:Rep (Ieee.double.read b) B) (hc:Rep (Ieee.double.read c) C) (hd:Rep (Ieee.double.read d) D)
    (bA:A.natAbs<67108864) (bB:B.natAbs<67108864) (bC:C.natAbs<67108864) (bD:D.natAbs<67108864):
    ∃re im,cMulBits a b c (d ^^^ 2^63)=some (re,im)/\Rep (Ieee.double.read im) (B*C-A*D):=by
 have hd':=Yf hd;have bD':(-D).natAbs<67108864:=xo;have p1:=uf bA bC;have p2:=uf bB bD';have p3:=uf bA bD';have p4:=uf bB bC;obtain ⟨ac,e1,r1⟩:=Bz ha hc xo;obtain ⟨bd,e2,r2⟩:=Bz hb hd' xo;obtain ⟨re,e3,r3⟩:=Zu r1 r2 xo;obtain ⟨ad,e4,r4⟩:=Bz ha hd' xo;obtain ⟨bc,e5,r5⟩:=Bz hb hc xo;obtain ⟨im,e6,r6⟩:=Zv r4 r5 xo;refine ⟨re,im,?_,?_⟩
 . unfold cMulBits;simp only [e1,e2,e3,e4,e5,e6,Option.bind_some]
 . rw [show B*C-A*D=A * -D+B*C by rw [Int.mul_neg];omega];exact r6
theorem Nw {x:Nat} {n:Int} (h:Rep (Ieee.double.read x) n):Ieee.double.order x 0=some (compare n 0):=by
 have h0:Rep (Ieee.double.read 0) 0:=by
  refine ⟨false,0,-1074,-1074,by decide,Int.le_refl _,by decide,?_⟩;rw [Int.zero_mul];unfold Ieee.signed;rw [Nat.zero_shiftLeft];rfl
 exact Rj h h0
end
section
open Go.RowKit
theorem vK (k:IntKind) (w:World) (xs:List Int) (t:TypeId):aQ k (w.alloc (.cells (xs.map (Value.int k)).toArray t)) (some ⟨w.heap.size,0,none⟩) xs:=by
 intro i hi;refine ⟨w.heap.size,0,rfl,by simp,fun j hj=> ?_⟩;rw [World.cell?_alloc_at _ _ _ _ rfl,Nat.zero_add];simp [List.getD_eq_getElem?_getD,hj]
theorem Jd (xs:List Int) (ca:Nat) (hl:xs.length<=100) (p:Option Addr) (w:World) (hw:aQ .i64 w p xs) (hs:∀i,-67108864<xs.getD i 0/\xs.getD i 0<67108864):
    Calls Tryz.prog 223 #[.slice p xs.length ca] w fun e w'=>e= .returned (.bool true)/\w=w':=by
 have HW:=hid hw;have HS:=hid hs;obtain ⟨m,hm⟩:∃m,xs.length=m:=⟨_,rfl⟩
 have HM:=hid hm;rw [hm] at hl ⊢;clear hw hs hm;go_enter Tryz.func223,Tryz.ntmps223
 go_wp2
 go_loopg [7] m (fun gk iv wr=>∃i:Nat,i+gk=m/\iv= .int .i64 i/\wr=w)
 case atStart=>exact ⟨0,by omega,rfl,rfl⟩
 case round=>
  obtain ⟨i,hi,rfl,rfl⟩:=hrel;by_cases hlt:i<m
  . obtain ⟨b,off,x,rfl,hx,hc,-⟩:=HW.out.get (i:=i) (by rw [HM.out];exact hlt);have hb:=HS.out i;rw [hx.out] at hb;obtain ⟨hb1,hb2⟩:=hb;clear hx;go_wp2
    go_roundg (gk-1)
    case measure=>omega
    case rel=>exact ⟨i+1,by omega,by go_num,rfl⟩
  . go_wp2
    go_ret
    exact ⟨rfl,rfl⟩
def Iu (w:World) (b:Nat) (l:List Bool):Prop:=∀i,i<l.length->w.cell? ⟨b,i,none⟩=some (.bool (l.getD i false))
theorem Ah (w:World) (l:List Bool) (t:TypeId):Iu (w.alloc (.cells (l.map Value.bool).toArray t)) w.heap.size l:=by
 intro i hi;rw [World.cell?_alloc_at _ _ _ _ rfl];simp [List.getD_eq_getElem?_getD,hi]
theorem OE (l:List Bool) (ca b:Nat) (hl:l.length<=100) (w:World) (hw:Iu w b l):
    Calls Tryz.prog 163 #[.slice (some ⟨b,0,none⟩) l.length ca] w fun e w'=>e= .returned (.bool (l.all id))/\w=w':=by
 have HW:=hid hw;obtain ⟨m,hm⟩:∃m,l.length=m:=⟨_,rfl⟩
 have HM:=hid hm;obtain ⟨z,hz⟩:∃z,l.all id=z:=⟨_,rfl⟩
 have HZ:=hid hz;rw [hm] at hl ⊢;rw [hz];clear hw hm hz;go_enter Tryz.func163,Tryz.ntmps163
 go_wp2
 go_loopg [7] m (fun gk iv wr=>∃i:Nat,i+gk=m/\iv= .int .i64 i/\wr=w/\Hid (∀j,j<i->l.getD j false=true))
 case atStart=>exact ⟨0,by omega,rfl,rfl,hid fun j hj=>by omega⟩
 case round=>
  obtain ⟨i,hi,rfl,rfl,HF⟩:=hrel;by_cases hlt:i<m
  . have hc:=HW.out i (by rw [HM.out];exact hlt);cases hb:l.getD i false with
    | true=>
     rw [hb] at hc;have HB:=hid hb;clear hb;go_wp2
     go_roundg (gk-1)
     case measure=>omega
     case rel=>
      refine ⟨i+1,by omega,by go_num,rfl,hid fun j hj=> ?_⟩;by_cases e:j=i
      . rw [e];exact HB.out
      . exact HF.out j xo
    | false=>
     rw [hb] at hc;have hzf:z=false:=by
      rw [<-HZ.out,List.all_eq_false];have hlm:i<l.length:=by rw [HM.out];exact hlt
      refine ⟨l[i],List.getElem_mem _,?_⟩;rw [List.getD_eq_getElem?_getD,List.getElem?_eq_getElem hlm,Option.getD_some] at hb;simp [hb]
     subst hzf;clear hb;go_wp2
     go_ret
     exact ⟨rfl,rfl⟩
  . have hzt:z=true:=by
      rw [<-HZ.out,List.all_eq_true];intro x hx;obtain ⟨j,hj,rfl⟩:=List.mem_iff_getElem.1 hx;have:=HF.out j (by rw [HM.out] at hj;omega);rw [List.getD_eq_getElem?_getD,List.getElem?_eq_getElem hj,Option.getD_some] at this;exact this
    subst hzt;go_wp2
    go_ret
    exact ⟨rfl,rfl⟩
theorem vZ (n lo hi:Int) (hh:hi<=9223372036854775807) (w:World):
    Calls Tryz.prog 164 #[.int .i64 n,.int .i64 lo,.int .i64 hi] w fun e w'=>e= .returned (.bool (kW n lo hi))/\w=w':=by
 by_cases c1:lo<=n
 . by_cases c2:n<=hi
   . have e:kW n lo hi=wB n:=by simp [kW,c1,c2]
     rw [e];have PW:=hid (fun w=>yx n xo w);generalize wB n=b at *;clear e;go_enter Tryz.func164,Tryz.ntmps164
     go_wp2_with (go_at_call 209;refine (PW.out _).mono ?_;rintro e w' ⟨rfl,rfl⟩)
     go_ret
     exact ⟨rfl,rfl⟩
   . have e:kW n lo hi=false:=by simp [kW,c2]
     rw [e];clear e;go_enter Tryz.func164,Tryz.ntmps164
     go_wp2
     go_ret
     exact ⟨rfl,rfl⟩
 . have e:kW n lo hi=false:=by simp [kW,c1]
   rw [e];clear e;go_enter Tryz.func164,Tryz.ntmps164
   go_wp2
   go_ret
   exact ⟨rfl,rfl⟩
def TQ (n:Int):Prop:= -67108864<n/\n<67108864
theorem sm4 {a b c d:Int} (ha:TQ a) (hb:TQ b) (hc:TQ c) (hd:TQ d):∀i,-67108864 < [a,b,c,d].getD i 0/\ [a,b,c,d].getD i 0<67108864
  | 0=>ha
  | 1=>hb
  | 2=>hc
  | 3=>hd
  | _+4=>by simp
theorem OQ (a b c d:Int) (ha:TQ a) (hb:TQ b) (hc:TQ c) (hd:TQ d) (h1:1<=d) (h2:0<=c) (h3:c<=d) (r:Int) (hr:a*d+(b-a)*c=r) (w1:IntKind.i64.wrap (a*d)=a*d) (w2:IntKind.i64.wrap ((b-a)*c)=(b-a)*c) (w3:IntKind.i64.wrap (a*d+(b-a)*c)=a*d+(b-a)*c) (w4:IntKind.i64.wrap (b-a)=b-a) (w:World):
    Calls Tryz.prog 212 #[.int .i64 a,.int .i64 b,.int .i64 c,.int .i64 d] w (aC w (.tuple #[.int .i64 r,.int .i64 0])):=by
 have SM:=hid (fun W hw=>Jd [a,b,c,d] 4 ax (some ⟨w.heap.size,0,none⟩) W hw (sm4 ha hb hc hd));have HR:=hid hr;clear ha hb hc hd hr;go_enter Tryz.func212,Tryz.ntmps212
 go_wp2_with fail
 refine (SM.out _ (vK .i64 w [a,b,c,d] _)).mono ?_;rintro e w' ⟨rfl,rfl⟩;go_wp2
 go_ret2
 exact ⟨by rw [<-HR.out];rfl,br.alloc (Nat.le_refl _) _⟩
theorem D5 (a b c d:Int) (ha:TQ a) (hb:TQ b) (hc:TQ c) (hd:TQ d) (w:World):
    Calls Tryz.prog 210 #[.int .i64 a,.int .i64 b,.int .i64 c,.int .i64 d] w (aC w (.tuple #[.int .i64 (o_ a b c d),.int .i64 0])):=by
 have ba:a.natAbs<67108864:=by have:=ha.1;have:=ha.2;omega
 have bb:b.natAbs<67108864:=by have:=hb.1;have:=hb.2;omega
 have bc:c.natAbs<67108864:=by have:=hc.1;have:=hc.2;omega
 have bd:d.natAbs<67108864:=by have:=hd.1;have:=hd.2;omega
 obtain ⟨re,im,hm,hi⟩:=Ot (Gq a xo) (Gq b xo) (Gq c xo) (Gq d xo) ba bb bc bd;have ho:=Nw hi;rw [show (2:Nat)^63=9223372036854775808 by decide] at hm;have hop:=fun t w=>run_complex_mul (P:=Tryz.prog) w t _ _ _ _ re im hm
 have hng:∀x:Nat,Op.unary .neg (.float .f64 x)=pure (.float .f64 (x ^^^ 9223372036854775808)):=fun _=>rfl
 have SM:=hid (fun W hw=>Jd [a,b,c,d] 4 ax (some ⟨w.heap.size,0,none⟩) W hw (sm4 ha hb hc hd));unfold o_;generalize b*c-a*d=z at *;clear ha hb hc hd ba bb bc bd hm hi;have hgt:∀t,binOp .gtr t (.float .f64 im) (.float .f64 0)=pure (.bool (decide (0<z))):=fun t=>by
  rw [binOp_float_cmp_gtr,show FloatKind.f64.format.order im 0=some (compare z 0) from ho];congr 2
  rcases Int.lt_trichotomy z 0 with h|h|h
  . rw [show compare z 0= .lt by simp [compare,compareOfLessAndEq,h]];simp;omega
  . subst h;rfl
  . rw [show compare z 0= .gt by simp [compare,compareOfLessAndEq,show ¬z<0 by omega,show ¬z=0 by omega]];simp;omega
 have hlt:∀t,binOp .lss t (.float .f64 im) (.float .f64 0)=pure (.bool (decide (z<0))):=fun t=>by
  rw [binOp_float_cmp_lss,show FloatKind.f64.format.order im 0=some (compare z 0) from ho];congr 2
  rcases Int.lt_trichotomy z 0 with h|h|h
  . rw [show compare z 0= .lt by simp [compare,compareOfLessAndEq,h]];simp;omega
  . subst h;rfl
  . rw [show compare z 0= .gt by simp [compare,compareOfLessAndEq,show ¬z<0 by omega,show ¬z=0 by omega]];simp;omega
 clear ho;by_cases c1:0<z
 . rw [if_pos c1];go_enter Tryz.func210,Tryz.ntmps210
   go_wp2_with fail
   refine (SM.out _ (vK .i64 w [a,b,c,d] _)).mono ?_;rintro e w' ⟨rfl,rfl⟩;go_wp2_with (first|(simp only [hop])|(simp only [hng])|(simp only [hgt])|(simp only [hlt]))
   go_ret2
   exact ⟨rfl,br.alloc (Nat.le_refl _) _⟩
 . rw [if_neg c1];by_cases c2:z<0
   . rw [if_pos c2];go_enter Tryz.func210,Tryz.ntmps210
     go_wp2_with fail
     refine (SM.out _ (vK .i64 w [a,b,c,d] _)).mono ?_;rintro e w' ⟨rfl,rfl⟩;go_wp2_with (first|(simp only [hop])|(simp only [hng])|(simp only [hgt])|(simp only [hlt]))
     go_ret2
     exact ⟨rfl,br.alloc (Nat.le_refl _) _⟩
   . rw [if_neg c2];go_enter Tryz.func210,Tryz.ntmps210
     go_wp2_with fail
     refine (SM.out _ (vK .i64 w [a,b,c,d] _)).mono ?_;rintro e w' ⟨rfl,rfl⟩;go_wp2_with (first|(simp only [hop])|(simp only [hng])|(simp only [hgt])|(simp only [hlt]))
     go_ret2
     exact ⟨rfl,br.alloc (Nat.le_refl _) _⟩
end
end Go.Proofs.YtbedhbpgnfffmaaGreatDoor

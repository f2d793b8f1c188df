/- Merged: ConfW, ConfC, ConfF, WinW, QuietT, GapChk, Filled, Empty04, Spr, LoadW, GapCk, Ref05, Ref09, Ref09C, GapLd, NthPl, WndPl. -/
import Derived.Test.YtbedhbpgnfffmaaGreatDoorCobAnswersP6
import Derived.Test.YtbedhbpgnfffmaaGreatDoorCobAnswersP2
import Derived.Test.YtbedhbpgnfffmaaGreatDoorCobAnswersP4
import Derived.Lib.QuietBelow
import Derived.Deep.CutRange
import Derived.Test.YtbedhbpgnfffmaaGreatDoorCobAnswersP3
import Derived.Laws.BitsAllLaws
import Derived.Test.YtbedhbpgnfffmaaGreatDoorCobAnswersP1
import Derived.Test.YtbedhbpgnfffmaaGreatDoorCobAnswersP5
namespace Go.Proofs.YtbedhbpgnfffmaaGreatDoor
set_option maxRecDepth 100000
set_option maxHeartbeats 40000000
set_option linter.unusedVariables false
set_option linter.unusedSimpArgs false
section
open Go.RowKit Go.Shelf
attribute [local go_sem] Oper.semAt_some
theorem rH {a b A B:Int} (h0:0<=a) (h1:a<=A) (h2:0<=b) (h3:b<=B):0<=a*b/\a*b<=A*B:=
  ⟨Int.mul_nonneg h0 h2,Int.mul_le_mul h1 h3 h2 (Int.le_trans h0 h1)⟩
theorem dw {c:bY} (h:pg c=true):1<=c.tag/\c.tag<=3/\1<=c.most/\c.most<=16384/\4<=c.ai/\c.ai<=64/\c.ai<=c.least/\c.least<=256/\1<=c.den/\c.den<=64/\0<=c.ll/\c.ll<c.rl/\c.rl<c.rh/\c.rh<c.lh/\c.lh<=c.den/\c.den<=2*c.rh/\8*c.rl<=c.den/\2*c.den<=c.rl*c.least/\c.rl*c.least<=64*256/\0<=c.rl*c.least:=by
 obtain ⟨h1,h2,h3,h4,h5,h6,h7,h8,h9,h10,h11,h12,h13,EZ,h15,h16⟩:=nG h;have s:=mZ.1 h5;have l:=mZ.1 h6;have q:=rH (show 0<=c.rl by omega) (show c.rl<=64 by omega) (show 0<=c.least by omega) l.2.1;exact ⟨h1,h2,h3,h4,s.1,s.2.1,l.1,l.2.1,h7,h8,h9,h10,h11,h12,h13,EZ,h15,h16,q.2,q.1⟩
theorem vG {c:bY} (h:pg c=true) {n:Int} (h0:0<=n) (h1:n<=16384):1<=ig c n/\ig c n<=65536/\c.least<=ig c n:=by
 have f:=dw h;have a:=O_ (c:=c) (n:=n) 20 c.least xo;have b:=X7 (c:=c) (n:=n) xo xo h0 20 c.least 65536 xo xo;unfold ig;exact ⟨by omega,b,a.1⟩
theorem abH {c:bY} (h:1<=c.ai) {size:Int} (h0:0<=size) (h1:size<=65536):EX c size<=16:=by
 have hq0:0<=size/c.ai:=Int.ediv_nonneg h0 xo;have hq1:size/c.ai<=65536:=Int.le_trans (Int.ediv_le_self _ h0) h1;unfold EX;generalize size/c.ai=q at *;by_cases hz:q.toNat=0
 . rw [hz];decide
 . have:q.toNat.log2<17:=(Nat.log2_lt hz).2 xo;omega
theorem aa0 {c:bY} {a H h:Nat} (hs:c.ai=((2^a:Nat):Int)) (hb:2^a*2^H<=65536) (hh:h<=H):0<=pW c h/\pW c h<=65536:=by
 have e:pW c h=((2^a*2^h:Nat):Int):=by rw [pW,hs];push_cast;rfl
 have:2^a*2^h<=2^a*2^H:=Nat.mul_le_mul_left _ (Nat.pow_le_pow_right xo hh);rw [e];omega
theorem UL {c:bY} {n size T X Y:Int} {k:Nat} (hX:n*c.den=X) (hY:c.rh*size=Y) (h0:0<=n) (h1:n<=16384) (h6:1<=c.rh) (h8:c.den<=2*c.rh) (hK:mQ c n k size=T/\X<=size*2^k) (z0:0<=size) (hY2:size<=Y):
    (¬Y<X->size=T)/\(Y<X->size<=32768/\∃j,k=j+1/\mQ c n j (2*size)=T/\X<=2*size*2^j):=by
 obtain ⟨k1,k2⟩:=hK;constructor
 . intro hlt;rw [QW (by rw [hX,hY];exact hlt)] at k1;exact k1
 . intro hlt;constructor
   . have h9:n*c.den<=n*(2*c.rh):=Int.mul_le_mul_of_nonneg_left h8 h0;have h10:n*(2*c.rh)=c.rh*(2*n):=by rw [Int.mul_comm n,Int.mul_assoc,Int.mul_left_comm]
     have:=Int.lt_of_mul_lt_mul_left (show c.rh*size<c.rh*(2*n) by omega) xo;omega
   . cases k with
     | zero=>
      simp at k2;omega
     | succ j=>
      rw [mQ,if_pos (by rw [hX,hY];exact hlt)] at k1;refine ⟨j,rfl,k1,?_⟩;rw [Int.pow_succ] at k2;have:2*size*2^j=size*(2^j*2):=by rw [Int.mul_comm 2 size,Int.mul_assoc,Int.mul_comm 2]
      omega
theorem yI {c:bY} {n:Int} (h0:0<=n) (h1:n<=16384) (h2:1<=c.least) (h4:1<=c.den) (h5:c.den<=64):n*c.den<=c.least*2^20/\0<=n*c.den/\n*c.den<=16384*64:=by
 have m:=rH h0 h1 (show 0<=c.den by omega) h5;have:=Int.mul_le_mul_of_nonneg_right h2 (show (0:Int)<=2^20 by decide);have e:(2:Int)^20=1048576:=by decide
 rw [e] at this ⊢;exact ⟨by omega,m⟩
theorem xE (c:bY) (hc:pg c=true) (n:Int) (h0:0<=n) (h1:n<=16384) (w:World):
    Calls Tryz.prog 166 #[.agg #[.int .u8 c.tag,.int .i64 c.most,.int .i64 c.ai,.int .i64 c.least,.int .i64 c.den,.int .i64 c.ll,.int .i64 c.rl,.int .i64 c.rh,.int .i64 c.lh],.int .i64 n] w (aC w (.int .i64 (ig c n))):=by
 obtain ⟨d0,d1,d2,d3,d4,d5,d6,d7,d8,d9,d10,d11,d12,d13,Fq,Et,Fp,Es⟩:=dw hc;obtain ⟨s1,s2,s3⟩:=yI (c:=c) h0 h1 xo d8 d9;have HQ:=hid (And.intro h0 (And.intro h1 (And.intro (show 1<=c.rh by omega) Et)));unfold ig;obtain ⟨T,hT⟩:∃T,mQ c n 20 c.least=T:=⟨_,rfl⟩
 rw [hT];have HT:=hid hT;obtain ⟨X,hX⟩:∃X,n*c.den=X:=⟨_,rfl⟩
 rw [hX] at s1 s2 s3;have HX:=hid hX;have H1:=hid s1;have hl1:1<=c.least:=xo;have hrb:1<=c.rh/\c.rh<=64:=xo;clear hT hX s1 hc Es;obtain ⟨hr1,hr2⟩:=hrb;have CR:=hid (fun size (z0:TQ size) W=>D5 n size c.rh c.den ⟨by omega,by omega⟩ z0 ⟨by omega,by omega⟩ ⟨by omega,by omega⟩ W);generalize hrh:c.rh=rh at *;generalize hden:c.den=den at *;generalize hle:c.least=le at *;have HE:=hid (And.intro hrh (And.intro hden hle));clear hrh hden hle;go_enter Tryz.func166,Tryz.ntmps166
 go_wp2
 refine bZ 0 (fun g a' w'=>∃size:Int,(∃u:Nat->Value,a'= {tmps:= #[.agg #[.int .u8 c.tag,.int .i64 c.most,.int .i64 c.ai,.int .i64 le,.int .i64 den,.int .i64 c.ll,.int .i64 c.rl,.int .i64 rh,.int .i64 c.lh],.int .i64 n,.pointer (some ⟨w.heap.size,0,none⟩),u 3,u 4,.int .i64 size,u 6,u 7,u 8,u 9,u 10,u 11,u 12,u 13,u 14,u 15,u 16,u 17,u 18,u 19,u 20,u 21,u 22,u 23,u 24],defers:=[]})/\Hid (Below w.heap.size w w')/\w.heap.size<w'.heap.size/\w'.cell? ⟨w.heap.size,7,none⟩=some (.int .i64 rh)/\w'.cell? ⟨w.heap.size,4,none⟩=some (.int .i64 den)/\0<=size/\size<=65536/\Hid (mQ c n g size=T/\X<=size*2^g)) rfl ?_ ?_
 . rintro g a wo ⟨size,⟨u,rfl⟩,HB,hz,c7,c4,z0,z1,HK⟩ H hH;obtain ⟨Y,hY⟩:∃Y,rh*size=Y:=⟨_,rfl⟩
   have hY2:size<=Y:=by
    rw [<-hY];have a2:=Int.mul_le_mul_of_nonneg_right hr1 z0;omega
   have tt:=UL (by rw [HE.out.2.1];exact HX.out) (by rw [HE.out.1];exact hY) HQ.out.1 HQ.out.2.1 (by have:=HQ.out.2.2.1;have:=HE.out;omega) (by have:=HQ.out.2.2.2;have:=HE.out;omega) HK.out z0 hY2;have cv:o_ n size rh den=if Y<X then 1 else if X<Y then -1 else 0:=by
    unfold o_;have e1:size*rh=Y:=by rw [Int.mul_comm];exact hY
    have e2:n*den=X:=HX.out;rw [e1,e2];split<;>split<;>(try split)<;>first|rfl|omega
   have C1:=hid (CR.out size ⟨by omega,by omega⟩);rw [cv] at C1;clear CR cv hY hY2 HK;have hzw:=HB.out.size;by_cases hlt:Y<X
   . rw [if_pos hlt] at C1;obtain ⟨hs,j,rfl,hj⟩:=tt.2 hlt;have HJ:=hid hj;clear tt hj;go_wp2_with fail
     refine (C1.out _).mono ?_;rintro e w1 ⟨rfl,hb1⟩;have b7:=(hb1.cell (p:=⟨w.heap.size,7,none⟩) hz).trans c7;have b4:=(hb1.cell (p:=⟨w.heap.size,4,none⟩) hz).trans c4;have hz1:=hb1.size;have HB1:=hid (aj hb1 HB.out hzw);clear hb1 c7 c4;go_wp2
     refine wp_goto ?_;refine show (0=0/\H _ _) from ⟨rfl,hH j _ _ xo ⟨2*size,jq _ _ _ ?_,HB1,by omega,b7,b4,by omega,by omega,HJ⟩⟩
     rw [show 2*size=size*2 by omega];rfl
   . rw [if_neg hlt] at C1;have hfin:=tt.1 hlt;subst hfin;clear tt;obtain ⟨v,hv⟩:∃v:Int,(if X<Y then (-1:Int) else 0)=v:=⟨_,rfl⟩
     have hv0:v<=0:=by rw [<-hv];split<;>omega
     rw [hv] at C1;clear hv;go_wp2_with fail
     refine (C1.out _).mono ?_;rintro e w1 ⟨rfl,hb1⟩;have HB1:=hid (aj hb1 HB.out hzw);clear hb1;go_wp2
     simp only [Exit.jump];go_ret
     exact ⟨rfl,HB1.out⟩
 . intro H hH nS;go_wp2
   refine wp_label ?_;go_step
   go_step
   refine nS 20 _ _ ?_;refine ⟨le,jq _ _ _ rfl,hid (br.alloc (Nat.le_refl _) _),by simp,by rw [World.cell?_alloc_at _ _ _ _ rfl];rfl,by rw [World.cell?_alloc_at _ _ _ _ rfl];rfl,by omega,by omega,hid ⟨HT.out,H1.out⟩⟩
theorem EY (c:bY) (size:Int) (h0:c.ai<=size) (h1:size<=65536) (h2:1<=c.ai) (w:World):
    Calls Tryz.prog 165 #[.agg #[.int .u8 c.tag,.int .i64 c.most,.int .i64 c.ai,.int .i64 c.least,.int .i64 c.den,.int .i64 c.ll,.int .i64 c.rl,.int .i64 c.rh,.int .i64 c.lh],.int .i64 size] w (aC w (.int .i64 (EX c size:Nat))):=by
 have hq0:1<=size/c.ai:=by
  have:=Int.ediv_le_ediv (c:=c.ai) xo h0;rwa [Int.ediv_self xo] at this
 have hq1:size/c.ai<=65536:=Int.le_trans (Int.ediv_le_self _ xo) h1;have hq2:size.tdiv c.ai=size/c.ai:=Int.tdiv_eq_ediv_of_nonneg xo;have hs0:(c.ai==0)=false:=by simp;omega
 unfold EX;generalize size/c.ai=q at *;obtain ⟨m,rfl⟩:=Int.eq_ofNat_of_zero_le (show 0<=q by omega);rw [Int.toNat_natCast];have LG:=hid (fun w=>IB m m rfl xo xo w);generalize m.log2=z at *;have hwm:IntKind.i64.wrap (m:Int)=(m:Int):=IntWalk.i64_in _ xo;go_enter Tryz.func165,Tryz.ntmps165
 go_wp2_with (go_at_call 81;refine (LG.out _).mono ?_;rintro e w' ⟨rfl,rfl⟩)
 go_ret
 exact ⟨rfl,br.alloc (Nat.le_refl _) _⟩
end
section
open Go.RowKit Go.Shelf Go.Sort
attribute [local go_sem] Oper.semAt_some
theorem Tt {w:World} {g:Nat} {cs:Array Value} {e:TypeId} {fr:Nat×Nat} (h:w.heap[g]? =some (.cells cs e fr)) (i:Nat):w.cell? ⟨g,i,none⟩=cs[i]? :=by
 unfold World.cell?;simp [h]
theorem Oz {w:World} {g:Nat} {e:TypeId} {l:List Bool} (h:w.heap[g]? =some (.cells (l.map Value.bool).toArray e (0,0))):Iu w g l:=by
 intro i hi;rw [Tt h];simp [List.getD_eq_getElem?_getD,hi]
def mJ.bools {T:TypeId} (e:TypeId) (he:e≠T) (n:Nat) (l:List Bool):mJ T:=⟨fun v w=>∃g,v= .slice (some ⟨g,0,none⟩) n n/\w.heap[g]? =some (.cells (l.map Value.bool).toArray e (0,0)),fun _ _ _ h ⟨g,h1,h2⟩=>⟨g,h1,h.same _ _ h2 (fun cs fr e'=>by cases e';exact he rfl)⟩⟩
def XN (c:bY):List Bool:=[decide (1<=c.tag),decide (c.tag<=3),decide (1<=c.most),decide (c.most<=16384),kW c.ai 4 64,kW c.least c.ai 256,decide (1<=c.den),decide (c.den<=64)]
def U6 (c:bY):List Bool:=[decide (0<=c.ll),decide (c.ll<c.rl),decide (c.rl<c.rh),decide (c.rh<c.lh),decide (c.lh<=c.den)]
def lsL (c:bY):List Bool:=[decide (c.den<=2*c.rh),decide (8*c.rl<=c.den),decide (2*c.den<=c.rl*c.least)]
theorem H_ (c:bY):pg c=((XN c).all id&&(U6 c).all id&&(lsL c).all id):=by
 simp [pg,XN,U6,lsL,Bool.and_assoc]
theorem X8 {c:bY} (h1:(XN c).all id=true) (h2:(U6 c).all id=true):1<=c.den/\c.den<=64/\0<=c.ll/\c.ll<c.rl/\c.rl<c.rh/\c.rh<c.lh/\c.lh<=c.den/\c.rl*c.least<=64*256/\0<=c.rl*c.least:=by
 simp only [XN,U6,List.all_cons,List.all_nil,Bool.and_true,id,Bool.and_eq_true,decide_eq_true_eq] at h1 h2;obtain ⟨a1,a2,a3,a4,a5,a6,a7,a8⟩:=h1;obtain ⟨b1,b2,b3,b4,b5⟩:=h2;have s:=mZ.1 a5;have l:=mZ.1 a6;have q:=rH (show 0<=c.rl by omega) (show c.rl<=64 by omega) (show 0<=c.least by omega) l.2.1;exact ⟨a7,a8,b1,b2,b3,b4,b5,q.2,q.1⟩
theorem Ia {c:bY} (h:pg c=false):Ey c=50:=by simp [Ey,gQ,h]
theorem jv (c:bY) (w:World):
    Calls Tryz.prog 93 #[.agg #[.int .u8 c.tag,.int .i64 c.most,.int .i64 c.ai,.int .i64 c.least,.int .i64 c.den,.int .i64 c.ll,.int .i64 c.rl,.int .i64 c.rh,.int .i64 c.lh]] w (aC w (.int .i64 (Ey c))):=by
 obtain ⟨s,hs⟩:∃s,(XN c).all id=s:=⟨_,rfl⟩
 obtain ⟨p,hp⟩:∃p,(U6 c).all id=p:=⟨_,rfl⟩
 obtain ⟨q,hq⟩:∃q,(lsL c).all id=q:=⟨_,rfl⟩
 have hh:=H_ c;rw [hs,hp,hq] at hh;obtain ⟨r,hr⟩:∃r,Ey c=r:=⟨_,rfl⟩
 rw [hr];have HH:=hid hh;have HR:=hid hr;have HP:=hid hp;have HQ:=hid hq;have HSZ:=hid hs;clear hh hr hp hq;go_enter Tryz.func93,Tryz.ntmps93
 go_upto_region 1 with (fail)
 generalize hwz:w.alloc _=wz;have aO:wz.cell? ⟨w.heap.size,0,none⟩=some (.int .u8 c.tag):=by rw [<-hwz];(exact dC)
 have aN:wz.cell? ⟨w.heap.size,1,none⟩=some (.int .i64 c.most):=by rw [<-hwz];(exact dC)
 have aK:wz.cell? ⟨w.heap.size,2,none⟩=some (.int .i64 c.ai):=by rw [<-hwz];(exact dC)
 have aU:wz.cell? ⟨w.heap.size,3,none⟩=some (.int .i64 c.least):=by rw [<-hwz];(exact dC)
 have aT:wz.cell? ⟨w.heap.size,4,none⟩=some (.int .i64 c.den):=by rw [<-hwz];(exact dC)
 have aV:wz.cell? ⟨w.heap.size,5,none⟩=some (.int .i64 c.ll):=by rw [<-hwz];(exact dC)
 have dV:wz.cell? ⟨w.heap.size,6,none⟩=some (.int .i64 c.rl):=by rw [<-hwz];(exact dC)
 have dU:wz.cell? ⟨w.heap.size,7,none⟩=some (.int .i64 c.rh):=by rw [<-hwz];(exact dC)
 have dS:wz.cell? ⟨w.heap.size,8,none⟩=some (.int .i64 c.lh):=by rw [<-hwz];(exact dC)
 have bF:w.heap.size<wz.heap.size:=by rw [<-hwz];(exact gW)
 have HS:Hid (Below w.heap.size w wz):=by rw [<-hwz];exact hid (br.alloc (Nat.le_refl _) _)
 have hz:w.heap.size+1=wz.heap.size:=by rw [<-hwz];simp
 clear hwz;refine uh 28 xk (N:=108) rfl xk xk au (fun w'=>Below wz.heap.size wz w') (Ext 23) (rO [.is (.pointer (some ⟨w.heap.size,0,none⟩)),.is (.int .u8 c.tag),.is (.bool (decide (1<=c.tag))),.is (.pointer (some ⟨w.heap.size,0,none⟩)),.is (.int .u8 c.tag),.is (.bool (decide (c.tag<=3))),.is (.pointer (some ⟨w.heap.size,1,none⟩)),.is (.int .i64 c.most),.is (.bool (decide (1<=c.most))),.is (.pointer (some ⟨w.heap.size,1,none⟩)),.is (.int .i64 c.most),.is (.bool (decide (c.most<=16384))),.is (.pointer (some ⟨w.heap.size,2,none⟩)),.is (.int .i64 c.ai),.is (.bool (kW c.ai 4 64)),.is (.pointer (some ⟨w.heap.size,3,none⟩)),.is (.int .i64 c.least),.is (.pointer (some ⟨w.heap.size,2,none⟩)),.is (.int .i64 c.ai),.is (.bool (kW c.least c.ai 256)),.is (.pointer (some ⟨w.heap.size,4,none⟩)),.is (.int .i64 c.den),.is (.bool (decide (1<=c.den))),.is (.pointer (some ⟨w.heap.size,4,none⟩)),.is (.int .i64 c.den),.is (.bool (decide (c.den<=64))),.bools 4 au 8 (XN c),.is (.bool s)]) (iV _) br.drew ?steps ?fin
 case steps=>
     refine ⟨?o0,?o1,?o2,?o3,?o4,?o5,?o6,?o7,?o8,?o9,?o10,?o11,?o12,?o13,?o14,?PX,?o16,?Uj,?o18,?o19,?o20,?o21,?o22,?o23,?o24,?o25,?o26,?o27,trivial⟩<;>intro u a w' ev hJ hd K hK
     case o0=>
      have e1:tg a 1= .pointer (some ⟨w.heap.size,0,none⟩):=ev 1 au;have HK:=hid hK;clear hK ev hd;go_simp;exact HK.out _ _ aS hJ rfl (Ext.refl _ _)
     case o1=>
      have e5:tg a 5= .pointer (some ⟨w.heap.size,0,none⟩):=(ev 5 au).trans (hd 0 _ xk rfl);have g0:=jb hJ aO;have HK:=hid hK;clear hK ev hd;go_simp;exact HK.out _ _ aS hJ rfl (Ext.refl _ _)
     case o2=>
      have e6:tg a 6= .int .u8 c.tag:=(ev 6 au).trans (hd 1 _ xk rfl);have HK:=hid hK;clear hK ev hd;go_simp;exact HK.out _ _ aS hJ rfl (Ext.refl _ _)
     case o3=>
      have e1:tg a 1= .pointer (some ⟨w.heap.size,0,none⟩):=ev 1 au;have HK:=hid hK;clear hK ev hd;go_simp;exact HK.out _ _ aS hJ rfl (Ext.refl _ _)
     case o4=>
      have e8:tg a 8= .pointer (some ⟨w.heap.size,0,none⟩):=(ev 8 au).trans (hd 3 _ xk rfl);have g0:=jb hJ aO;have HK:=hid hK;clear hK ev hd;go_simp;exact HK.out _ _ aS hJ rfl (Ext.refl _ _)
     case o5=>
      have e9:tg a 9= .int .u8 c.tag:=(ev 9 au).trans (hd 4 _ xk rfl);have HK:=hid hK;clear hK ev hd;go_simp;exact HK.out _ _ aS hJ rfl (Ext.refl _ _)
     case o6=>
      have e1:tg a 1= .pointer (some ⟨w.heap.size,0,none⟩):=ev 1 au;have HK:=hid hK;clear hK ev hd;go_simp;exact HK.out _ _ aS hJ rfl (Ext.refl _ _)
     case o7=>
      have e11:tg a 11= .pointer (some ⟨w.heap.size,1,none⟩):=(ev 11 au).trans (hd 6 _ xk rfl);have g0:=jb hJ aN;have HK:=hid hK;clear hK ev hd;go_simp;exact HK.out _ _ aS hJ rfl (Ext.refl _ _)
     case o8=>
      have e12:tg a 12= .int .i64 c.most:=(ev 12 au).trans (hd 7 _ xk rfl);have HK:=hid hK;clear hK ev hd;go_simp;exact HK.out _ _ aS hJ rfl (Ext.refl _ _)
     case o9=>
      have e1:tg a 1= .pointer (some ⟨w.heap.size,0,none⟩):=ev 1 au;have HK:=hid hK;clear hK ev hd;go_simp;exact HK.out _ _ aS hJ rfl (Ext.refl _ _)
     case o10=>
      have e14:tg a 14= .pointer (some ⟨w.heap.size,1,none⟩):=(ev 14 au).trans (hd 9 _ xk rfl);have g0:=jb hJ aN;have HK:=hid hK;clear hK ev hd;go_simp;exact HK.out _ _ aS hJ rfl (Ext.refl _ _)
     case o11=>
      have e15:tg a 15= .int .i64 c.most:=(ev 15 au).trans (hd 10 _ xk rfl);have HK:=hid hK;clear hK ev hd;go_simp;exact HK.out _ _ aS hJ rfl (Ext.refl _ _)
     case o12=>
      have e1:tg a 1= .pointer (some ⟨w.heap.size,0,none⟩):=ev 1 au;have HK:=hid hK;clear hK ev hd;go_simp;exact HK.out _ _ aS hJ rfl (Ext.refl _ _)
     case o13=>
      have e17:tg a 17= .pointer (some ⟨w.heap.size,2,none⟩):=(ev 17 au).trans (hd 12 _ xk rfl);have g0:=jb hJ aK;have HK:=hid hK;clear hK ev hd;go_simp;exact HK.out _ _ aS hJ rfl (Ext.refl _ _)
     case o14=>
      have e18:tg a 18= .int .i64 c.ai:=(ev 18 au).trans (hd 13 _ xk rfl);have HK:=hid hK;have HC:=hid (vZ c.ai 4 64 xo w');clear hK ev hd;go_simp;refine HC.out.mono ?_;rintro e w'' ⟨rfl,rfl⟩;exact HK.out _ _ aS hJ rfl (Ext.refl _ _)
     case PX=>
      have e1:tg a 1= .pointer (some ⟨w.heap.size,0,none⟩):=ev 1 au;have HK:=hid hK;clear hK ev hd;go_simp;exact HK.out _ _ aS hJ rfl (Ext.refl _ _)
     case o16=>
      have e20:tg a 20= .pointer (some ⟨w.heap.size,3,none⟩):=(ev 20 au).trans (hd 15 _ xk rfl);have g0:=jb hJ aU;have HK:=hid hK;clear hK ev hd;go_simp;exact HK.out _ _ aS hJ rfl (Ext.refl _ _)
     case Uj=>
      have e1:tg a 1= .pointer (some ⟨w.heap.size,0,none⟩):=ev 1 au;have HK:=hid hK;clear hK ev hd;go_simp;exact HK.out _ _ aS hJ rfl (Ext.refl _ _)
     case o18=>
      have e22:tg a 22= .pointer (some ⟨w.heap.size,2,none⟩):=(ev 22 au).trans (hd 17 _ xk rfl);have g0:=jb hJ aK;have HK:=hid hK;clear hK ev hd;go_simp;exact HK.out _ _ aS hJ rfl (Ext.refl _ _)
     case o19=>
      have e21:tg a 21= .int .i64 c.least:=(ev 21 au).trans (hd 16 _ xk rfl);have e23:tg a 23= .int .i64 c.ai:=(ev 23 au).trans (hd 18 _ xk rfl);have HK:=hid hK;have HC:=hid (vZ c.least c.ai 256 xo w');clear hK ev hd;go_simp;refine HC.out.mono ?_;rintro e w'' ⟨rfl,rfl⟩;exact HK.out _ _ aS hJ rfl (Ext.refl _ _)
     case o20=>
      have e1:tg a 1= .pointer (some ⟨w.heap.size,0,none⟩):=ev 1 au;have HK:=hid hK;clear hK ev hd;go_simp;exact HK.out _ _ aS hJ rfl (Ext.refl _ _)
     case o21=>
      have e25:tg a 25= .pointer (some ⟨w.heap.size,4,none⟩):=(ev 25 au).trans (hd 20 _ xk rfl);have g0:=jb hJ aT;have HK:=hid hK;clear hK ev hd;go_simp;exact HK.out _ _ aS hJ rfl (Ext.refl _ _)
     case o22=>
      have e26:tg a 26= .int .i64 c.den:=(ev 26 au).trans (hd 21 _ xk rfl);have HK:=hid hK;clear hK ev hd;go_simp;exact HK.out _ _ aS hJ rfl (Ext.refl _ _)
     case o23=>
      have e1:tg a 1= .pointer (some ⟨w.heap.size,0,none⟩):=ev 1 au;have HK:=hid hK;clear hK ev hd;go_simp;exact HK.out _ _ aS hJ rfl (Ext.refl _ _)
     case o24=>
      have e28:tg a 28= .pointer (some ⟨w.heap.size,4,none⟩):=(ev 28 au).trans (hd 23 _ xk rfl);have g0:=jb hJ aT;have HK:=hid hK;clear hK ev hd;go_simp;exact HK.out _ _ aS hJ rfl (Ext.refl _ _)
     case o25=>
      have e29:tg a 29= .int .i64 c.den:=(ev 29 au).trans (hd 24 _ xk rfl);have HK:=hid hK;clear hK ev hd;go_simp;exact HK.out _ _ aS hJ rfl (Ext.refl _ _)
     case o26=>
      have e7:tg a 7= .bool (decide (1<=c.tag)):=(ev 7 au).trans (hd 2 _ xk rfl);have e10:tg a 10= .bool (decide (c.tag<=3)):=(ev 10 au).trans (hd 5 _ xk rfl);have e13:tg a 13= .bool (decide (1<=c.most)):=(ev 13 au).trans (hd 8 _ xk rfl);have e16:tg a 16= .bool (decide (c.most<=16384)):=(ev 16 au).trans (hd 11 _ xk rfl);have e19:tg a 19= .bool (kW c.ai 4 64):=(ev 19 au).trans (hd 14 _ xk rfl);have e24:tg a 24= .bool (kW c.least c.ai 256):=(ev 24 au).trans (hd 19 _ xk rfl);have e27:tg a 27= .bool (decide (1<=c.den)):=(ev 27 au).trans (hd 22 _ xk rfl);have e30:tg a 30= .bool (decide (c.den<=64)):=(ev 30 au).trans (hd 25 _ xk rfl);have f7:a.tmps[7]?.getD undef= .bool (decide (1<=c.tag)):=by rw [<-Array.getD_eq_getD_getElem?];exact e7
      have f10:a.tmps[10]?.getD undef= .bool (decide (c.tag<=3)):=by rw [<-Array.getD_eq_getD_getElem?];exact e10
      have f13:a.tmps[13]?.getD undef= .bool (decide (1<=c.most)):=by rw [<-Array.getD_eq_getD_getElem?];exact e13
      have f16:a.tmps[16]?.getD undef= .bool (decide (c.most<=16384)):=by rw [<-Array.getD_eq_getD_getElem?];exact e16
      have f19:a.tmps[19]?.getD undef= .bool (kW c.ai 4 64):=by rw [<-Array.getD_eq_getD_getElem?];exact e19
      have f24:a.tmps[24]?.getD undef= .bool (kW c.least c.ai 256):=by rw [<-Array.getD_eq_getD_getElem?];exact e24
      have f27:a.tmps[27]?.getD undef= .bool (decide (1<=c.den)):=by rw [<-Array.getD_eq_getD_getElem?];exact e27
      have f30:a.tmps[30]?.getD undef= .bool (decide (c.den<=64)):=by rw [<-Array.getD_eq_getD_getElem?];exact e30
      have HK:=hid hK;have hz':=hJ.size;clear hK ev hd;go_simp;exact HK.out _ _ aS (hJ.alloc hz' _) ⟨_,rfl,FZ _ _⟩ (Ext.below (br.alloc (Nat.le_refl _) _))
     case o27=>
      obtain ⟨g,h1,h2⟩:(mJ.bools (T:=23) 4 au 8 (XN c)).holds (u 31) w':=hd 26 _ xk rfl;have e31:tg a 31= .slice (some ⟨g,0,none⟩) 8 8:=(ev 31 au).trans h1;have HK:=hid hK;have HC:=hid (OE (XN c) 8 g (by simp [XN]) w' (Oz h2));rw [hs,show (XN c).length=8 from rfl] at HC;clear hK ev hd h1 h2;go_simp;refine HC.out.mono ?_;rintro e w'' ⟨rfl,rfl⟩;exact HK.out _ _ aS hJ rfl (Ext.refl _ _)
 case fin=>
  intro u w2 hJ hG;have h1:u 32= .bool s:=hG 27 _ rfl;have fH:=hJ.size;replace aO:w2.cell? ⟨w.heap.size,0,none⟩=some (.int .u8 c.tag):=rW hJ gW dL;replace aN:w2.cell? ⟨w.heap.size,1,none⟩=some (.int .i64 c.most):=rW hJ gW dL;replace aK:w2.cell? ⟨w.heap.size,2,none⟩=some (.int .i64 c.ai):=rW hJ gW dL;replace aU:w2.cell? ⟨w.heap.size,3,none⟩=some (.int .i64 c.least):=rW hJ gW dL;replace aT:w2.cell? ⟨w.heap.size,4,none⟩=some (.int .i64 c.den):=rW hJ gW dL;replace aV:w2.cell? ⟨w.heap.size,5,none⟩=some (.int .i64 c.ll):=rW hJ gW dL;replace dV:w2.cell? ⟨w.heap.size,6,none⟩=some (.int .i64 c.rl):=rW hJ gW dL;replace dU:w2.cell? ⟨w.heap.size,7,none⟩=some (.int .i64 c.rh):=rW hJ gW dL;replace dS:w2.cell? ⟨w.heap.size,8,none⟩=some (.int .i64 c.lh):=rW hJ gW dL;replace bF:w.heap.size<w2.heap.size:=xo;have HB2:=hid (aj hJ HS.out xo);have hz2:=hJ.size;clear hG hJ;simp only [aX,kR,dstsOf,List.take_succ_cons,List.take_zero,List.filterMap_cons,List.filterMap_nil,List.contains_cons,List.contains_nil,Nat.reduceBEq,Bool.or_false,Bool.false_or,Bool.or_true,Bool.true_or,if_true,if_false,Bool.false_eq_true,Nat.reduceAdd,Nat.zero_add,List.drop_succ_cons,List.drop_zero,h1];go_wp2_with fail
  refine (OE (U6 c) 5 w2.heap.size (by simp [U6]) _ (Ah w2 (U6 c) _)).mono ?_;rw [HP.out];rintro e w3 ⟨rfl,rfl⟩;have HB3:=hid (HB2.out.alloc (by omega:w.heap.size<=w2.heap.size) (.cells ((U6 c).map Value.bool).toArray 4));cases s with
  | false=>
   have VW:r=50:=by rw [<-HR.out];exact Ia (by rw [HH.out];rfl)
   subst VW;go_wp2
   go_ret
   exact ⟨rfl,HB3.out⟩
  | true=>
   cases p with
   | false=>
    have VW:r=50:=by rw [<-HR.out];exact Ia (by rw [HH.out];rfl)
    subst VW;go_wp2
    go_ret
    exact ⟨rfl,HB3.out⟩
   | true=>
    obtain ⟨d1,d2,d3,d4,d5,d6,d7,d8,d9⟩:=X8 HSZ.out HP.out;have w1:IntKind.i64.wrap (2*c.rh)=2*c.rh:=IntWalk.i64_in _ xo;have w2':IntKind.i64.wrap (8*c.rl)=8*c.rl:=IntWalk.i64_in _ xo;have w3':IntKind.i64.wrap (2*c.den)=2*c.den:=IntWalk.i64_in _ xo;have w4':IntKind.i64.wrap (c.rl*c.least)=c.rl*c.least:=IntWalk.i64_in _ xo;go_wp2_with fail
    refine (OE (lsL c) 3 (w2.heap.size+1) (by simp [lsL]) _ ?_).mono ?_
    . have hb:=Ah (w2.alloc (.cells ((U6 c).map Value.bool).toArray 4)) (lsL c) 4;rw [World.size_alloc] at hb;exact hb
    rw [HQ.out];rintro e w3 ⟨rfl,rfl⟩;have HB4:=hid (HB3.out.alloc (by simp;omega) (.cells ((lsL c).map Value.bool).toArray 4));clear HB3;cases q with
    | false=>
     have VW:r=50:=by rw [<-HR.out];exact Ia (by rw [HH.out];rfl)
     subst VW;go_wp2
     go_ret
     exact ⟨rfl,HB4.out⟩
    | true=>
     have hd:pg c=true:=HH.out;have hnum:=dw hd;have tb:=vG hd (n:=c.most) xo xo;have TK:=hid (fun W=>xE c hd c.most xo xo W);have HT:=hid (fun W=>EY c (ig c c.most) xo xo xo W);have hb:=abH (c:=c) xo (size:=ig c c.most) xo xo;have m1:=rH (show 0<=c.den by omega) d2 (show (0:Int)<=(EX c (ig c c.most):Nat) by omega) (show ((EX c (ig c c.most):Nat):Int)<=16 by omega);have m2:=rH (show 0<=c.lh-c.rh by omega) (show c.lh-c.rh<=64 by omega) (show 0<=c.ai by omega) (show c.ai<=64 by omega);have he:r=if c.den*(EX c (ig c c.most):Nat)<=(c.lh-c.rh)*c.ai then 0 else 50:=by
      rw [<-HR.out,Ey,gQ,hd,Bool.true_and];simp
     have HE:=hid he;clear he hb tb hnum hd;generalize ig c c.most=T at *;generalize ((EX c T:Nat):Int)=HHt at *;have w5:IntKind.i64.wrap (c.den*HHt)=c.den*HHt:=IntWalk.i64_in _ xo;have w6:IntKind.i64.wrap ((c.lh-c.rh)*c.ai)=(c.lh-c.rh)*c.ai:=IntWalk.i64_in _ xo;have w7:IntKind.i64.wrap (c.lh-c.rh)=c.lh-c.rh:=IntWalk.i64_in _ xo;clear m1 m2;go_upto_region 5 with (fail)
     generalize hwy:(w2.alloc (.cells ((U6 c).map Value.bool).toArray 4)).alloc _=wy;replace aO:wy.cell? ⟨w.heap.size,0,none⟩=some (.int .u8 c.tag):=by rw [<-hwy];(exact dC)
     replace aN:wy.cell? ⟨w.heap.size,1,none⟩=some (.int .i64 c.most):=by rw [<-hwy];(exact dC)
     replace aK:wy.cell? ⟨w.heap.size,2,none⟩=some (.int .i64 c.ai):=by rw [<-hwy];(exact dC)
     replace aU:wy.cell? ⟨w.heap.size,3,none⟩=some (.int .i64 c.least):=by rw [<-hwy];(exact dC)
     replace aT:wy.cell? ⟨w.heap.size,4,none⟩=some (.int .i64 c.den):=by rw [<-hwy];(exact dC)
     replace aV:wy.cell? ⟨w.heap.size,5,none⟩=some (.int .i64 c.ll):=by rw [<-hwy];(exact dC)
     replace dV:wy.cell? ⟨w.heap.size,6,none⟩=some (.int .i64 c.rl):=by rw [<-hwy];(exact dC)
     replace dU:wy.cell? ⟨w.heap.size,7,none⟩=some (.int .i64 c.rh):=by rw [<-hwy];(exact dC)
     replace dS:wy.cell? ⟨w.heap.size,8,none⟩=some (.int .i64 c.lh):=by rw [<-hwy];(exact dC)
     replace bF:w.heap.size<wy.heap.size:=by rw [<-hwy];(exact gW)
     have xB:Hid (Below w.heap.size w wy):=by rw [<-hwy];exact HB4
     clear hwy HB4;obtain ⟨X,hX⟩:∃X,c.den*HHt=X:=⟨_,rfl⟩
     obtain ⟨Y,hY⟩:∃Y,(c.lh-c.rh)*c.ai=Y:=⟨_,rfl⟩
     rw [hX] at w5 HE;rw [hY] at w6 HE;have K0:=hid (fun d os=>kr wy d os (TK.out _));have K1:=hid (fun d os=>kr wy d os (HT.out _));have q0:=cg aO;have q1:=cg aN;have q2:=cg aK;have q3:=cg aU;have q4:=cg aT;have q5:=cg aV;have q6:=cg dV;have q7:=cg dU;have q8:=cg dS;refine wp_region_quiet_below xk xk ?_;repeat (go_big_quiet_step (first|exact K0.out _ _|exact K1.out _ _))
     refine wpQuiet_nil ?_;intro _ hw';obtain ⟨⟨dq,osq⟩,hw''⟩:=hw';subst hw'';have hbq:=below_regrown wy dq osq;clear q0 q1 q2 q3 q4 q5 q6 q7 q8 K0 K1;have IR:=xv hbq xB;clear hbq xB;generalize Sort.grow (redrawn wy dq) osq=wx at *;by_cases hc:X<=Y
     . have hr0:=HE.out;rw [if_pos hc] at hr0;subst hr0;go_wp2
       go_ret
       exact ⟨rfl,IR.out⟩
     . have hr0:=HE.out;rw [if_neg hc] at hr0;subst hr0;go_wp2
       go_ret
       exact ⟨rfl,IR.out⟩
end
section
open Go.RowKit Go.Shelf Go.Sort
theorem dK {c:bY} (h:gQ c=true):pg c=true:=by
 simp only [gQ,Bool.and_eq_true] at h;exact h.1
theorem pq {c:bY} (h:gQ c=true):Ey c=0:=by simp [Ey,h]
theorem aag (c:bY) (hc:gQ c=true) (size:Int) (hp:kW size c.least (ig c c.most)=false) (w:World):
    Calls Tryz.prog 94 #[.agg #[.int .u8 c.tag,.int .i64 c.most,.int .i64 c.ai,.int .i64 c.least,.int .i64 c.den,.int .i64 c.ll,.int .i64 c.rl,.int .i64 c.rh,.int .i64 c.lh],.int .i64 size] w (aC w (.tuple #[.int .i64 0,.int .i64 2])):=by
 have hd:=dK hc;obtain ⟨d0,d1,d2,d3,d4,d5,d6,d7,d8,d9,d10,d11,d12,d13,Fq,Et,Fp,Es⟩:=dw hd;have tb:=vG hd (n:=c.most) xo xo;have CK:=hid (fun W=>jv c W);rw [pq hc] at CK;have TK:=hid (fun W=>xE c hd c.most xo xo W);have PW:=hid (fun W=>vZ size c.least (ig c c.most) xo W);rw [hp] at PW;clear hd hc hp;generalize ig c c.most=T at *;go_enter Tryz.func94,Tryz.ntmps94
 go_wp2_with fail
 refine (CK.out _).mono ?_;rintro e w1 ⟨rfl,hb1⟩;have aA:=hb1.size;try simp only [World.size_alloc,World.size_setCell] at aA
 have hh:=zu hb1 (zC (b:=w.heap.size) ax);obtain ⟨aO,aN,aK,aU,aT,aV,dV,dU,dS⟩:=hh;have bF:=aP hb1 (bV (b:=w.heap.size) ax);have hB1:Below w.heap.size w w1:=aH;have HB1:=hid hB1;clear hb1 hB1;go_upto_region 4 with (fail)
 have K0:=hid (fun d os=>kr w1 d os (TK.out _));have K1:=hid (fun d os=>kr w1 d os ((PW.out _).mono fun _ _ h=>⟨h.1,h.2 ▸ Below.refl _ _⟩));have q0:=cg aO;have q1:=cg aN;have q2:=cg aK;have q3:=cg aU;have q4:=cg aT;have q5:=cg aV;have q6:=cg dV;have q7:=cg dU;have q8:=cg dS;refine wp_region_quiet_below xk xk ?_;repeat (go_big_quiet_step (first|exact K0.out _ _|exact K1.out _ _))
 refine wpQuiet_nil ?_;intro _ hw';obtain ⟨⟨dq,osq⟩,hw''⟩:=hw';subst hw'';have hbq:=below_regrown w1 dq osq;clear q0 q1 q2 q3 q4 q5 q6 q7 q8 K0 K1;generalize Sort.grow (redrawn w1 dq) osq=wx at *;have HB2:=xv hbq HB1;go_wp2
 go_ret2
 exact ⟨rfl,HB2.out⟩
theorem v_ (c:bY) (hc:gQ c=true) (size:Int) (hp:kW size c.least (ig c c.most)=true) (w:World):
    Calls Tryz.prog 94 #[.agg #[.int .u8 c.tag,.int .i64 c.most,.int .i64 c.ai,.int .i64 c.least,.int .i64 c.den,.int .i64 c.ll,.int .i64 c.rl,.int .i64 c.rh,.int .i64 c.lh],.int .i64 size] w (aC w (.tuple #[.int .i64 (EX c size:Nat),.int .i64 0])):=by
 have hd:=dK hc;obtain ⟨d0,d1,d2,d3,d4,d5,d6,d7,d8,d9,d10,d11,d12,d13,Fq,Et,Fp,Es⟩:=dw hd;have tb:=vG hd (n:=c.most) xo xo;have CK:=hid (fun W=>jv c W);rw [pq hc] at CK;have TK:=hid (fun W=>xE c hd c.most xo xo W);have PW:=hid (fun W=>vZ size c.least (ig c c.most) xo W);have sb:=mZ.1 hp;have HT:=hid (fun W=>EY c size xo xo xo W);rw [hp] at PW;clear hd hc hp;generalize ig c c.most=T at *;generalize ((EX c size:Nat):Int)=HH at *;clear sb tb;go_enter Tryz.func94,Tryz.ntmps94
 go_wp2_with fail
 refine (CK.out _).mono ?_;rintro e w1 ⟨rfl,hb1⟩;have aA:=hb1.size;try simp only [World.size_alloc,World.size_setCell] at aA
 have hh:=zu hb1 (zC (b:=w.heap.size) ax);obtain ⟨aO,aN,aK,aU,aT,aV,dV,dU,dS⟩:=hh;have bF:=aP hb1 (bV (b:=w.heap.size) ax);have hB1:Below w.heap.size w w1:=aH;have HB1:=hid hB1;clear hb1 hB1;go_upto_region 4 with (fail)
 have K0:=hid (fun d os=>kr w1 d os (TK.out _));have K1:=hid (fun d os=>kr w1 d os ((PW.out _).mono fun _ _ h=>⟨h.1,h.2 ▸ Below.refl _ _⟩));have q0:=cg aO;have q1:=cg aN;have q2:=cg aK;have q3:=cg aU;have q4:=cg aT;have q5:=cg aV;have q6:=cg dV;have q7:=cg dU;have q8:=cg dS;refine wp_region_quiet_below xk xk ?_;repeat (go_big_quiet_step (first|exact K0.out _ _|exact K1.out _ _))
 refine wpQuiet_nil ?_;intro _ hw';obtain ⟨⟨dq,osq⟩,hw''⟩:=hw';subst hw'';have hbq:=below_regrown w1 dq osq;clear q0 q1 q2 q3 q4 q5 q6 q7 q8 K0 K1;generalize Sort.grow (redrawn w1 dq) osq=wx at *;have HB2:=xv hbq HB1;have VS:=hbq.size;simp (disch:=omega) only [jK hbq] at *;replace bF:=aP hbq bF;have hz2:=HB2.out.size;go_wp2_with fail
 refine (HT.out _).mono ?_;rintro e w3 ⟨rfl,hb3⟩;have kD:=hb3.size;simp (disch:=omega) only [jK hb3] at *;replace bF:=aP hb3 bF;have HB3:=hid (aj hb3 HB2.out hz2);go_wp2
 go_ret2
 exact ⟨rfl,HB3.out⟩
theorem acT (c:bY) (hc:gQ c=true) (n:Int) (h0:0<=n) (h1:n<=c.most) (w:World):
    Calls Tryz.prog 119 #[.agg #[.int .u8 c.tag,.int .i64 c.most,.int .i64 c.ai,.int .i64 c.least,.int .i64 c.den,.int .i64 c.ll,.int .i64 c.rl,.int .i64 c.rh,.int .i64 c.lh],.int .i64 n] w (aC w (.tuple #[.int .i64 (ig c n),.int .i64 0])):=by
 have hd:=dK hc;obtain ⟨d0,d1,d2,d3,d4,d5,d6,d7,d8,d9,d10,d11,d12,d13,Fq,Et,Fp,Es⟩:=dw hd;have CK:=hid (fun W=>jv c W);rw [pq hc] at CK;have TK:=hid (fun W=>xE c hd n xo xo W);clear hd hc;generalize ig c n=T at *;clear d0 d1 d2 d4 d5 d6 d7 d8 d9 d10 d11 d12 d13 Fq Et Fp Es;go_enter Tryz.func119,Tryz.ntmps119
 go_wp2_with fail
 refine (CK.out _).mono ?_;rintro e w1 ⟨rfl,hb1⟩;have aA:=hb1.size;try simp only [World.size_alloc,World.size_setCell] at aA
 have hh:=zu hb1 (zC (b:=w.heap.size) ax);obtain ⟨aO,aN,aK,aU,aT,aV,dV,dU,dS⟩:=hh;have bF:=aP hb1 (bV (b:=w.heap.size) ax);have hB1:Below w.heap.size w w1:=aH;have HB1:=hid hB1;have hz1:=hB1.size;clear hb1 hB1;go_wp2_with fail
 refine (TK.out _).mono ?_;rintro e w3 ⟨rfl,hb3⟩;have kD:=hb3.size;simp (disch:=omega) only [jK hb3] at *;replace bF:=aP hb3 bF;have HB3:=hid (aj hb3 HB1.out hz1);go_wp2
 go_ret2
 exact ⟨rfl,HB3.out⟩
structure mM (c:bY) (size:Int) (a H:Nat):Prop where
 may:gQ c=true
 cap:kW size c.least (ig c c.most)=true
 ai:c.ai=((2^a:Nat):Int)
 a2:2<=a
 a6:a<=6
 all:size=((2^a*2^H:Nat):Int)
 big:2^a*2^H<=65536
 hgt:EX c size=H
 EZ:H<=14
theorem PG {a lo hi:Nat} (h1:2^lo<=2^a) (h2:2^a<=2^hi):lo<=a/\a<=hi:=
  ⟨(Nat.pow_le_pow_iff_right xo).1 h1,(Nat.pow_le_pow_iff_right xo).1 h2⟩
theorem Qo {c:bY} {size:Int} (hc:gQ c=true) (hp:kW size c.least (ig c c.most)=true):∃a H,mM c size a H:=by
 have hd:=dK hc;obtain ⟨d0,d1,d2,d3,d4,d5,d6,d7,d8,d9,d10,d11,d12,d13,Fq,Et,Fp,Es⟩:=dw hd;have tb:=vG hd (n:=c.most) xo xo;have hf:=nG hd;obtain ⟨-,-,a,ea⟩:=r_ hf.2.2.2.2.1;obtain ⟨l1,l2,b,eb⟩:=r_ hp;have ha:=PG (a:=a) (lo:=2) (hi:=6) xo xo;have hab:a<=b:=(Nat.pow_le_pow_iff_right (a:=2) xo).1 xo;obtain ⟨H,rfl⟩:∃H,b=a+H:=⟨b-a,by omega⟩
 rw [Nat.pow_add] at eb;have hb:=PG (a:=a+H) (lo:=0) (hi:=16) (by rw [Nat.pow_add];omega) (by rw [Nat.pow_add];omega);refine ⟨a,H,hc,hp,ea,ha.1,ha.2,eb,by omega,?_,by omega⟩;rw [EX,ea,eb,Int.natCast_mul,Int.mul_ediv_cancel_left _ (by have:=Nat.two_pow_pos a;omega),Int.toNat_natCast,Nat.log2_two_pow]
theorem mM.wd {c:bY} {size:Int} {a H h:Nat} (k:mM c size a H) (hh:h<=H):pW c h=((2^a*2^h:Nat):Int)/\4<=pW c h/\pW c h<=65536/\2^a*2^h<=2^a*2^H:=by
 have h1:=aa0 k.ai k.big hh;have e:pW c h=((2^a*2^h:Nat):Int):=by rw [pW,k.ai];push_cast;rfl
 have h4:2^2<=2^a:=Nat.pow_le_pow_right xo k.a2;have h5:=Nat.mul_le_mul h4 (Nat.two_pow_pos h);have h6:2^a*2^h<=2^a*2^H:=Nat.mul_le_mul_left _ (Nat.pow_le_pow_right xo hh);exact ⟨e,by omega,h1.2,h6⟩
theorem mM.least {c:bY} {size:Int} {a H:Nat} (k:mM c size a H):size=c.least\/0<H:=by
 have l:=mZ.1 k.cap;obtain ⟨d0,d1,d2,d3,d4,d5,d6,d7,d8,d9,d10,d11,d12,d13,Fq,Et,Fp,Es⟩:=dw (dK k.may);rcases Nat.eq_zero_or_pos H with e|e
 . left;have:=k.all;have:=k.ai;rw [e] at *;simp at *;omega
 . exact Or.inr e
theorem FP (c:bY) (size:Int) (a H h:Nat) (k:mM c size a H) (hh:h<=H) (n:Int) (h0:0<=n) (h1:n<=pW c h) (w:World):
    Calls Tryz.prog 170 #[.agg #[.int .u8 c.tag,.int .i64 c.most,.int .i64 c.ai,.int .i64 c.least,.int .i64 c.den,.int .i64 c.ll,.int .i64 c.rl,.int .i64 c.rh,.int .i64 c.lh],.int .i64 size,.int .i64 h,.int .i64 n] w (aC w (.tuple #[.int .i64 H,.int .i64 0])):=by
 obtain ⟨e,w4,w6,-⟩:=k.wd hh;have e2:c.ai*2^h=pW c h:=rfl;have hH:=k.EZ;have HI:=hid (fun W=>v_ c k.may size k.cap W);rw [k.hgt] at HI;clear k e;generalize pW c h=W at *;have hwr:IntKind.i64.wrap (c.ai*2^h)=W:=by rw [e2];exact IntWalk.i64_in _ xo
 clear e2;go_enter Tryz.func170,Tryz.ntmps170
 go_wp2_with fail
 refine (HI.out _).mono ?_;rintro e w1 ⟨rfl,hb1⟩;have aA:=hb1.size;try simp only [World.size_alloc,World.size_setCell] at aA
 have hh:=zu hb1 (zC (b:=w.heap.size) ax);obtain ⟨aO,aN,aK,aU,aT,aV,dV,dU,dS⟩:=hh;have bF:=aP hb1 (bV (b:=w.heap.size) ax);have hB1:Below w.heap.size w w1:=aH;have HB1:=hid hB1;clear hb1 hB1;go_wp2
 go_ret2
 exact ⟨rfl,HB1.out⟩
theorem Oy (c:bY) (size:Int) (a H h:Nat) (k:mM c size a H) (hh:h<=H) (n:Int) (h0:0<=n) (h1:pW c h<n) (w:World):
    Calls Tryz.prog 170 #[.agg #[.int .u8 c.tag,.int .i64 c.most,.int .i64 c.ai,.int .i64 c.least,.int .i64 c.den,.int .i64 c.ll,.int .i64 c.rl,.int .i64 c.rh,.int .i64 c.lh],.int .i64 size,.int .i64 h,.int .i64 n] w (aC w (.tuple #[.int .i64 0,.int .i64 2])):=by
 obtain ⟨e,w4,w6,-⟩:=k.wd hh;have e2:c.ai*2^h=pW c h:=rfl;have hH:=k.EZ;have HI:=hid (fun W=>v_ c k.may size k.cap W);rw [k.hgt] at HI;clear k e;generalize pW c h=W at *;have hwr:IntKind.i64.wrap (c.ai*2^h)=W:=by rw [e2];exact IntWalk.i64_in _ xo
 clear e2;go_enter Tryz.func170,Tryz.ntmps170
 go_wp2_with fail
 refine (HI.out _).mono ?_;rintro e w1 ⟨rfl,hb1⟩;have aA:=hb1.size;try simp only [World.size_alloc,World.size_setCell] at aA
 have hh:=zu hb1 (zC (b:=w.heap.size) ax);obtain ⟨aO,aN,aK,aU,aT,aV,dV,dU,dS⟩:=hh;have bF:=aP hb1 (bV (b:=w.heap.size) ax);have hB1:Below w.heap.size w w1:=aH;have HB1:=hid hB1;clear hb1 hB1;go_wp2
 go_ret2
 exact ⟨rfl,HB1.out⟩
theorem DC (c:bY) (size:Int) (a H h:Nat) (k:mM c size a H) (hh:h<=H) (n leaf root:Int) (h0:0<=n) (h1:n<=65538) (l0:0<=leaf) (l1:leaf<=64) (r0:0<=root) (r1:root<=64) (w:World):
    Calls Tryz.prog 171 #[.agg #[.int .u8 c.tag,.int .i64 c.most,.int .i64 c.ai,.int .i64 c.least,.int .i64 c.den,.int .i64 c.ll,.int .i64 c.rl,.int .i64 c.rh,.int .i64 c.lh],.int .i64 H,.int .i64 h,.int .i64 n,.int .i64 leaf,.int .i64 root] w (aC w (.int .i64 (J4 c H h n leaf root))):=by
 obtain ⟨e,w4,w6,-⟩:=k.wd hh;have e2:c.ai*2^h=pW c h:=rfl;have hH:=k.EZ;obtain ⟨d0,d1,d2,d3,d4,d5,d6,d7,d8,d9,d10,d11,d12,d13,Fq,Et,Fp,Es⟩:=dw (dK k.may);have m1:=rH (show 0<=c.den by omega) d9 (show (0:Int)<=(H:Int) by omega) (show (H:Int)<=14 by omega);have m2:=rH l0 l1 (show (0:Int)<=(H:Int) by omega) (show (H:Int)<=14 by omega);have m3:=rH l0 l1 (show (0:Int)<=(H:Int)-h by omega) (show (H:Int)-h<=14 by omega);have m4:=rH r0 r1 (show (0:Int)<=(h:Int) by omega) (show (h:Int)<=14 by omega);have m5:=rH l0 l1 (show (0:Int)<=(h:Int) by omega) (show (h:Int)<=14 by omega);have el:=GY leaf root H h;have el2:GZ leaf root H h=leaf*H+(root-leaf)*h:=rfl;have e3:(root-leaf)*h=root*h-leaf*h:=Int.sub_mul ..;have bl:0<=GZ leaf root H h/\GZ leaf root H h<=2000:=xo;have x1:IntKind.i64.wrap (leaf*H)=leaf*H:=IntWalk.i64_in _ xo;have x2:IntKind.i64.wrap ((root-leaf)*h)=(root-leaf)*h:=IntWalk.i64_in _ xo;have x3:IntKind.i64.wrap (leaf*H+(root-leaf)*h)=leaf*H+(root-leaf)*h:=IntWalk.i64_in _ xo;have x4:IntKind.i64.wrap (root-leaf)=root-leaf:=IntWalk.i64_in _ xo;have x5:IntKind.i64.wrap (c.den*H)=c.den*H:=IntWalk.i64_in _ xo;unfold J4;have BT:=hid (fun W (hp:0<H)=>OQ leaf root h H ⟨by omega,by omega⟩ ⟨by omega,by omega⟩ ⟨by omega,by omega⟩ ⟨by omega,by omega⟩ xo xo xo (GZ leaf root H h) rfl x1 x2 x3 x4 W);have C1:=hid (fun W=>D5 n (pW c h) (GZ leaf root H h) (c.den*H) ⟨by omega,by omega⟩ ⟨by omega,by omega⟩ ⟨by omega,by omega⟩ ⟨by omega,by omega⟩ W);have C2:=hid (fun W=>D5 n (pW c h) root c.den ⟨by omega,by omega⟩ ⟨by omega,by omega⟩ ⟨by omega,by omega⟩ ⟨by omega,by omega⟩ W);clear k e m1 m2 m3 m4 m5 el el2 e3 bl x1 x2 x3 x4;generalize pW c h=W at *;have hwr:IntKind.i64.wrap (c.ai*2^h)=W:=by rw [e2];exact IntWalk.i64_in _ xo
 clear e2;generalize GZ leaf root H h=lim at *;clear d0 d1 d2 d3 d4 d5 d6 d7 d8 d9 d10 d11 d12 d13 Fq Et Fp Es;rcases Nat.eq_zero_or_pos H with hz|hz
 . rw [if_neg xo];generalize o_ n W root c.den=v at *;have hg:decide (0<(H:Int))=false:=by simp;omega
   clear BT C1;go_enter Tryz.func171,Tryz.ntmps171
   go_upto_region 1 with (fail)
   generalize hwz:w.alloc _=wz;have hh:=WG hwz (zC (b:=w.heap.size) ax);obtain ⟨aO,aN,aK,aU,aT,aV,dV,dU,dS⟩:=hh;have bF:=kT hwz (bV (b:=w.heap.size) ax);have HS:Hid (Below w.heap.size w wz):=by rw [<-hwz];exact hid (br.alloc (Nat.le_refl _) _)
   clear hwz;have q0:=cg aO;have q1:=cg aN;have q2:=cg aK;have q3:=cg aU;have q4:=cg aT;have q5:=cg aV;have q6:=cg dV;have q7:=cg dU;have q8:=cg dS;refine wp_region_quiet_below xk xk ?_;repeat (go_big_quiet_step (fail))
   refine wpQuiet_nil ?_;intro _ hw';obtain ⟨⟨dq,osq⟩,hw''⟩:=hw';subst hw'';have hbq:=below_regrown wz dq osq;clear q0 q1 q2 q3 q4 q5 q6 q7 q8;generalize Sort.grow (redrawn wz dq) osq=wx at *;have HB2:=xv hbq HS;have hz2:=HB2.out.size;have VS:=hbq.size;simp (disch:=omega) only [jK hbq] at *;replace bF:=aP hbq bF;go_wp2_with fail
   refine (C2.out _).mono ?_;rintro e w3 ⟨rfl,hb3⟩;have kD:=hb3.size;simp (disch:=omega) only [jK hb3] at *;replace bF:=aP hb3 bF;have HB3:=hid (aj hb3 HB2.out hz2);go_wp2
   go_ret
   exact ⟨rfl,HB3.out⟩
 . rw [if_pos hz];generalize o_ n W lim (c.den*H)=v at *;have hg:decide (0<(H:Int))=true:=by simp;omega
   have BT':=hid (fun W=>BT.out W hz);clear BT C2;generalize hdH:c.den*(H:Int)=dH at *;go_enter Tryz.func171,Tryz.ntmps171
   go_upto_region 1 with (fail)
   generalize hwz:w.alloc _=wz;have hh:=WG hwz (zC (b:=w.heap.size) ax);obtain ⟨aO,aN,aK,aU,aT,aV,dV,dU,dS⟩:=hh;have bF:=kT hwz (bV (b:=w.heap.size) ax);have HS:Hid (Below w.heap.size w wz):=by rw [<-hwz];exact hid (br.alloc (Nat.le_refl _) _)
   clear hwz;have q0:=cg aO;have q1:=cg aN;have q2:=cg aK;have q3:=cg aU;have q4:=cg aT;have q5:=cg aV;have q6:=cg dV;have q7:=cg dU;have q8:=cg dS;refine wp_region_quiet_below xk xk ?_;repeat (go_big_quiet_step (fail))
   refine wpQuiet_nil ?_;intro _ hw';obtain ⟨⟨dq,osq⟩,hw''⟩:=hw';subst hw'';have hbq:=below_regrown wz dq osq;clear q0 q1 q2 q3 q4 q5 q6 q7 q8;generalize Sort.grow (redrawn wz dq) osq=wx at *;have HB2:=xv hbq HS;have hz2:=HB2.out.size;have VS:=hbq.size;simp (disch:=omega) only [jK hbq] at *;replace bF:=aP hbq bF;go_wp2_with fail
   refine (BT'.out _).mono ?_;rintro e w3 ⟨rfl,hb3⟩;have kD:=hb3.size;simp (disch:=omega) only [jK hb3] at *;replace bF:=aP hb3 bF;have HB3:=hid (aj hb3 HB2.out hz2);have hz3:=HB3.out.size;go_wp2_with fail
   refine (C1.out _).mono ?_;rintro e w4' ⟨rfl,hb4⟩;have afy:=hb4.size;simp (disch:=omega) only [jK hb4] at *;replace bF:=aP hb4 bF;have HB4:=hid (aj hb4 HB3.out hz3);go_wp2
   go_ret
   exact ⟨rfl,HB4.out⟩
def inB (c:bY) (h:Nat) (n:Int):Int:=if n<=pW c h then 0 else 2
theorem Zf {c:bY} {size:Int} {a H h:Nat} (k:mM c size a H) (hh:h<=H) {n:Int} (h1:pW c h<n):qL c H h n=false:=by
 obtain ⟨e,w4,w6,-⟩:=k.wd hh;obtain ⟨d0,d1,d2,d3,d4,d5,d6,d7,d8,d9,d10,d11,d12,d13,Fq,Et,Fp,Es⟩:=dw (dK k.may);have m0:pW c h*c.rh<=pW c h*c.den:=Int.mul_le_mul_of_nonneg_left xo xo;have m1:pW c h*c.den<n*c.den:=Int.mul_lt_mul_of_pos_right h1 xo;unfold qL;split
 . rw [decide_eq_false_iff_not];omega
 . rename_i hz
   rw [decide_eq_false_iff_not];have p1:c.lh*((H:Int)-h)<=c.den*((H:Int)-h):=Int.mul_le_mul_of_nonneg_right xo xo;have p2:c.rh*(h:Int)<=c.den*(h:Int):=Int.mul_le_mul_of_nonneg_right xo xo;have p3:c.den*((H:Int)-h)+c.den*(h:Int)=c.den*(H:Int):=by rw [<-Int.mul_add];congr 1;omega
   have p4:pW c h*(c.lh*((H:Int)-h)+c.rh*h)<=pW c h*(c.den*(H:Int)):=Int.mul_le_mul_of_nonneg_left xo xo;have p5:pW c h*(c.den*(H:Int))<n*(c.den*(H:Int)):=Int.mul_lt_mul_of_pos_right h1 (Int.mul_pos xo xo);have p6:n*(H:Int)*c.den=n*(c.den*(H:Int)):=by rw [Int.mul_assoc,Int.mul_comm (H:Int)]
   omega
theorem QI (c:bY) (size:Int) (a H h:Nat) (k:mM c size a H) (hh:h<=H) (n:Int) (h0:0<=n) (h1:n<=65537) (w:World):
    Calls Tryz.prog 98 #[.agg #[.int .u8 c.tag,.int .i64 c.most,.int .i64 c.ai,.int .i64 c.least,.int .i64 c.den,.int .i64 c.ll,.int .i64 c.rl,.int .i64 c.rh,.int .i64 c.lh],.int .i64 size,.int .i64 h,.int .i64 n] w (aC w (.tuple #[.bool (qL c H h n),.int .i64 (inB c h n)])):=by
 unfold inB;by_cases hn:n<=pW c h
 . rw [if_pos hn];obtain ⟨d0,d1,d2,d3,d4,d5,d6,d7,d8,d9,d10,d11,d12,d13,Fq,Et,Fp,Es⟩:=dw (dK k.may);have AK:=hid (fun W=>FP c size a H h k hh n h0 hn W);have DN:=hid (fun W=>DC c size a H h k hh n c.lh c.rh h0 xo xo xo xo xo W);have hr:=WC c H h n;generalize qL c H h n=r at *;generalize J4 c H h n c.lh c.rh=v at *;clear k hn;go_enter Tryz.func98,Tryz.ntmps98
   go_wp2_with fail
   refine (AK.out _).mono ?_;rintro e w1 ⟨rfl,hb1⟩;have aA:=hb1.size;try simp only [World.size_alloc,World.size_setCell] at aA
   have hh:=zu hb1 (zC (b:=w.heap.size) ax);obtain ⟨aO,aN,aK,aU,aT,aV,dV,dU,dS⟩:=hh;have bF:=aP hb1 (bV (b:=w.heap.size) ax);have hB1:Below w.heap.size w w1:=aH;have HB1:=hid hB1;have hz1:=hB1.size;clear hb1 hB1;go_wp2_with fail
   refine (DN.out _).mono ?_;rintro e w3 ⟨rfl,hb3⟩;have kD:=hb3.size;simp (disch:=omega) only [jK hb3] at *;replace bF:=aP hb3 bF;have HB3:=hid (aj hb3 HB1.out hz1);go_wp2
   go_ret2
   exact ⟨rfl,HB3.out⟩
 . rw [if_neg hn,Zf k hh xo];have AK:=hid (fun W=>Oy c size a H h k hh n h0 xo W);clear k hn;go_enter Tryz.func98,Tryz.ntmps98
   go_wp2_with fail
   refine (AK.out _).mono ?_;rintro e w1 ⟨rfl,hb1⟩;have aA:=hb1.size;try simp only [World.size_alloc,World.size_setCell] at aA
   have hh:=zu hb1 (zC (b:=w.heap.size) ax);obtain ⟨aO,aN,aK,aU,aT,aV,dV,dU,dS⟩:=hh;have bF:=aP hb1 (bV (b:=w.heap.size) ax);have hB1:Below w.heap.size w w1:=aH;go_wp2
   go_ret2
   exact ⟨rfl,hB1⟩
theorem TP (c:bY) (size:Int) (a H h:Nat) (k:mM c size a H) (hh:h<=H) (n:Int) (h0:0<=n) (h1:n<=pW c h) (w:World):
    Calls Tryz.prog 99 #[.agg #[.int .u8 c.tag,.int .i64 c.most,.int .i64 c.ai,.int .i64 c.least,.int .i64 c.den,.int .i64 c.ll,.int .i64 c.rl,.int .i64 c.rh,.int .i64 c.lh],.int .i64 size,.int .i64 h,.int .i64 n] w (aC w (.tuple #[.bool (Gl c size H h n),.int .i64 0])):=by
 obtain ⟨d0,d1,d2,d3,d4,d5,d6,d7,d8,d9,d10,d11,d12,d13,Fq,Et,Fp,Es⟩:=dw (dK k.may);obtain ⟨e,w4,w6,-⟩:=k.wd hh;have AK:=hid (fun W=>FP c size a H h k hh n h0 h1 W);have DN:=hid (fun W=>DC c size a H h k hh (n+1) c.ll c.rl xo xo xo xo xo xo W);have hw1:IntKind.i64.wrap (n+1)=n+1:=IntWalk.i64_in _ xo;have hl:=k.least;unfold Gl;by_cases hs:size=c.least
 . rw [decide_eq_true hs,Bool.true_or];have hs2:(size==c.least)=true:=by simp [hs]
   clear k h1 DN hs hl;generalize c.least=le at *;go_enter Tryz.func99,Tryz.ntmps99
   go_wp2_with fail
   refine (AK.out _).mono ?_;rintro e w1 ⟨rfl,hb1⟩;have aA:=hb1.size;try simp only [World.size_alloc,World.size_setCell] at aA
   have hh:=zu hb1 (zC (b:=w.heap.size) ax);obtain ⟨aO,aN,aK,aU,aT,aV,dV,dU,dS⟩:=hh;have bF:=aP hb1 (bV (b:=w.heap.size) ax);have hB1:Below w.heap.size w w1:=aH;go_wp2
   go_ret2
   exact ⟨rfl,hB1⟩
 . rw [decide_eq_false hs,Bool.false_or];have hz:0<H:=by
    rcases hl with q|q
    . exact absurd q hs
    . exact q
   have hr:=UU c size H h n hz;rw [<-hr];have hs2:(size==c.least)=false:=by simp [hs]
   clear k h1 hl hr hs;generalize J4 c H h (n+1) c.ll c.rl=v at *;generalize c.least=le at *;go_enter Tryz.func99,Tryz.ntmps99
   go_wp2_with fail
   refine (AK.out _).mono ?_;rintro e w1 ⟨rfl,hb1⟩;have aA:=hb1.size;try simp only [World.size_alloc,World.size_setCell] at aA
   have hh:=zu hb1 (zC (b:=w.heap.size) ax);obtain ⟨aO,aN,aK,aU,aT,aV,dV,dU,dS⟩:=hh;have bF:=aP hb1 (bV (b:=w.heap.size) ax);have hB1:Below w.heap.size w w1:=aH;have HB1:=hid hB1;have hz1:=hB1.size;clear hb1 hB1;go_wp2_with fail
   refine (DN.out _).mono ?_;rintro e w3 ⟨rfl,hb3⟩;have kD:=hb3.size;simp (disch:=omega) only [jK hb3] at *;replace bF:=aP hb3 bF;have HB3:=hid (aj hb3 HB1.out hz1);go_wp2
   go_ret2
   exact ⟨rfl,HB3.out⟩
end
section
open Go.RowKit
theorem JG {n e:Nat} (hn:n<9223372036854775808) (he:e<=62):n &&& (18446744073709551615-(2^e-1))=n/2^e*2^e:=by
 have h:2^e<2^64:=Nat.pow_lt_pow_right xo xo;have hp:=Nat.two_pow_pos e;rw [show 18446744073709551615-(2^e-1)=2^64-((2^e-1)+1) by omega];apply Nat.eq_of_testBit_eq;intro i;rw [Nat.testBit_and,Nat.testBit_two_pow_sub_succ xo,Nat.testBit_two_pow_sub_one];have h2:=Fv (x:=(n:Int)) xo e i;have h3:wQ (n:Int) e=((n/2^e*2^e:Nat):Int):=by rw [wQ];push_cast;rfl
 rw [h3,fD,fD] at h2;rw [h2];by_cases hi:i<64
 . by_cases hie:i<e
   . have:¬e<=i:=xo;simp [hi,hie,this]
   . have:e<=i:=xo;simp [hi,hie,this]
 . have:n.testBit i=false:=by
     have:=zo (x:=(n:Int)) xo (k:=i) xo;rwa [fD] at this
   simp [this]
theorem uQ {n e:Nat} (hn:n<9223372036854775808) (he:e<=62):bits .andNot .i64 (n:Int) ((2^e-1:Nat):Int)=((n/2^e*2^e:Nat):Int):=by
 have h:2^e<2^64:=Nat.pow_lt_pow_right xo xo;have hd:=Nat.div_mul_le_self n (2^e);show IntKind.i64.wrap ((BitVec.ofInt 64 (n:Int) &&& ~~~BitVec.ofInt 64 ((2^e-1:Nat):Int)).toNat:Int)=_;rw [BitVec.toNat_and,BitVec.toNat_not,ofInt_u64 n xo,ofInt_u64 (2^e-1) xo,show 2^64-1-(2^e-1)=18446744073709551615-(2^e-1) by omega,JG hn he,IntWalk.i64_in _ xo]
structure Lm (ai size:Int) (a H:Nat):Prop where
 ai:ai=((2^a:Nat):Int)
 all:size=((2^a*2^H:Nat):Int)
 a2:2<=a
 a6:a<=6
 big:2^a*2^H<=65536
theorem Lm.nums {ai size:Int} {a H:Nat} (k:Lm ai size a H):4<=ai/\ai<=64/\ai<=size/\size<=65536/\wB ai=true/\wB size=true/\size/ai=((2^H:Nat):Int)/\H<=14/\2^H<=16384:=by
 obtain ⟨k1,k2,k3,k4,k5⟩:=k;have h4:2^2<=2^a:=Nat.pow_le_pow_right xo k3;have h6:2^a<=2^6:=Nat.pow_le_pow_right xo k4;have h7:2^a*1<=2^a*2^H:=Nat.mul_le_mul_left _ (Nat.two_pow_pos H);have h8:2^2*2^H<=2^a*2^H:=Nat.mul_le_mul_right _ h4;have hH:H<=14:=by
  rcases Nat.lt_or_ge 14 H with q|q
  . have:=Nat.pow_lt_pow_right (a:=2) xo q;omega
  . exact q
 refine ⟨by omega,by omega,by omega,by omega,by rw [k1];exact pO a,by rw [k2,<-Nat.pow_add];exact pO _,?_,hH,by omega⟩;rw [k1,k2,Int.natCast_mul,Int.mul_ediv_cancel_left _ (by have:=Nat.two_pow_pos a;omega)]
theorem MF (ai size:Int) (a H:Nat) (k:Lm ai size a H) (w:World):
    Calls Tryz.prog 211 #[.int .i64 ai,.int .i64 size] w fun e w'=>e= .returned (.tuple #[.int .i64 H,.int .i64 0])/\w=w':=by
 obtain ⟨n1,n2,n3,n4,n5,n6,n7,n8,n9⟩:=k.nums;have P1:=hid (fun w=>yx ai xo w);have P2:=hid (fun w=>yx size xo w);rw [n5] at P1;rw [n6] at P2;have hp:=Nat.two_pow_pos H;have DN:=hid (fun w=>IB (2^H) (size/ai) n7 xo xo w);rw [Nat.log2_two_pow] at DN;have hq2:size.tdiv ai=size/ai:=Int.tdiv_eq_ediv_of_nonneg xo;have hs0:(ai==0)=false:=by simp;omega
 have hqb:size/ai<=65536:=xo;have hq0:0<=size/ai:=xo;generalize size/ai=q at *;have hwq:IntKind.i64.wrap q=q:=IntWalk.i64_in _ xo;clear k n5 n6 n7 hp;go_enter Tryz.func211,Tryz.ntmps211
 go_wp2_with (first
   | (go_at_call 209;first|(with_reducible refine (P1.out _).mono ?_;rintro e w' ⟨rfl,rfl⟩)|(with_reducible refine (P2.out _).mono ?_;rintro e w' ⟨rfl,rfl⟩))
   | (go_at_call 81;refine (DN.out _).mono ?_;rintro e w' ⟨rfl,rfl⟩))
 go_ret2
 exact ⟨rfl,rfl⟩
theorem EI (ai size:Int) (a H:Nat) (k:Lm ai size a H) (p:Option Addr) (ca m:Nat) (xs:List Int) (hm:xs.length=m) (hm2:m<=1000) (hx:∀i,i<m->0<=xs.getD i 0/\xs.getD i 0<size) (w:World) (hw:aQ .i64 w p xs):
    Calls Tryz.prog 168 #[.int .i64 ai,.int .i64 size,.slice p m ca] w fun e w'=>e= .returned (.tuple #[.int .i64 H,.int .i64 0])/\w=w':=by
 have WH:=hid (fun w=>MF ai size a H k w);have HW:=hid hw;have HX:=hid hx;have HM:=hid hm;clear k hw hx hm;go_enter Tryz.func168,Tryz.ntmps168
 go_wp2_with (go_at_call 211;refine (WH.out _).mono ?_;rintro e w' ⟨rfl,rfl⟩)
 go_loopg [23] m (fun gk iv wr=>∃i:Nat,i+gk=m/\iv= .int .i64 i/\wr=w)
 case atStart=>exact ⟨0,by omega,rfl,rfl⟩
 case round=>
  obtain ⟨i,hi,rfl,rfl⟩:=hrel;by_cases hlt:i<m
  . obtain ⟨b,off,x,rfl,hxx,hc,-⟩:=HW.out.get (i:=i) (by rw [HM.out];exact hlt);have hb:=HX.out i hlt;rw [hxx.out] at hb;obtain ⟨hb1,hb2⟩:=hb;clear hxx;go_wp2
    go_roundg (gk-1)
    case measure=>omega
    case rel=>exact ⟨i+1,by omega,by go_num,rfl⟩
  . go_wp2
    go_ret2
    exact ⟨rfl,rfl⟩
theorem UC {w:World} {b:Nat} {x y:Value} (h0:w.cell? ⟨b,0,none⟩=some x) (h1:w.cell? ⟨b,1,none⟩=some y):∀j v,[x,y][j]? =some v->w.cell? ⟨b,j,none⟩=some v:=by
 intro j v hj;match j,hj with
 | 0,hj=>cases hj;exact h0
 | 1,hj=>cases hj;exact h1
theorem FY (W at_ f:Int) (hb:bits .andNot .i64 at_ (W-1)=f) (h0:1<=W) (h1:W<=65536) (h2:0<=f) (h3:f<=65536) (w:World):
    Calls Tryz.prog 169 #[.int .i64 W,.int .i64 at_] w (aC w (.agg #[.int .i64 f,.int .i64 (f+W)])):=by
 have w1:IntKind.i64.wrap (W-1)=W-1:=IntWalk.i64_in _ xo;have w2:IntKind.i64.wrap (f+W)=f+W:=IntWalk.i64_in _ xo;go_enter Tryz.func169,Tryz.ntmps169
 go_wp2
 refine bodyPost_ret (iO rfl rfl (ag [.int .i64 f,.int .i64 (f+W)] Tryz.underlying157 rfl xk (UC ?_ ?_))) rfl ⟨rfl,?_⟩
 . (exact dL)
 . (exact dL)
 . (exact aH)
theorem xZ:(Tryz.prog.info? 157).map (fun i=>(i.zero,i.size,i.bytes))=some (some (.agg #[.int .i64 0,.int .i64 0]),2,16):=by kernel_rfl
def Ci (W m:Nat):List (Int×Int):=(List.range m).map fun i=>(((i*W:Nat):Int),((i*W:Nat):Int)+W)
theorem qP (W m:Nat):(Ci W m).length=m:=by simp [Ci]
theorem Rh (W m:Nat):Ci W (m+1)=Ci W m++[(((m*W:Nat):Int),((m*W:Nat):Int)+W)]:=by
 simp [Ci,List.range_succ]
theorem UZ {W m i:Nat} (h:i<m):(Ci W m).getD i (0,0)=(((i*W:Nat):Int),((i*W:Nat):Int)+W):=by
 rw [List.getD_eq_getElem?_getD,Ci,List.getElem?_map,List.getElem?_range h];rfl
def Iy (w:World) (l:List (Int×Int)) (x:Value) (e:Ending) (w':World):Prop:=
  ∃v,e= .returned (.tuple #[v,x])/\w'.ownsRow w.heap.size 157 2 v l.length ((lC l).map (Value.int .i64))/\Below w.heap.size w w'
theorem acA (ai size:Int) (a H h:Nat) (k:Lm ai size a H) (hh:h<=H) (w:World):
    Calls Tryz.prog 97 #[.int .i64 ai,.int .i64 size,.int .i64 h] w (Iy w (Ci (2^a*2^h) (2^(H-h))) (.int .i64 0)):=by
 obtain ⟨n1,n2,n3,n4,n5,n6,n7,n8,n9⟩:=k.nums;have AK:=hid (fun w=>EI ai size a H k none 0 0 [] rfl xo (fun i hi=>by omega) w (fun i hi=>by simp at hi));have hWW:2^a*2^h=2^(a+h):=(Nat.pow_add ..).symm;have hall:size=((2^(a+h)*2^(H-h):Nat):Int):=by rw [k.all,Nat.pow_add,Nat.mul_assoc,<-Nat.pow_add 2 h (H-h),Nat.add_sub_cancel' hh]
 have adP:ai*2^h=((2^(a+h):Nat):Int):=by rw [k.ai,Nat.pow_add];push_cast;rfl
 have hah:a+h<=62:=by have:=k.a6;omega
 have AR:=hid (fun (i:Nat) (hi:i*2^(a+h)<65536) w=>(FY ((2^(a+h):Nat):Int) ((i*2^(a+h):Nat):Int) ((i*2^(a+h):Nat):Int) (by
     have:=uQ (n:=i*2^(a+h)) (e:=a+h) xo hah;rw [Nat.mul_div_cancel _ (Nat.two_pow_pos _)] at this;rw [<-this];congr 1
     have:=Nat.two_pow_pos (a+h);omega) (by have:=Nat.two_pow_pos (a+h);omega) (by
     have:2^(a+h)*1<=2^(a+h)*2^(H-h):=Nat.mul_le_mul_left _ (Nat.two_pow_pos _);omega) xo xo w))
 rw [hWW];have hW0:=Nat.two_pow_pos (a+h);have hm0:=Nat.two_pow_pos (H-h);generalize 2^(a+h)=W at *;generalize 2^(H-h)=m at *;have hWb:W<=65536:=by
  have:W*1<=W*m:=Nat.mul_le_mul_left _ hm0;omega
 have hmb:m<=65536:=by
  have:1*m<=W*m:=Nat.mul_le_mul_right _ hW0;omega
 have hwr:IntKind.i64.wrap (ai*2^h)=(W:Int):=by rw [adP];exact IntWalk.i64_in _ xo
 have hzb:((W*m:Nat):Int)<=65536:=xo;have aeN:=hid hall;have hHh:decide (H<h)=false:=by simp;omega
 clear k hWW adP n5 n6 n7 hall;go_enter Tryz.func97,Tryz.ntmps97
 go_wp2_with (go_at_call 168;refine (AK.out _).mono ?_;rintro e w' ⟨rfl,rfl⟩)
 go_loopg [6,9] m (fun gk v iv wr=>∃i:Nat,i+gk=m/\iv= .int .i64 ((i*W:Nat):Int)/\Hid (wr.ownsRow w.heap.size 157 2 v i ((lC (Ci W i)).map (Value.int .i64)))/\Hid (Below w.heap.size w wr)/\w.heap.size<=wr.heap.size)
 case atStart=>exact ⟨0,by omega,by simp,hid (World.ownsRow_nil _ _ _ _),hid br,Nat.le_refl _⟩
 case round=>
  obtain ⟨i,hi,rfl,HO,HB,hz⟩:=hrel;obtain ⟨ao,co,rfl,-⟩:=aG HO.out;by_cases hlt:i<m
  . have hiw:(i+1)*W<=W*m:=by rw [Nat.mul_comm W];exact Nat.mul_le_mul_right _ hlt
    have hs:=Rh W i;have hl1:(lC (Ci W i)).length=i*2:=by rw [gp,qP]
    rw [Nat.succ_mul] at hiw;have A1:=hid (fun w=>AR.out i xo w);have HSU:=hid hs;have XH:=aeN.out;have hgo:decide (((i*W:Nat):Int)<size)=true:=by simp;rw [XH];omega
    have hnx:IntKind.i64.wrap (((i*W:Nat):Int)+W)=(((i+1)*W:Nat):Int):=by rw [Nat.succ_mul];push_cast;exact IntWalk.i64_in _ (by push_cast at hiw;omega)
    clear hs AR XH;obtain ⟨f,hf⟩:∃f:Int,((i*W:Nat):Int)=f:=⟨_,rfl⟩
    rw [hf] at A1 HSU hgo hnx ⊢;clear hf hiw;go_wp2_with fail
    refine (A1.out _).mono ?_;rintro e w1 ⟨rfl,hb1⟩;have hz1:=hb1.size;have HB1:=xv hb1 HB;have HO1:=hid (ay HO.out hb1);clear hb1
    go_wp2_with (at_builtin;refine nU (.tmp 34) (.tmp 40) 154 157 (.agg #[.int .i64 0,.int .i64 0]) 2 16 Tryz.underlying154 xZ rfl au au w.heap.size _ i _ (some ⟨w1.heap.size,0,none⟩) 1 1 [.int .i64 f,.int .i64 (f+W)] (HO1.out.alloc _) rfl aS (oq _ [.int .i64 f,.int .i64 (f+W)] _ _ rfl) (by simp [Value.oneCell']) xo (by simp;omega) rfl rfl rfl rfl ?_;intro v2 w2 ho2 hg2 _
                 obtain ⟨a2,c2,rfl,-⟩:=aG ho2;have yA:=hid ho2;have HG2:=hid hg2;clear ho2 hg2)
    have HB2:=hid ((HB1.out.alloc (by have:=HB1.out.size;omega) (.cells #[.int .i64 f,.int .i64 (f+W)] 157)).grown HG2.out (by simp;omega) (fun z hz=>by have:=(HO1.out.lt z hz).1;omega));have hz2:=HB2.out.size;go_roundg (gk-1)
    case measure=>omega
    case rel=>
     refine ⟨i+1,by omega,by first|rw [hnx]|rfl,hid ?_,HB2,hz2⟩;rw [HSU.out,nY,List.map_append];exact yA.out
  . have him:m=i:=xo;subst him;have hgo:decide (((m*W:Nat):Int)<size)=false:=by simp;rw [aeN.out,Nat.mul_comm];omega
    clear AR;obtain ⟨f,hf⟩:∃f:Int,((m*W:Nat):Int)=f:=⟨_,rfl⟩
    rw [hf] at hgo ⊢;clear hf;go_wp2
    go_ret2
    refine ⟨_,rfl,?_,HB.out⟩;rw [qP];exact HO.out
end
section
open Go.RowKit Go.Sort
end
section
open Go.RowKit Go.Shelf Go.Sort
theorem OD (w:World) (ai:Int) (wa ka va:Option Addr) (wc kc vc cc lw n lv lc:Nat) (laid:Int) (cb co:Nat) (cs:List Int) (A B:Int) (S lo hi:Nat) (hseg:ai=S) (hS:4<=S) (hS2:S<=64) (hA:A=((lo*S:Nat):Int)) (hB:B=((hi*S:Nat):Int)) (h1:lo<=hi) (h2:hi<=lc) (h3:lo<lc) (hcc:lc<=cc) (hlc:lc<=65536) (hlen:cs.length=lc) (hcs:OM cs S) (hcn:aQ .i64 w (some ⟨cb,co,none⟩) cs):
    Calls Tryz.prog 96 #[.agg #[.int .i64 ai,.slice wa lw wc,.slice ka n kc,.slice va lv vc,.slice (some ⟨cb,co,none⟩) lc cc,.int .u64 laid],.int .i64 A,.int .i64 B] w (aC w (.int .i64 (jS cs lo hi))):=by
 have tA:A.tdiv ai=lo:=by
  rw [hA,hseg,Int.tdiv_eq_ediv_of_nonneg xo,<-Int.natCast_ediv,Nat.mul_div_cancel _ xo]
 have tB:B.tdiv ai=hi:=by
  rw [hB,hseg,Int.tdiv_eq_ediv_of_nonneg xo,<-Int.natCast_ediv,Nat.mul_div_cancel _ xo]
 have hs0:(ai==0)=false:=by simp;omega
 have hs1:¬ai=0:=xo;have wlo:IntKind.i64.wrap (lo:Int)=lo:=IntWalk.i64_in _ xo;have whi:IntKind.i64.wrap (hi:Int)=hi:=IntWalk.i64_in _ xo;have hne:¬cc=lo:=xo;have HN:=hid (hcn.below (br.alloc (Nat.le_refl _) (.cells #[.int .i64 ai,.slice wa lw wc,.slice ka n kc,.slice va lv vc,.slice (some ⟨cb,co,none⟩) lc cc,.int .u64 laid] 29)));have HL:=hid hlen;have HC:=hid hcs;have HSS:=hid (And.intro hS hS2);clear hA hB hseg hcn hlen hcs hS hS2;go_enter Tryz.func96,Tryz.ntmps96
 go_upto_region 1 with (fail)
 generalize hwz:w.alloc _=wz;have hh:=Dy hwz (jA (b:=w.heap.size) ax);obtain ⟨aO,aN,aK,aU,aT,aV⟩:=hh;have bF:=kT hwz (bV (b:=w.heap.size) ax);have HS:Hid (Below w.heap.size w wz):=by rw [<-hwz];exact hid (br.alloc (Nat.le_refl _) _)
 rw [hwz] at HN;clear hwz;have q0:=cg aO;have q1:=cg aN;have q2:=cg aK;have q3:=cg aU;have q4:=cg aT;have q5:=cg aV;refine wp_region_quiet_below xk xk ?_;repeat (go_big_quiet_step (fail))
 refine wpQuiet_nil ?_;intro _ hw';obtain ⟨⟨dq,osq⟩,hw''⟩:=hw';subst hw'';have hbq:=below_regrown wz dq osq;clear q0 q1 q2 q3 q4 q5;generalize Sort.grow (redrawn wz dq) osq=wx at *;have HB2:=xv hbq HS;have HN2:=hid (HN.out.below hbq);obtain ⟨m,hm⟩:∃m,hi-lo=m:=⟨_,rfl⟩
 go_wp2
 go_loopg [6,8,21] m (fun gk sv x iv wr=>∃i:Nat,i+gk=m/\iv= .int .i64 i/\sv= .int .i64 (jS cs lo (lo+i))/\wx=wr)
 case atStart=>exact ⟨0,by omega,rfl,by rw [Nat.add_zero,B_],rfl⟩
 case round=>
  obtain ⟨i,hi2,rfl,rfl,rfl⟩:=hrel;by_cases hlt:i<m
  . obtain ⟨b,off,x,hbe,hxx,hc,-⟩:=HN2.out.get (i:=lo+i) (by rw [HL.out];omega);cases hbe;have hc':wx.cell? ⟨cb,co+lo+i,none⟩=some (.int .i64 x):=by rw [Nat.add_assoc];exact hc
    have hsb:=Pe HC.out lo i;have hx2:=HC.out (lo+i);have hsu:=yJ cs (a:=lo) (b:=lo+i) xo;rw [hxx.out] at hsu hx2;have hsn:S*i<=64*65536:=Nat.mul_le_mul HSS.out.2 xo;have Eh:=HSS.out.2;generalize jS cs lo (lo+i)=s0 at *;have hw1:IntKind.i64.wrap (s0+x)=s0+x:=IntWalk.i64_in _ xo;have HSU:=hid hsu;clear hc hxx hsu hx2 hsb;go_wp2
    go_roundg (gk-1)
    case measure=>omega
    case rel=>exact ⟨i+1,by omega,by go_num,by rw [<-Nat.add_assoc,HSU.out],rfl⟩
  . have him:i=m:=xo;subst him;have e:jS cs lo (lo+i)=jS cs lo hi:=by congr 1;omega
    rw [e];clear e;go_wp2
    go_ret
    exact ⟨rfl,HB2.out⟩
theorem yg {c:bY} {s:aW} (hc:gQ c=true) (h:pU c s=false):kY c s=8:=by simp [kY,hc,Ho,h]
theorem Eo (c:bY) (hc:gQ c=false) (ai:Int) (wa ka va ca:Option Addr) (wc kc vc cc lw n lv lc:Nat) (laid:Int) (w:World):
    Calls Tryz.prog 50 #[.agg #[.int .u8 c.tag,.int .i64 c.most,.int .i64 c.ai,.int .i64 c.least,.int .i64 c.den,.int .i64 c.ll,.int .i64 c.rl,.int .i64 c.rh,.int .i64 c.lh],.agg #[.int .i64 ai,.slice wa lw wc,.slice ka n kc,.slice va lv vc,.slice ca lc cc,.int .u64 laid]] w (aC w (.int .i64 50)):=by
 have CK:=hid (fun W=>jv c W);rw [show Ey c=50 by simp [Ey,hc]] at CK;clear hc;go_enter Tryz.func50,Tryz.ntmps50
 go_wp2_with fail
 refine (CK.out _).mono ?_;rintro e w1 ⟨rfl,hb1⟩;have aA:=hb1.size;try simp only [World.size_alloc,World.size_setCell] at aA
 have hh:=zu hb1 (uj (zC (b:=w.heap.size) ax));obtain ⟨aO,aN,aK,aU,aT,aV,dV,dU,dS⟩:=hh;have bF:=aP hb1 (dB (bV (b:=w.heap.size) ax));have hh:=jl hb1 (jA (b:=w.heap.size+1) ax);obtain ⟨eH,fA,eG,eF,eY,eX⟩:=hh;have iC:=aP hb1 (bV (b:=w.heap.size+1) ax);have hB1:Below w.heap.size w w1:=aH;go_wp2
 go_ret
 exact ⟨rfl,hB1⟩
theorem Em (c:bY) (hc:gQ c=true) (ai:Int) (wa ka va ca:Option Addr) (wc kc vc cc lw n lv lc:Nat) (laid:Int) (hp:kW n c.least (ig c c.most)=false) (w:World):
    Calls Tryz.prog 50 #[.agg #[.int .u8 c.tag,.int .i64 c.most,.int .i64 c.ai,.int .i64 c.least,.int .i64 c.den,.int .i64 c.ll,.int .i64 c.rl,.int .i64 c.rh,.int .i64 c.lh],.agg #[.int .i64 ai,.slice wa lw wc,.slice ka n kc,.slice va lv vc,.slice ca lc cc,.int .u64 laid]] w (aC w (.int .i64 8)):=by
 have CK:=hid (fun W=>jv c W);rw [pq hc] at CK;have HI:=hid (fun W=>aag c hc n hp W);clear hc hp;go_enter Tryz.func50,Tryz.ntmps50
 go_wp2_with fail
 refine (CK.out _).mono ?_;rintro e w1 ⟨rfl,hb1⟩;have aA:=hb1.size;try simp only [World.size_alloc,World.size_setCell] at aA
 have hh:=zu hb1 (uj (zC (b:=w.heap.size) ax));obtain ⟨aO,aN,aK,aU,aT,aV,dV,dU,dS⟩:=hh;have bF:=aP hb1 (dB (bV (b:=w.heap.size) ax));have hh:=jl hb1 (jA (b:=w.heap.size+1) ax);obtain ⟨eH,fA,eG,eF,eY,eX⟩:=hh;have iC:=aP hb1 (bV (b:=w.heap.size+1) ax);have hB1:Below w.heap.size w w1:=aH;have HB1:=hid hB1;clear hb1 hB1;go_wp2_with fail
 refine (HI.out _).mono ?_;rintro e w2 ⟨rfl,hb2⟩;have fH:=hb2.size;simp (disch:=omega) only [jK hb2] at *;replace bF:=aP hb2 bF;replace iC:=aP hb2 iC;have HB2:=xv hb2 HB1;clear hb2;go_upto_region 6 with (fail)
 have q0:=cg aO;have q1:=cg aN;have q2:=cg aK;have q3:=cg aU;have q4:=cg aT;have q5:=cg aV;have q6:=cg dV;have q7:=cg dU;have q8:=cg dS;have q9:=cg eH;have q10:=cg fA;have q11:=cg eG;have q12:=cg eF;have q13:=cg eY;have Yg:=cg eX;refine wp_region_quiet_below xk xk ?_;repeat (go_big_quiet_step (fail))
 refine wpQuiet_nil ?_;intro _ hw';obtain ⟨⟨dq,osq⟩,hw''⟩:=hw';subst hw'';have hbq:=below_regrown w2 dq osq;clear q0 q1 q2 q3 q4 q5 q6 q7 q8 q9 q10 q11 q12 q13 Yg;generalize Sort.grow (redrawn w2 dq) osq=wx at *;have HB3:=xv hbq HB2;go_wp2
 go_ret
 exact ⟨rfl,HB3.out⟩
theorem Du (c:bY) (hc:gQ c=true) (ai:Int) (wa ka va ca:Option Addr) (wc kc vc cc lw n lv lc:Nat) (laid:Int) (hp:kW n c.least (ig c c.most)=true) (x:Int) (hx:x≠0) (w:World)
    (SK:Hid (∀W,Below w.heap.size w W->Calls Tryz.prog 95 #[.agg #[.int .i64 ai,.slice wa lw wc,.slice ka n kc,.slice va lv vc,.slice ca lc cc,.int .u64 laid]] W (aC W (.int .i64 x)))):
    Calls Tryz.prog 50 #[.agg #[.int .u8 c.tag,.int .i64 c.most,.int .i64 c.ai,.int .i64 c.least,.int .i64 c.den,.int .i64 c.ll,.int .i64 c.rl,.int .i64 c.rh,.int .i64 c.lh],.agg #[.int .i64 ai,.slice wa lw wc,.slice ka n kc,.slice va lv vc,.slice ca lc cc,.int .u64 laid]] w (aC w (.int .i64 8)):=by
 have CK:=hid (fun W=>jv c W);rw [pq hc] at CK;have HI:=hid (fun W=>v_ c hc n hp W);generalize ((EX c n:Nat):Int)=HH at *;have gx:(x != 0)=true:=by simpa using hx
 clear hc hp hx;go_enter Tryz.func50,Tryz.ntmps50
 go_wp2_with fail
 refine (CK.out _).mono ?_;rintro e w1 ⟨rfl,hb1⟩;have aA:=hb1.size;try simp only [World.size_alloc,World.size_setCell] at aA
 have hh:=zu hb1 (uj (zC (b:=w.heap.size) ax));obtain ⟨aO,aN,aK,aU,aT,aV,dV,dU,dS⟩:=hh;have bF:=aP hb1 (dB (bV (b:=w.heap.size) ax));have hh:=jl hb1 (jA (b:=w.heap.size+1) ax);obtain ⟨eH,fA,eG,eF,eY,eX⟩:=hh;have iC:=aP hb1 (bV (b:=w.heap.size+1) ax);have hB1:Below w.heap.size w w1:=aH;have HB1:=hid hB1;clear hb1 hB1;go_wp2_with fail
 refine (HI.out _).mono ?_;rintro e w2 ⟨rfl,hb2⟩;have fH:=hb2.size;simp (disch:=omega) only [jK hb2] at *;replace bF:=aP hb2 bF;replace iC:=aP hb2 iC;have HB2:=xv hb2 HB1;clear hb2;go_upto_region 6 with (fail)
 have K0:=hid (fun d os=>kr w2 d os (SK.out _ (aj (below_regrown _ _ _) HB2.out HB2.out.size)));have q0:=cg aO;have q1:=cg aN;have q2:=cg aK;have q3:=cg aU;have q4:=cg aT;have q5:=cg aV;have q6:=cg dV;have q7:=cg dU;have q8:=cg dS;have q9:=cg eH;have q10:=cg fA;have q11:=cg eG;have q12:=cg eF;have q13:=cg eY;have Yg:=cg eX;refine wp_region_quiet_below xk xk ?_;repeat (go_big_quiet_step (first|with_reducible exact K0.out _ _|exact K0.out _ _))
 refine wpQuiet_nil ?_;intro _ hw';obtain ⟨⟨dq,osq⟩,hw''⟩:=hw';subst hw'';have hbq:=below_regrown w2 dq osq;clear q0 q1 q2 q3 q4 q5 q6 q7 q8 q9 q10 q11 q12 q13 Yg K0;generalize Sort.grow (redrawn w2 dq) osq=wx at *;have HB3:=xv hbq HB2;go_wp2
 go_ret
 exact ⟨rfl,HB3.out⟩
theorem Hq (c:bY) (hc:gQ c=true) (ai:Int) (wa ka va ca:Option Addr) (wc kc vc cc lw n lv lc:Nat) (laid:Int) (hp:kW n c.least (ig c c.most)=true) (hs:ai≠c.ai) (w:World)
    (SK:Hid (∀W,Below w.heap.size w W->Calls Tryz.prog 95 #[.agg #[.int .i64 ai,.slice wa lw wc,.slice ka n kc,.slice va lv vc,.slice ca lc cc,.int .u64 laid]] W (aC W (.int .i64 0)))):
    Calls Tryz.prog 50 #[.agg #[.int .u8 c.tag,.int .i64 c.most,.int .i64 c.ai,.int .i64 c.least,.int .i64 c.den,.int .i64 c.ll,.int .i64 c.rl,.int .i64 c.rh,.int .i64 c.lh],.agg #[.int .i64 ai,.slice wa lw wc,.slice ka n kc,.slice va lv vc,.slice ca lc cc,.int .u64 laid]] w (aC w (.int .i64 8)):=by
 have CK:=hid (fun W=>jv c W);rw [pq hc] at CK;have HI:=hid (fun W=>v_ c hc n hp W);generalize ((EX c n:Nat):Int)=HH at *;have gs:(ai != c.ai)=true:=by simpa using hs
 clear hc hp hs;go_enter Tryz.func50,Tryz.ntmps50
 go_wp2_with fail
 refine (CK.out _).mono ?_;rintro e w1 ⟨rfl,hb1⟩;have aA:=hb1.size;try simp only [World.size_alloc,World.size_setCell] at aA
 have hh:=zu hb1 (uj (zC (b:=w.heap.size) ax));obtain ⟨aO,aN,aK,aU,aT,aV,dV,dU,dS⟩:=hh;have bF:=aP hb1 (dB (bV (b:=w.heap.size) ax));have hh:=jl hb1 (jA (b:=w.heap.size+1) ax);obtain ⟨eH,fA,eG,eF,eY,eX⟩:=hh;have iC:=aP hb1 (bV (b:=w.heap.size+1) ax);have hB1:Below w.heap.size w w1:=aH;have HB1:=hid hB1;clear hb1 hB1;go_wp2_with fail
 refine (HI.out _).mono ?_;rintro e w2 ⟨rfl,hb2⟩;have fH:=hb2.size;simp (disch:=omega) only [jK hb2] at *;replace bF:=aP hb2 bF;replace iC:=aP hb2 iC;have HB2:=xv hb2 HB1;clear hb2;go_upto_region 6 with (fail)
 have K0:=hid (fun d os=>kr w2 d os (SK.out _ (aj (below_regrown _ _ _) HB2.out HB2.out.size)));have q0:=cg aO;have q1:=cg aN;have q2:=cg aK;have q3:=cg aU;have q4:=cg aT;have q5:=cg aV;have q6:=cg dV;have q7:=cg dU;have q8:=cg dS;have q9:=cg eH;have q10:=cg fA;have q11:=cg eG;have q12:=cg eF;have q13:=cg eY;have Yg:=cg eX;refine wp_region_quiet_below xk xk ?_;repeat (go_big_quiet_step (first|with_reducible exact K0.out _ _|exact K0.out _ _))
 refine wpQuiet_nil ?_;intro _ hw';obtain ⟨⟨dq,osq⟩,hw''⟩:=hw';subst hw'';have hbq:=below_regrown w2 dq osq;clear q0 q1 q2 q3 q4 q5 q6 q7 q8 q9 q10 q11 q12 q13 Yg K0;generalize Sort.grow (redrawn w2 dq) osq=wx at *;have HB3:=xv hbq HB2;go_wp2
 go_ret
 exact ⟨rfl,HB3.out⟩
theorem Ej (c:bY) (hc:gQ c=true) (ai:Int) (wa ka va ca:Option Addr) (wc kc vc cc lw n lv lc:Nat) (laid:Int) (hp:kW n c.least (ig c c.most)=true) (hs:ai=c.ai) (many:Int) (hm:c.most<many) (w:World)
    (SK:Hid (∀W,Below w.heap.size w W->Calls Tryz.prog 95 #[.agg #[.int .i64 ai,.slice wa lw wc,.slice ka n kc,.slice va lv vc,.slice ca lc cc,.int .u64 laid]] W (aC W (.int .i64 0))))
    (AM:Hid (∀W,Below w.heap.size w W->Calls Tryz.prog 96 #[.agg #[.int .i64 ai,.slice wa lw wc,.slice ka n kc,.slice va lv vc,.slice ca lc cc,.int .u64 laid],.int .i64 0,.int .i64 n] W (aC W (.int .i64 many)))):
    Calls Tryz.prog 50 #[.agg #[.int .u8 c.tag,.int .i64 c.most,.int .i64 c.ai,.int .i64 c.least,.int .i64 c.den,.int .i64 c.ll,.int .i64 c.rl,.int .i64 c.rh,.int .i64 c.lh],.agg #[.int .i64 ai,.slice wa lw wc,.slice ka n kc,.slice va lv vc,.slice ca lc cc,.int .u64 laid]] w (aC w (.int .i64 8)):=by
 have CK:=hid (fun W=>jv c W);rw [pq hc] at CK;have HI:=hid (fun W=>v_ c hc n hp W);generalize ((EX c n:Nat):Int)=HH at *;have gs:(ai != c.ai)=false:=by simpa using hs
 have gm:decide (c.most<many)=true:=by simpa using hm
 clear hc hp hs;go_enter Tryz.func50,Tryz.ntmps50
 go_wp2_with fail
 refine (CK.out _).mono ?_;rintro e w1 ⟨rfl,hb1⟩;have aA:=hb1.size;try simp only [World.size_alloc,World.size_setCell] at aA
 have hh:=zu hb1 (uj (zC (b:=w.heap.size) ax));obtain ⟨aO,aN,aK,aU,aT,aV,dV,dU,dS⟩:=hh;have bF:=aP hb1 (dB (bV (b:=w.heap.size) ax));have hh:=jl hb1 (jA (b:=w.heap.size+1) ax);obtain ⟨eH,fA,eG,eF,eY,eX⟩:=hh;have iC:=aP hb1 (bV (b:=w.heap.size+1) ax);have hB1:Below w.heap.size w w1:=aH;have HB1:=hid hB1;clear hb1 hB1;go_wp2_with fail
 refine (HI.out _).mono ?_;rintro e w2 ⟨rfl,hb2⟩;have fH:=hb2.size;simp (disch:=omega) only [jK hb2] at *;replace bF:=aP hb2 bF;replace iC:=aP hb2 iC;have HB2:=xv hb2 HB1;clear hb2;go_upto_region 6 with (fail)
 have K0:=hid (fun d os=>kr w2 d os (SK.out _ (aj (below_regrown _ _ _) HB2.out HB2.out.size)));have K1:=hid (fun d os=>kr w2 d os (AM.out _ (aj (below_regrown _ _ _) HB2.out HB2.out.size)));have q0:=cg aO;have q1:=cg aN;have q2:=cg aK;have q3:=cg aU;have q4:=cg aT;have q5:=cg aV;have q6:=cg dV;have q7:=cg dU;have q8:=cg dS;have q9:=cg eH;have q10:=cg fA;have q11:=cg eG;have q12:=cg eF;have q13:=cg eY;have Yg:=cg eX;refine wp_region_quiet_below xk xk ?_;repeat (go_big_quiet_step (first|with_reducible exact K0.out _ _|with_reducible exact K1.out _ _|exact K0.out _ _|exact K1.out _ _))
 refine wpQuiet_nil ?_;intro _ hw';obtain ⟨⟨dq,osq⟩,hw''⟩:=hw';subst hw'';have hbq:=below_regrown w2 dq osq;clear q0 q1 q2 q3 q4 q5 q6 q7 q8 q9 q10 q11 q12 q13 Yg K0 K1;generalize Sort.grow (redrawn w2 dq) osq=wx at *;have HB3:=xv hbq HB2;go_wp2
 go_ret
 exact ⟨rfl,HB3.out⟩
theorem aaZ (i k:Nat):(i+1)*k-i*k=k:=by rw [Nat.succ_mul,Nat.add_sub_cancel_left]
theorem Uw {c:bY} {s:aW} {H h i:Nat} (hh:h<H+1) (hi:i<s.cs.length/2^h) (hb:MG c s H h i=false):J5 c s H=false:=by
 apply Bool.eq_false_iff.2;intro hd;have h1:=List.all_eq_true.1 hd h (List.mem_range.2 hh);have h2:=List.all_eq_true.1 h1 i (List.mem_range.2 hi);rw [hb] at h2;cases h2
theorem En (c:bY) (s:aW) (ai:Int) (wa ka va ca:Option Addr) (wc kc vc cc lw n lv lc:Nat) (laid:Int) (a H:Nat) (k:mM c n a H) (hs:ai=c.ai) (hlc:s.cs.length=2^H) (hnk:s.ks.length=n) (hcb:OM s.cs (2^a)) (many:Int) (hm:many<=c.most) (z:Int) (hz:(if J5 c s H=true then 0 else 8)=z) (w:World)
    (SK:Hid (∀W,Below w.heap.size w W->Calls Tryz.prog 95 #[.agg #[.int .i64 ai,.slice wa lw wc,.slice ka n kc,.slice va lv vc,.slice ca lc cc,.int .u64 laid]] W (aC W (.int .i64 0))))
    (AM:Hid (∀W,Below w.heap.size w W->Calls Tryz.prog 96 #[.agg #[.int .i64 ai,.slice wa lw wc,.slice ka n kc,.slice va lv vc,.slice ca lc cc,.int .u64 laid],.int .i64 0,.int .i64 n] W (aC W (.int .i64 many))))
    (AW:Hid (∀h i,h<=H->i<2^(H-h)->∀W,Below w.heap.size w W->Calls Tryz.prog 96 #[.agg #[.int .i64 ai,.slice wa lw wc,.slice ka n kc,.slice va lv vc,.slice ca lc cc,.int .u64 laid],.int .i64 ((i*(2^a*2^h):Nat):Int),.int .i64 (((i*(2^a*2^h):Nat):Int)+((2^a*2^h:Nat):Int))] W (aC W (.int .i64 (jS s.cs (i*2^h) ((i+1)*2^h)))))):
    Calls Tryz.prog 50 #[.agg #[.int .u8 c.tag,.int .i64 c.most,.int .i64 c.ai,.int .i64 c.least,.int .i64 c.den,.int .i64 c.ll,.int .i64 c.rl,.int .i64 c.rh,.int .i64 c.lh],.agg #[.int .i64 ai,.slice wa lw wc,.slice ka n kc,.slice va lv vc,.slice ca lc cc,.int .u64 laid]] w (aC w (.int .i64 z)):=by
 have CK:=hid (fun W=>jv c W);rw [pq k.may] at CK;have HI:=hid (fun W=>v_ c k.may n k.cap W);rw [k.hgt] at HI;have hH:=k.EZ;have KW:Lm c.ai n a H:=⟨k.ai,k.all,k.a2,k.a6,k.big⟩
 have RW:=hid (fun h (hh:h<=H) W=>acA c.ai n a H h KW hh W);have FU:=hid (fun h (hh:h<=H) x h0 h1 W=>QI c n a H h k hh x h0 h1 W);have SP:=hid (fun h (hh:h<=H) x h0 h1 W=>TP c n a H h k hh x h0 h1 W);have HZ:=hid hz;have XF:=hid hlc;have HNK:=hid hnk;have hsum:∀h i,h<=H->0<=jS s.cs (i*2^h) ((i+1)*2^h)/\jS s.cs (i*2^h) ((i+1)*2^h)<=pW c h/\pW c h<=65536:=by
  intro h i hh;obtain ⟨e,-,e2,-⟩:=k.wd hh;have:=UR hcb (i*2^h) ((i+1)*2^h);rw [aaZ] at this;exact ⟨this.1,by rw [e];exact this.2,e2⟩
 have HSM:=hid hsum;have gs:(ai != c.ai)=false:=by simpa using hs
 have gm:decide (c.most<many)=false:=by simp;omega
 have hw1:IntKind.i64.wrap ((H:Int)+1)=(H:Int)+1:=IntWalk.i64_in _ xo;clear hz hlc hnk hcb hsum KW k hs hm;go_enter Tryz.func50,Tryz.ntmps50
 go_wp2_with fail
 refine (CK.out _).mono ?_;rintro e w1 ⟨rfl,hb1⟩;have aA:=hb1.size;try simp only [World.size_alloc,World.size_setCell] at aA
 have hh:=zu hb1 (uj (zC (b:=w.heap.size) ax));obtain ⟨aO,aN,aK,aU,aT,aV,dV,dU,dS⟩:=hh;have bF:=aP hb1 (dB (bV (b:=w.heap.size) ax));have hh:=jl hb1 (jA (b:=w.heap.size+1) ax);obtain ⟨eH,fA,eG,eF,eY,eX⟩:=hh;have iC:=aP hb1 (bV (b:=w.heap.size+1) ax);have hB1:Below w.heap.size w w1:=aH;have HB1:=hid hB1;clear hb1 hB1;go_wp2_with fail
 refine (HI.out _).mono ?_;rintro e w2 ⟨rfl,hb2⟩;have fH:=hb2.size;simp (disch:=omega) only [jK hb2] at aO aN aK aU aT aV dV dU dS eH fA eG eF eY eX;replace bF:=aP hb2 bF;replace iC:=aP hb2 iC;have HB2:=xv hb2 HB1;clear hb2;go_upto_region 6 with (fail)
 have K0:=hid (fun d os=>kr w2 d os (SK.out _ (aj (below_regrown _ _ _) HB2.out HB2.out.size)));have K1:=hid (fun d os=>kr w2 d os (AM.out _ (aj (below_regrown _ _ _) HB2.out HB2.out.size)));have q0:=cg aO;have q1:=cg aN;have q2:=cg aK;have q3:=cg aU;have q4:=cg aT;have q5:=cg aV;have q6:=cg dV;have q7:=cg dU;have q8:=cg dS;have q9:=cg eH;have q10:=cg fA;have q11:=cg eG;have q12:=cg eF;have q13:=cg eY;have Yg:=cg eX;refine wp_region_quiet_below xk xk ?_;repeat (go_big_quiet_step (first|with_reducible exact K0.out _ _|with_reducible exact K1.out _ _|exact K0.out _ _|exact K1.out _ _))
 refine wpQuiet_nil ?_;intro _ hw';obtain ⟨⟨dq,osq⟩,hw''⟩:=hw';subst hw'';have hbq:=below_regrown w2 dq osq;clear q0 q1 q2 q3 q4 q5 q6 q7 q8 q9 q10 q11 q12 q13 Yg K0 K1;generalize Sort.grow (redrawn w2 dq) osq=wx at *;have HB3:=xv hbq HB2;have VS:=hbq.size;simp (disch:=omega) only [jK hbq] at aO aN aK aU aT aV dV dU dS eH fA eG eF eY eX;replace bF:=aP hbq bF;replace iC:=aP hbq iC;clear hbq;go_wp2
 go_loopg [57] (H+1) (fun gk iv wr=>∃h:Nat,h+gk=H+1/\iv= .int .i64 h/\Hid (∀h',h'<h->rowB c s H h'=true)/\Hid (Below wx.heap.size wx wr))
 case atStart=>exact ⟨0,by omega,rfl,hid fun h' q=>by omega,hid br⟩
 case round=>
  obtain ⟨h,hk,rfl,HD,HB⟩:=hrel;have hbr:=HB.out;have EW:=hbr.size;simp (disch:=omega) only [jK hbr] at aO aN aK aU aT aV dV dU dS eH fA eG eF eY eX;replace bF:=aP hbr bF;replace iC:=aP hbr iC;have HB4:=xv hbr HB3;have NR:=HB4.out.size;clear hbr;by_cases hlt:h<H+1
  . generalize gk=go at *;have HK:=hid hk;clear hk;go_wp2_with fail
    refine (RW.out h xo _).mono ?_;rintro e w5 ⟨v5,rfl,V3,hb5⟩;have x8:=hb5.size;simp (disch:=omega) only [jK hb5] at aO aN aK aU aT aV dV dU dS eH fA eG eF eY eX;replace bF:=aP hb5 bF;replace iC:=aP hb5 iC;have xB:=hid (aj hb5 HB4.out NR);have HW5:=xv hb5 HB;have Um:=hb5.size;obtain ⟨ra,rc,rfl,hi5,-,-,hrc,-⟩:=ak V3;rw [qP] at hrc ⊢;have HR5:=hid hi5;have hm0:2^(H-h)<=2^14:=Nat.pow_le_pow_right xo xo;have AW2:=hid (fun i hi W hb=>AW.out h i xo hi W hb);have SM2:=hid (fun i=>HSM.out h i xo);have RG2:=hid (fun i (hi:i<2^(H-h))=>UZ (W:=2^a*2^h) hi);have hbad:Hid (∀i,i<2^(H-h)->MG c s H h i=false->z=8):=hid fun i hi hb=>by
     rw [<-HZ.out,Uw hlt (by rw [XF.out,Nat.pow_div xo xo];exact hi) hb];rfl
    have hgood:Hid ((∀i,i<2^(H-h)->MG c s H h i=true)->rowB c s H h=true):=hid fun hg=>List.all_eq_true.2 fun i hi=>hg i (by have:=List.mem_range.1 hi;rwa [XF.out,Nat.pow_div xo xo] at this)
    have HIL:=hid (qP (2^a*2^h) (2^(H-h)));generalize Ci (2^a*2^h) (2^(H-h))=L at *;generalize 2^(H-h)=m at *;clear hb5 V3 hi5 hrc;go_wp2
    go_loopg [70] m (fun gk2 iv wr2=>∃i:Nat,i+gk2=m/\iv= .int .i64 i/\Hid (∀j,j<i->MG c s H h j=true)/\Hid (Below w5.heap.size w5 wr2))
    case atStart=>exact ⟨0,by omega,rfl,hid fun j q=>by omega,hid br⟩
    case round=>
     obtain ⟨i,hk2,rfl,HD2,HBB⟩:=hrel;have N_:=HBB.out;have EW:=N_.size;simp (disch:=omega) only [jK N_] at aO aN aK aU aT aV dV dU dS eH fA eG eF eY eX;replace bF:=aP N_ bF;replace iC:=aP N_ iC;have IR:=xv N_ xB;have hz6:=IR.out.size;by_cases hlt2:i<m
     . obtain ⟨bl,ol,rfl,cl0,cl1,zl⟩:=wY (HR5.out.below N_) (i:=i) (by rw [HIL.out];exact hlt2);rw [RG2.out i hlt2] at cl0 cl1;clear N_;dsimp only at cl0 cl1;have AW3:=hid (fun W hb=>AW2.out i hlt2 W hb);have sb:=SM2.out i;obtain ⟨sb1,sb2,sb3⟩:=sb;have HWB:Hid (MG c s H h i=(qL c H h (jS s.cs (i*2^h) ((i+1)*2^h))&&Gl c n H h (jS s.cs (i*2^h) ((i+1)*2^h)))):=hid (by rw [<-HNK.out];rfl);generalize jS s.cs (i*2^h) ((i+1)*2^h)=sm at *;generalize ((i*(2^a*2^h):Nat):Int)=x0 at *;generalize x0+((2^a*2^h:Nat):Int)=x1 at *;have FU2:=hid (fun W=>FU.out h xo sm sb1 xo W);have SP2:=hid (fun W=>SP.out h xo sm sb1 sb2 W);have Lt:=hid hk2;clear hk2;go_wp2_with fail
       refine (AW3.out _ aH).mono ?_;rintro e w7 ⟨rfl,hb7⟩;have VT:=hb7.size;try simp only [World.size_alloc,World.size_setCell] at VT
       have hh:=zu hb7 (uj (⟨aO,aN,aK,aU,aT,aV,dV,dU,dS⟩));clear aO aN aK aU aT aV dV dU dS;obtain ⟨aO,aN,aK,aU,aT,aV,dV,dU,dS⟩:=hh;replace bF:=aP hb7 (dB (bF));have hh:=jl hb7 (jI (⟨eH,fA,eG,eF,eY,eX⟩));clear eH fA eG eF eY eX;obtain ⟨eH,fA,eG,eF,eY,eX⟩:=hh;replace iC:=aP hb7 (dB (iC));have hh:=bc2 hb7 (TF (b:=wr.heap.size) ax);obtain ⟨jy,jw⟩:=hh;have qh:=aP hb7 (bV (b:=wr.heap.size) ax);have HB7:=hid (show Below w.heap.size w w7 by (exact aH));have HC7:=hid (show Below w5.heap.size w5 w7 by (exact aH));clear hb7;go_wp2_with fail
       refine (FU2.out _).mono ?_;rintro e w8 ⟨rfl,hb8⟩;have adJ:=hb8.size;simp (disch:=omega) only [jK hb8] at aO aN aK aU aT aV dV dU dS eH fA eG eF eY eX;replace bF:=aP hb8 bF;replace iC:=aP hb8 iC;have HB8:=xv hb8 HB7;have HC8:=xv hb8 HC7;clear hb8;go_wp2_with fail
       refine (SP2.out _).mono ?_;rintro e w9 ⟨rfl,hb9⟩;have ahh:=hb9.size;simp (disch:=omega) only [jK hb9] at aO aN aK aU aT aV dV dU dS eH fA eG eF eY eX;replace bF:=aP hb9 bF;replace iC:=aP hb9 iC;have HB9:=xv hb9 HB8;have HC9:=xv hb9 HC8;clear hb9;cases hf:qL c H h sm with
       | false=>
        have hz8:=hbad.out i hlt2 (by rw [HWB.out,hf];rfl);subst hz8;go_wp2
        go_ret
        exact ⟨rfl,HB9.out⟩
       | true=>
        cases hg:Gl c n H h sm with
        | false=>
         have hz8:=hbad.out i hlt2 (by rw [HWB.out,hf,hg];rfl);subst hz8;go_wp2
         go_ret
         exact ⟨rfl,HB9.out⟩
        | true=>
         go_wp2
         go_roundg (gk-1)
         case measure=>have:=Lt.out;omega
         case rel=>
          refine ⟨i+1,by have:=Lt.out;omega,by go_num,hid fun j hj=> ?_,HC9⟩;by_cases hji:j=i
          . rw [hji,HWB.out,hf,hg];rfl
          . exact HD2.out j xo
     . have Lt:=hid hk2;clear hk2;go_wp2
       go_roundg (go-1)
       case measure=>have:=HK.out;omega
       case rel=>
        refine ⟨h+1,by have:=HK.out;omega,by go_num,hid fun h' hh'=> ?_,hid (aj HBB.out HW5.out HW5.out.size)⟩;by_cases hji:h'=h
        . rw [hji];exact hgood.out fun j hj=>HD2.out j (by have:=Lt.out;omega)
        . exact HD.out h' xo
  . have hz0:z=0:=by
      rw [<-HZ.out,if_pos];exact List.all_eq_true.2 fun h' hh'=>HD.out h' (by have:=List.mem_range.1 hh';omega)
    subst hz0;clear hk;go_wp2
    go_ret
    exact ⟨rfl,HB4.out⟩
end
section
open Go.RowKit Go.Shelf
attribute [local go_sem] Oper.semAt_some
structure IA (w w2 W:World):Prop where
 bel:Below w.heap.size w W
 keep:∀q,q<w.heap.size+2->q≠w.heap.size->W.heap[q]? =w2.heap[q]?
 size:w.heap.size+2<=W.heap.size
theorem IA.below {w w2 W W':World} (h:IA w w2 W) (hb:Below W.heap.size W W'):IA w w2 W':=
  ⟨aj hb h.bel (by have:=h.size;omega),fun q hq hne=>(hb.block q (by have:=h.size;omega)).trans (h.keep q hq hne),Nat.le_trans h.size hb.size⟩
theorem IA.drew {w w2 W:World} (h:IA w w2 W):IA w w2 W.drew:=⟨h.bel.drew,h.keep,h.size⟩
theorem IA.setCell {w w2 W:World} (h:IA w w2 W) {a:Addr} (ha:a.block=w.heap.size\/w.heap.size+2<=a.block) (v:Value):IA w w2 (W.setCell a v):=
  ⟨h.bel.setCell xo v,fun q hq hne=>(ae _ _ _ xo).trans (h.keep q hq hne),by rw [World.size_setCell];exact h.size⟩
end
section
open Go.RowKit
def aeQ (a:jJ):Prop:=(a.wa=none->a.wc=0)/\(a.ka=none->a.kc=0)/\(a.va=none->a.vc=0)/\(a.ca=none->a.cc=0)
theorem Oe {c:aW} {S lw n lc:Nat} (h:fQ c S lw n lc) (hS:wB (S:Int)=true) (hM:wB (lc:Int)=true) (wF:lw=(n+63)/64):fV c=true:=by
 have afT:1<=lc:=by
  rcases Nat.eq_zero_or_pos lc with e|e
  . rw [e] at hM;cases hM
  . exact e
 have h4:=h.s4;have hn:(n:Int)/(S:Int)=lc:=by
  rw [h.cn,Int.natCast_mul,Int.mul_ediv_cancel_left _ xo]
 have hn2:(n:Int)%(S:Int)=0:=by
  rw [h.cn,Int.natCast_mul,Int.mul_emod_right]
 have hle:S*1<=S*lc:=Nat.mul_le_mul_left _ afT;simp only [fV,mV,rM,j_,ael,acf,Bool.and_eq_true,decide_eq_true_eq,List.all_eq_true];rw [h.AP,h.LQ,h.AO,h.Ep,h.ai,hn,hn2];refine ⟨⟨⟨⟨⟨⟨⟨⟨⟨⟨⟨by have:=h.s4;omega,by have:=h.s64;omega⟩,hS⟩,by have:=h.cn;omega⟩,by have:=h.nm;omega⟩,rfl⟩,hM⟩,rfl⟩,wF,?_⟩,rfl⟩,?_⟩,?_⟩
 . intro i hi;have:=(List.mem_range'_1.1 hi).1;rw [h.hi i this];rfl
 . intro i hi;cases hb:bG c.ws i with
   | true=>rfl
   | false=>
    have:=h.clr i hb;simp only [Bool.false_or,Bool.and_eq_true,beq_iff_eq];exact this
 . intro k hk;have:=h.cnt k (List.mem_range.1 hk);rw [Int.toNat_natCast,this,beq_self_eq_true]
theorem Ws {c:aW} {S lw n lc:Nat} (h:fQ c S lw n lc) (hm:fV c=true):rM (S:Int) n=true:=by
 simp only [fV,mV,Bool.and_eq_true] at hm;have:=hm.1.1.1.1.1;rwa [h.AP,h.ai] at this
theorem PQ {c:aW} {S lw n lc:Nat} (h:fQ c S lw n lc) (hm:fV c=true) (sa:jJ) (lo hi:Nat) (hlo:lo<=hi) (hhi:hi<=n) (L:List (Int×Int)) (hL:L.length<=hi-lo) (la:Option Addr) (pl:Nat) (w:World) (hin:iy w c sa) (hla:aQ .i64 w la (lC L)):
    Calls Tryz.prog 183 #[jB c sa,.int .i64 lo,.int .i64 hi,.slice la L.length pl] w (dm w (Az c lo hi L) (.int .i64 0)):=by
 have n1:=h.n1;have nm:=h.nm;have s4:=h.s4;have wn:=h.wn;have hlc:0<lc:=by
  rcases Nat.eq_zero_or_pos lc with e|e
  . have:=h.cn;rw [e] at this;omega
  . exact e
 have SE:lc<=65536:=by
  have h9:1*lc<=S*lc:=Nat.mul_le_mul_right _ xo;have:=h.cn;omega
 have SC:lw<=65536:=by
  have:=dW (kL hm);obtain ⟨S',M,-,-,-,b3,-,-,-,b7,-,b9,-⟩:=this;rw [h.AO] at b9;omega
 refine RI w c.ai sa.wa sa.ka sa.va sa.ca sa.wc sa.kc sa.vc sa.cc c.ws.length c.ks.length c.vs.length c.cs.length c.laid lo hi L.length (ints (xO L.length lo hi)) la pl (Az c lo hi L) (by rw [jD,nZ]) (hid fun W hb=> ?_) (hid fun W hb=>TR L.length lo hi hlo xo hL W) (hid fun W pa pc hb hp=> ?_)
 . have:=lV c sa (by rw [h.AO];omega) (by rw [h.AP];omega) W (hin.below hb);rwa [show A8 c=0 by simp [A8,hm]] at this
 . have hin2:=hin.below hb;have e1:=h.AO;have e2:=h.AP;have e3:=h.LQ;have e4:=h.Ep;rw [e1,e2,e3,e4];refine Jf W c.ai sa.wa sa.ka sa.va sa.ca sa.wc sa.kc sa.vc sa.cc lw n lc c.laid c lo hi L.length S (xO L.length lo hi) L pa la pc pl rfl rfl e1 e2 e3 e4 xo xo hlc nm SC SE h.ai s4 hlo hhi wn h.cn (nZ _ _ _) rfl xo (fun k hk=>Vl hk hL) (fun j hj=>(h.ui j xo).ok) (fun k hk=>(fQ.vV (h.ui (hi-lo) xo) (fun k=>qU hL hhi xo k) L k).ok) (hid hp) (hid (hla.below hb)) (hid fun W' hb'=> ?_) (hid fun W' hb'=> ?_)
   . have:=PO c sa (by rw [e1];omega) (by rw [e2];omega) lo hi W' (hin2.below hb');rw [show iR c lo hi=0 by unfold iR;rw [if_pos hm,if_pos (by rw [e2];omega)]] at this;simpa only [jB,e1,e2,e3,e4] using this
   . have:=yK c sa W' (hin2.below hb') (by rw [e1];omega) (by rw [e2];omega) (by rw [e3];omega) (by rw [e4];omega);simpa only [jB,e1,e2,e3,e4] using this
def qG (S M:Nat) (laid:Int):aW:=⟨S,List.replicate ((S*M+63)/64) 0,List.replicate (S*M) 0,List.replicate (S*M) 0,List.replicate M 0,laid⟩
theorem ou {S M:Nat} (h4:4<=S) (h6:S<=64) (hM:1<=M) (hm:S*M<=65536) (laid:Int):fQ (qG S M laid) S ((S*M+63)/64) (S*M) M:=by
 have z:=XU h4 h6 hM hm (lw:=(S*M+63)/64) rfl;exact ⟨z.ai,z.AO,z.AP,z.LQ,z.Ep,z.s4,z.s64,z.cn,z.wn,z.n1,z.nm,z.u,z.cnt,z.hi,z.clr⟩
def zH (S M:Nat) (laid:Int) (L:List (Int×Int)):aW:=Az (qG S M laid) 0 (S*M) L
theorem JD {S M:Nat} (h4:4<=S) (hm:S*M<=65536):(((S*M:Nat):Int)+63).tdiv 64=((S*M+63)/64:Nat)/\((S*M:Nat):Int).tdiv S=M/\(S*M+63)/64<=2000/\M<=65536:=by
 have h9:1*M<=S*M:=Nat.mul_le_mul_right _ xo;refine ⟨?_,?_,by omega,by omega⟩
 . rw [Int.tdiv_eq_ediv_of_nonneg xo];omega
 . rw [Int.tdiv_eq_ediv_of_nonneg xo,Int.natCast_mul,Int.mul_ediv_cancel_left _ xo]
theorem aae {c:aW} {S lw n lc:Nat} (h:fQ c S lw n lc) (hm:fV c=true) (sa:jJ) (M:Nat) (hM:1<=M) (hS:wB (S:Int)=true) (hMp:wB (M:Int)=true) (hsm:S*M<=65536) (L:List (Int×Int)) (hL:L.length<=S*M) (la:Option Addr) (pl:Nat) (w:World) (hin:iy w c sa) (hla:aQ .i64 w la (lC L)):
    Calls Tryz.prog 120 #[jB c sa,.int .i64 ((S*M:Nat):Int),.slice la L.length pl] w (dm w (zH S M c.laid L) (.int .i64 0)):=by
 obtain ⟨q1,q2,q3,q4⟩:=JD (M:=M) h.s4 hsm;have ge:=ou h.s4 h.s64 hM hsm c.laid;have gm:=Oe ge hS hMp rfl;refine TV w c.ai sa.wa sa.ka sa.va sa.ca sa.wc sa.kc sa.vc sa.cc c.ws.length c.ks.length c.vs.length c.cs.length c.laid (S*M) L.length la pl (iF S (S*M) ((S*M+63)/64) M) (zH S M c.laid L) ge.u (hid fun W hb=> ?_) (hid fun W hb=> ?_) (hid fun W sa' hb hi z1 z2 z3 z4=> ?_)
 . have:=lV c sa (by rw [h.AO];have:=dW (kL hm);obtain ⟨S',M',-,-,-,b3,-,-,-,b7,-,b9,-⟩:=this;rw [h.AO] at b9;omega) (by rw [h.AP];have:=h.nm;omega) W (hin.below hb);rwa [show A8 c=0 by simp [A8,hm]] at this
 . rw [h.ai];refine Cb W S (S*M) ((S*M+63)/64) M h.s4 hsm h.s64 q1 q2 xo q4 (hid fun W'=> ?_);have:=Bv (S:Int) ((S*M:Nat):Int) W';rwa [Ws ge gm] at this
 . exact PQ ge gm sa' 0 (S*M) (Nat.zero_le _) (Nat.le_refl _) L xo la pl W hi (hla.below hb)
end
section
open Go.RowKit Go.Shelf
attribute [local go_sem] Oper.semAt_some
end
section
open Go.RowKit
structure pV (c:bY) (s:aW) (a H:Nat):Prop where
 cap:mM c s.ks.length a H
 ai:s.ai=((2^a:Nat):Int)
 nk:s.ks.length=2^a*2^H
 nv:s.vs.length=2^a*2^H
 nc:s.cs.length=2^H
 cnt:OM s.cs (2^a)
 may:fV s=true
theorem Qe {c:bY} {s:aW} (hc:gQ c=true) (hp:kW s.ks.length c.least (ig c c.most)=true) (hm:fV s=true) (hs:s.ai=c.ai):∃a H,pV c s a H:=by
 obtain ⟨a,H,k⟩:=Qo hc hp;have hm':=hm;simp only [fV,Bool.and_eq_true] at hm;obtain ⟨⟨h5,h6⟩,h7⟩:=hm;obtain ⟨S,M,e1,b1,b2,b3,b4,b5,b6,b7,b8,b9,p1,p2,-⟩:=dW h5;have hS:S=2^a:=by have:=k.ai;omega
 subst hS;have hM:M=2^H:=by
  have h1:=k.all;rw [b3] at h1;have h2:2^a*M=2^a*2^H:=xo;exact Nat.eq_of_mul_eq_mul_left (Nat.two_pow_pos a) h2
 subst hM;exact ⟨a,H,k,e1,b3,b4,b5,Qk e1 h7,hm'⟩
theorem JW {c:bY} {s:aW} {a H:Nat} (k:pV c s a H) (hs:s.ai=c.ai) (hm:jS s.cs 0 s.cs.length<=c.most):kY c s=if J5 c s H=true then 0 else 8:=by
 have hh:pU c s=true:=by
  simp only [pU,Bool.and_eq_true,decide_eq_true_eq];exact ⟨⟨⟨k.may,hs⟩,k.cap.cap⟩,hm⟩
 rw [kY,if_pos k.cap.may,Ho,hh,Bool.true_and,k.cap.hgt]
theorem ve (s:aW) (sa:jJ) (S lo hi:Nat) (hseg:s.ai=S) (hS:4<=S) (hS2:S<=64) (A B:Int) (hA:A=((lo*S:Nat):Int)) (hB:B=((hi*S:Nat):Int)) (h1:lo<=hi) (h2:hi<=s.cs.length) (h3:lo<s.cs.length) (hcc:s.cs.length<=sa.cc) (hlc:s.cs.length<=65536) (hcs:OM s.cs S) (w:World) (hin:iy w s sa):
    Calls Tryz.prog 96 #[jB s sa,.int .i64 A,.int .i64 B] w (aC w (.int .i64 (jS s.cs lo hi))):=by
 obtain ⟨wa,ka,va,ca,wc,kc,vc,cc⟩:=sa;have hn:=hin.n;dsimp only at hn hcc;obtain ⟨b,off,x,rfl,-,-,-⟩:=hn.get (i:=0) xo;exact OD w s.ai wa ka va wc kc vc cc s.ws.length s.ks.length s.vs.length s.cs.length s.laid b off s.cs A B S lo hi hseg hS hS2 hA hB h1 h2 h3 hcc hlc rfl hcs hn
theorem zX (c:bY) (s:aW) (sa:jJ) (hl:s.ws.length<=9223372036854775807) (hl2:s.ks.length<=1000000000000) (hcc:s.cs.length<=sa.cc) (w:World) (hin:iy w s sa):
    Calls Tryz.prog 50 #[.agg #[.int .u8 c.tag,.int .i64 c.most,.int .i64 c.ai,.int .i64 c.least,.int .i64 c.den,.int .i64 c.ll,.int .i64 c.rl,.int .i64 c.rh,.int .i64 c.lh],jB s sa] w (aC w (.int .i64 (kY c s))):=by
 cases hc:gQ c with
 | false=>
  rw [show kY c s=50 by simp [kY,hc]];exact Eo c hc _ _ _ _ _ _ _ _ _ _ _ _ _ _ w
 | true =>
  have SK:Hid (∀W,Below w.heap.size w W->Calls Tryz.prog 95 #[jB s sa] W (aC W (.int .i64 (A8 s)))):=hid fun W hb=>lV s sa hl hl2 W (hin.below hb)
  cases hp:kW s.ks.length c.least (ig c c.most) with
  | false=>
   rw [yg hc (by simp [pU,hp])];exact Em c hc _ _ _ _ _ _ _ _ _ _ _ _ _ _ hp w
  | true =>
   cases hm:fV s with
   | false=>
    rw [yg hc (by simp [pU,hm])];exact Du c hc _ _ _ _ _ _ _ _ _ _ _ _ _ _ hp (A8 s) (by simp [A8,hm]) w SK
   | true =>
    rw [show A8 s=0 by simp [A8,hm]] at SK;by_cases hs:s.ai=c.ai
    . obtain ⟨a,H,k⟩:=Qe hc hp hm hs;have ha4:2^2<=2^a:=Nat.pow_le_pow_right xo k.cap.a2;have ha6:2^a<=2^6:=Nat.pow_le_pow_right xo k.cap.a6;have hH0:=Nat.two_pow_pos H;have hnc:=k.nc;have hcb:s.cs.length<=65536:=by
       have:=k.cap.big;have h9:1*2^H<=2^a*2^H:=Nat.mul_le_mul_right _ xo;omega
      have AM:Hid (∀W,Below w.heap.size w W->Calls Tryz.prog 96 #[jB s sa,.int .i64 0,.int .i64 s.ks.length] W (aC W (.int .i64 (jS s.cs 0 s.cs.length)))):=hid fun W hb=>
       ve s sa (2^a) 0 s.cs.length k.ai xo xo 0 s.ks.length ax (by rw [k.nk,k.nc,Nat.mul_comm]) xo xo xo hcc hcb k.cnt W (hin.below hb)
      by_cases lq:jS s.cs 0 s.cs.length<=c.most
      . refine En c s s.ai _ _ _ _ _ _ _ _ _ _ _ _ _ a H k.cap hs k.nc rfl k.cnt _ lq _ (JW k hs lq).symm w SK AM (hid fun h i hh hi W hb=> ?_);have hi2:(i+1)*2^h<=2^H:=by
         have:(i+1)*2^h<=2^(H-h)*2^h:=Nat.mul_le_mul_right _ hi;rwa [<-Nat.pow_add,Nat.sub_add_cancel hh] at this
        have hp0:=Nat.two_pow_pos h;have hlt:i*2^h<(i+1)*2^h:=by rw [Nat.succ_mul];omega
        refine ve s sa (2^a) (i*2^h) ((i+1)*2^h) k.ai xo xo _ _ ?_ ?_ xo xo xo hcc hcb k.cnt W (hin.below hb)
        . rw [Nat.mul_comm (2^a),Nat.mul_assoc]
        . rw [Nat.succ_mul i (2^h),Nat.add_mul,Nat.mul_comm (2^a) (2^h),Nat.mul_assoc];push_cast
          rfl
      . rw [yg hc (by simp [pU,lq])];exact Ej c hc _ _ _ _ _ _ _ _ _ _ _ _ _ _ hp hs _ xo w SK AM
    . rw [yg hc (by simp [pU,hs])];exact Hq c hc _ _ _ _ _ _ _ _ _ _ _ _ _ _ hp hs w SK
end
section
open Go.RowKit Go.Shelf Go.Sort
end
section
open Go.RowKit
theorem pV.nums {c:bY} {s:aW} {a H:Nat} (k:pV c s a H):4<=2^a/\2^a<=64/\1<=s.cs.length/\s.cs.length<=65536/\s.ks.length<=65536:=by
 have ha4:2^2<=2^a:=Nat.pow_le_pow_right xo k.cap.a2;have ha6:2^a<=2^6:=Nat.pow_le_pow_right xo k.cap.a6;have hH0:=Nat.two_pow_pos H;have hnc:=k.nc;have:=k.cap.big;have h9:1*2^H<=2^a*2^H:=Nat.mul_le_mul_right _ xo;have:=k.nk;omega
theorem Ic {c:bY} (hd:pg c=true) {a:Nat} (hs:c.ai=((2^a:Nat):Int)) {n:Int} (h0:0<=n) (h1:n<=16384):∃H:Nat,ig c n=((2^a*2^H:Nat):Int)/\2^a*2^H<=65536/\n<=ig c n:=by
 have f:=nG hd;obtain ⟨d0,d1,d2,d3,d4,d5,d6,d7,d8,d9,d10,d11,d12,d13,Fq,Et,Fp,Es⟩:=dw hd;have tb:=vG hd h0 h1;obtain ⟨l1,l2,b,eb⟩:=r_ f.2.2.2.2.2.1;have hab:a<=b:=(Nat.pow_le_pow_iff_right (a:=2) xo).1 xo;obtain ⟨j,-,ej⟩:=UM c n 20 c.least;have e:ig c n=((2^a*2^(b-a+j):Nat):Int):=by
  rw [ig,ej,eb,<-Nat.pow_add,show a+(b-a+j)=b+j by omega,Nat.pow_add];push_cast
  rfl
 refine ⟨b-a+j,e,by omega,?_⟩;have ht:=BZ (c:=c) (n:=n) xo 20 c.least xo (yI h0 h1 xo d8 d9).1;have m1:c.rh*ig c n<=c.den*ig c n:=Int.mul_le_mul_of_nonneg_right xo xo;have m2:c.den*n<=c.den*ig c n:=by
  rw [Int.mul_comm c.den n];exact Int.le_trans ht m1
 exact Int.le_of_mul_le_mul_left m2 xo
theorem nD {c:bY} {s:aW} (h:kY c s=0):gQ c=true/\∃a H,pV c s a H/\s.ai=c.ai/\jS s.cs 0 s.cs.length<=c.most/\J5 c s H=true:=by
 unfold kY at h;split at h
 . rename_i hc
   split at h
   . rename_i hg
     have hg':=hg;simp only [Ho,pU,Bool.and_eq_true,decide_eq_true_eq] at hg;obtain ⟨⟨⟨⟨h1,h2⟩,h3⟩,h4⟩,h5⟩:=hg;obtain ⟨a,H,k⟩:=Qe hc h3 h1 h2;exact ⟨hc,a,H,k,h2,h4,by rw [<-k.cap.hgt];exact h5⟩
   . cases h
 . cases h
def rG:aW:=⟨0,[],[],[],[],0⟩
def zi (c:bY) (n:Nat):Nat:=(ig c n).toNat/c.ai.toNat
theorem zh {c:bY} {s:aW} {a H:Nat} (k:pV c s a H) {n:Nat} (hn:(n:Int)<=c.most):c.ai.toNat=2^a/\ig c n=((2^a*zi c n:Nat):Int)/\1<=zi c n/\2^a*zi c n<=65536/\n<=2^a*zi c n/\wB (zi c n:Int)=true:=by
 have hd:=dK k.cap.may;have d:=dw hd;obtain ⟨H',e,hb,hle⟩:=Ic hd k.cap.ai (n:=(n:Int)) xo xo;have hs:c.ai.toNat=2^a:=by rw [k.cap.ai];rfl
 have hm:zi c n=2^H':=by
  rw [zi,e,hs,Int.toNat_natCast,Nat.mul_div_cancel_left _ (Nat.two_pow_pos a)]
 rw [hm];exact ⟨hs,e,Nat.two_pow_pos H',hb,by omega,pO H'⟩
theorem lU {c:bY} {s:aW} {a H:Nat} (k:pV c s a H) (hu:fB s.ws):fQ s (2^a) ((s.ks.length+63)/64) s.ks.length (2^H)/\(s.ks.length+63)/64<=2000:=by
 obtain ⟨S,M,g,-,-,-⟩:=UX hu k.may;have e1:S=2^a:=by have:=g.ai;have:=k.ai;omega
 have e2:M=2^H:=by have:=g.Ep;have:=k.nc;omega
 have e3:=g.AP;subst e1 e2;have hb:=k.cap.big;rw [<-e3] at g;have:=k.nk;exact ⟨g,by omega⟩
def Kt (x:Int):Int:=bits .and .u64 x (x-1)
theorem YF (t m i:Nat):((2^t*(2*m+1)) &&& (2^t*(2*m+1)-1)).testBit i=((2^t*(2*m+1)).testBit i&&decide (i≠t)):=by
 have hp:=Nat.two_pow_pos t;have e:2^t*(2*m+1)-1=2^t*(2*m)+(2^t-1):=by rw [Nat.mul_add];omega
 rw [Nat.testBit_and,e,Nat.testBit_two_pow_mul_add _ xo];have e2:=Nat.testBit_two_pow_mul_add (i:=t) (2*m+1) (b:=0) hp i;rw [Nat.add_zero] at e2;rw [e2];by_cases h:i<t
 . simp [h]
 . rw [if_neg h,if_neg h];by_cases h2:i=t
   . subst h2;simp
   . obtain ⟨j,rfl⟩:∃j,i=t+(j+1):=⟨i-t-1,by omega⟩
     rw [show t+(j+1)-t=j+1 by omega,Nat.testBit_add_one,Nat.testBit_add_one,show (2*m+1)/2=m by omega,show 2*m/2=m by omega];simp
theorem WQ (n:Nat) (h0:n≠0) (h1:n<18446744073709551616):Kt (n:Int)=((n &&& (n-1):Nat):Int):=by
 show IntKind.u64.wrap ((BitVec.ofInt 64 (n:Int) &&& BitVec.ofInt 64 ((n:Int)-1)).toNat:Int)=_;rw [show (n:Int)-1=((n-1:Nat):Int) by omega,BitVec.toNat_and,ofInt_u64 n xo,ofInt_u64 (n-1) xo];have:n &&& (n-1)<=n:=Nat.and_le_left;exact IntWalk.u64_in _ xo
theorem Kr {x:Int} (h0:0<=x) (h1:x<18446744073709551616) (hx:x≠0):(0<=Kt x/\Kt x<18446744073709551616)/\∀i,je (Kt x) i=(je x i&&decide (i≠zL x)):=by
 obtain ⟨n,rfl⟩:∃n:Nat,x=n:=⟨x.toNat,by omega⟩
 have hn0:n≠0:=xo;obtain ⟨m,hm,hk⟩:=Lib.ctzFrom_spec 64 n xo xo;have e:zL (n:Int)=Lib.ctzFrom 64 n:=by rw [zL,Int.toNat_natCast,Lib.ctz,if_neg hn0]
 rw [e,WQ n hn0 xo];have hle:n &&& (n-1)<=n:=Nat.and_le_left;refine ⟨⟨by omega,by omega⟩,fun i=> ?_⟩;rw [fD,fD];generalize Lib.ctzFrom 64 n=t at *;rw [hm];exact YF t m i
def LP (x:Int):List Nat:=(List.range 64).filter (je x)
theorem tN (x:Int):(LP x).length=wC x:=(List.countP_eq_length_filter ..).symm
theorem Jw {x:Int} (h0:0<=x) (h1:x<18446744073709551616) (hx:x≠0):LP x=zL x::LP (Kt x):=by
 obtain ⟨t1,t2,t3⟩:=A7 h0 h1 hx;obtain ⟨-,hc⟩:=Kr h0 h1 hx;have e:List.range 64=List.range' 0 (zL x)++(zL x::List.range' (zL x+1) (63-zL x)):=by
  have e1:=List.range'_append (s:=0) (m:=zL x) (n:=64-zL x) (step:=1);simp only [Nat.one_mul,Nat.zero_add] at e1;rw [show zL x+(64-zL x)=64 by omega] at e1;rw [List.range_eq_range',<-e1,show 64-zL x=(63-zL x)+1 by omega,List.range'_succ]
 generalize zL x=t at *;unfold LP;rw [e,List.filter_append,List.filter_append];have z1:(List.range' 0 t).filter (je x)=[]:=by
  rw [List.filter_eq_nil_iff];intro i hi;have:=List.mem_range'_1.1 hi;simp [t3 i xo]
 have z2:(List.range' 0 t).filter (je (Kt x))=[]:=by
  rw [List.filter_eq_nil_iff];intro i hi;have:=List.mem_range'_1.1 hi;simp [hc,t3 i xo]
 rw [z1,z2,List.nil_append,List.nil_append,List.filter_cons,List.filter_cons,if_pos t2,if_neg (by simp [hc])];congr 1
 apply List.filter_congr;intro i hi;have:=List.mem_range'_1.1 hi;rw [hc,decide_eq_true xo,Bool.and_true]
def ut (x:Int):Nat->Int
  | 0=>x
  | k+1=>Kt (ut x k)
theorem Tm (x:Int):ut x 0=x:=rfl
theorem FK (x:Int) (k:Nat):ut x (k+1)=Kt (ut x k):=rfl
theorem Qm {x:Int} (h0:0<=x) (h1:x<18446744073709551616):∀k,k<=wC x->(0<=ut x k/\ut x k<18446744073709551616)/\LP (ut x k)=(LP x).drop k
  | 0,_=>⟨⟨h0,h1⟩,rfl⟩
  | k+1,hk=>by
   obtain ⟨⟨b1,b2⟩,e⟩:=Qm h0 h1 k xo;have hne:ut x k≠0:=by
    intro h;have z:LP (ut x k)=[]:=by rw [h,LP,List.filter_eq_nil_iff];intro i _;simp [qc]
    rw [z] at e;have:=congrArg List.length e;rw [List.length_drop,tN] at this;simp at this;omega
   obtain ⟨hb,-⟩:=Kr b1 b2 hne;have hc:=Jw b1 b2 hne;refine ⟨hb,?_⟩;rw [FK,<-List.tail_drop,<-e,hc];rfl
theorem ZB {x:Int} (h0:0<=x) (h1:x<18446744073709551616) {k:Nat} (hk:k<wC x):ut x k≠0/\(0<=ut x k/\ut x k<18446744073709551616)/\zL (ut x k)=(LP x).getD k 0:=by
 obtain ⟨⟨b1,b2⟩,e⟩:=Qm h0 h1 k xo;have hne:ut x k≠0:=by
  intro h;have z:LP (ut x k)=[]:=by rw [h,LP,List.filter_eq_nil_iff];intro i _;simp [qc]
  rw [z] at e;have:=congrArg List.length e;rw [List.length_drop,tN] at this;simp at this;omega
 refine ⟨hne,⟨b1,b2⟩,?_⟩;rw [Jw b1 b2 hne] at e;have:=congrArg (fun l=>l.getD 0 0) e;simp only [List.getD_cons_zero] at this;rw [this,List.getD_eq_getElem?_getD,List.getElem?_drop,Nat.add_zero,List.getD_eq_getElem?_getD]
theorem xN (ws:List Int) {a b d:Nat} (h1:a<=b) (h2:b<=d):eQ ws a d=eQ ws a b++eQ ws b d:=by
 unfold eQ;rw [<-List.filter_append];congr 1
 have e:=List.range'_append (s:=a) (m:=b-a) (n:=d-b) (step:=1);rw [Nat.one_mul,show a+(b-a)=b by omega,show b-a+(d-b)=d-a by omega] at e;exact e.symm
theorem PM {ws:List Int} (hu:fB ws) {n m:Nat} (hm:64*m<n):(LP (cutV ws 0 n m)).map (64*m + ·)=eQ ws (64*m) (min (64*m+64) n):=by
 have e1:LP (cutV ws 0 n m)=(List.range (min (64*m+64) n-64*m)).filter fun j=>bG ws (64*m+j):=by
  have e:List.range 64=List.range (min (64*m+64) n-64*m)++List.range' (min (64*m+64) n-64*m) (64-(min (64*m+64) n-64*m)):=by
   have e:=List.range'_append (s:=0) (m:=min (64*m+64) n-64*m) (n:=64-(min (64*m+64) n-64*m)) (step:=1);simp only [Nat.one_mul,Nat.zero_add] at e;rw [show min (64*m+64) n-64*m+(64-(min (64*m+64) n-64*m))=64 by omega] at e;rw [List.range_eq_range',List.range_eq_range',e]
  unfold LP;rw [e,List.filter_append];have z:(List.range' (min (64*m+64) n-64*m) (64-(min (64*m+64) n-64*m))).filter (je (cutV ws 0 n m))=[]:=by
   rw [List.filter_eq_nil_iff];intro i hi;have:=List.mem_range'_1.1 hi;rw [sJ hu xo xo,JQ,decide_eq_false (by omega:¬64*m+i<n)];simp
  rw [z,List.append_nil];apply List.filter_congr;intro i hi;have:=List.mem_range.1 hi;rw [sJ hu xo xo,JQ,decide_eq_true (by omega:64*m+i<n)];simp
 rw [e1];unfold eQ;rw [List.range'_eq_map_range,List.filter_map];rfl
def uI (ws:List Int) (n m:Nat):Nat:=dD ws 0 (min (64*m) n)
theorem ER (ws:List Int) (n:Nat):uI ws n 0=0:=by simp [uI,dD]
theorem RQ {ws:List Int} (hu:fB ws) {n m:Nat} (hm:64*m<n):uI ws n (m+1)=uI ws n m+wC (cutV ws 0 n m):=by
 have e:=congrArg List.length (PM hu hm);rw [List.length_map,tN,gu] at e;have e2:=congrArg List.length (xN ws (a:=0) (b:=64*m) (d:=min (64*m+64) n) xo xo);rw [List.length_append,gu,gu,gu] at e2;rw [uI,uI,show min (64*(m+1)) n=min (64*m+64) n by omega,show min (64*m) n=64*m by omega,e2,e]
theorem Yz {ws:List Int} (hu:fB ws) {n m k:Nat} (hm:64*m<n) (hk:k<wC (cutV ws 0 n m)):uI ws n m+k<(eQ ws 0 n).length/\64*m+(LP (cutV ws 0 n m)).getD k 0=(eQ ws 0 n).getD (uI ws n m+k) 0:=by
 have e0:=PM hu hm;have hk2:k<(LP (cutV ws 0 n m)).length:=by rw [tN];exact hk
 have hk3:k<(eQ ws (64*m) (min (64*m+64) n)).length:=by rw [<-e0,List.length_map];exact hk2
 have e1:=xN ws (a:=0) (b:=min (64*m+64) n) (d:=n) xo xo;rw [xN ws (a:=0) (b:=64*m) (d:=min (64*m+64) n) xo xo] at e1;have hB:uI ws n m=(eQ ws 0 (64*m)).length:=by rw [gu,uI,show min (64*m) n=64*m by omega]
 refine ⟨?_,?_⟩
 . rw [e1,List.length_append,List.length_append,hB];omega
 . rw [e1,List.append_assoc,hB,List.getD_eq_getElem?_getD (l:=_++_),List.getElem?_append_right xo,show (eQ ws 0 (64*m)).length+k-(eQ ws 0 (64*m)).length=k by omega,List.getElem?_append_left hk3,<-e0,List.getElem?_map,List.getD_eq_getElem?_getD,List.getElem?_eq_getElem hk2];rfl
theorem Vx {ws:List Int} {n m:Nat} (hm:n<=64*m):uI ws n m=(eQ ws 0 n).length:=by rw [gu,uI,show min (64*m) n=n by omega]
def pJ (p:Nat->Bool):Nat->Int
  | 0=> -1
  | n+1=>if p n=true then n else pJ p n
theorem QT (p:Nat->Bool):pJ p 0= -1:=rfl
theorem IZ {p:Nat->Bool} {n:Nat} (h:p n=true):pJ p (n+1)=n:=by rw [pJ,if_pos h]
theorem OY {p:Nat->Bool} {n:Nat} (h:p n=false):pJ p (n+1)=pJ p n:=by rw [pJ,if_neg (by simp [h])]
theorem wW (p:Nat->Bool):∀n,(pJ p n= -1/\∀i,i<n->p i=false)\/∃k,k<n/\pJ p n=(k:Nat)/\p k=true/\∀i,k<i->i<n->p i=false
  | 0=>Or.inl ⟨rfl,fun i hi=>by omega⟩
  | n +1=>by
   cases h:p n with
   | true=>exact Or.inr ⟨n,by omega,IZ h,h,fun i h1 h2=>by omega⟩
   | false=>
    rw [OY h];rcases wW p n with ⟨e,hn⟩ | ⟨k,hk,e,hp,hn⟩
    . refine Or.inl ⟨e,fun i hi=> ?_⟩;rcases Nat.lt_or_ge i n with q|q
      . exact hn i q
      . rw [show i=n by omega];exact h
    . refine Or.inr ⟨k,by omega,e,hp,fun i h1 h2=> ?_⟩;rcases Nat.lt_or_ge i n with q|q
      . exact hn i h1 q
      . rw [show i=n by omega];exact h
def dJ (a h at_:Nat):Nat:=at_/2^(a+h)
theorem tq {a h H at_:Nat} (hh:h<=H) (hat:at_<2^a*2^H):(dJ a h at_+1)*2^h<=2^H/\dJ a h at_*2^(a+h)<=at_/\at_<(dJ a h at_+1)*2^(a+h)/\(dJ a h at_+1)*2^(a+h)<=2^a*2^H:=by
 have hp:=Nat.two_pow_pos (a+h);have e1:2^a*2^H=2^(H-h)*2^(a+h):=by rw [<-Nat.pow_add,<-Nat.pow_add];congr 1;omega
 have e2:2^H=2^(H-h)*2^h:=by rw [<-Nat.pow_add];congr 1;omega
 have hw:dJ a h at_<2^(H-h):=by
  unfold dJ;rw [Nat.div_lt_iff_lt_mul hp,<-e1];exact hat
 have h1:=Nat.div_mul_le_self at_ (2^(a+h));have h2:=Nat.lt_div_mul_add hp (a:=at_);refine ⟨?_,h1,?_,?_⟩
 . rw [e2];exact Nat.mul_le_mul_right _ hw
 . rw [Nat.succ_mul];exact h2
 . rw [e1];exact Nat.mul_le_mul_right _ hw
theorem AZ (a h at_:Nat):dJ a h at_*2^(a+h)=dJ a h at_*2^h*2^a/\(dJ a h at_+1)*2^(a+h)=(dJ a h at_+1)*2^h*2^a/\dJ a h at_*2^(a+h)+2^(a+h)=(dJ a h at_+1)*2^(a+h):=by
 refine ⟨?_,?_,by rw [Nat.succ_mul]⟩
 . rw [Nat.pow_add,Nat.mul_comm (2^a),Nat.mul_assoc]
 . rw [Nat.pow_add,Nat.mul_comm (2^a),Nat.mul_assoc]
end
end Go.Proofs.YtbedhbpgnfffmaaGreatDoor

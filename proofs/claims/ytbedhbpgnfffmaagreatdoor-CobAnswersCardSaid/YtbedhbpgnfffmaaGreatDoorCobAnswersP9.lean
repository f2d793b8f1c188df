/- Merged: DenPl, DenW, RangeE, Path, OccNth, PutW, PutL, ApFull, InvEff, PutK, Amg8, With. -/
import Derived.Test.YtbedhbpgnfffmaaGreatDoorCobAnswersP8
import Derived.Test.YtbedhbpgnfffmaaGreatDoorCobAnswersP2
import Derived.Test.YtbedhbpgnfffmaaGreatDoorCobAnswersP7
import Derived.Test.YtbedhbpgnfffmaaGreatDoorCobAnswersP6
import Derived.Test.YtbedhbpgnfffmaaGreatDoorCobAnswersP3
import Derived.Test.YtbedhbpgnfffmaaGreatDoorCobAnswersP1
import Derived.Test.YtbedhbpgnfffmaaGreatDoorCobAnswersP5
import Derived.Test.YtbedhbpgnfffmaaGreatDoorCobAnswersP4
namespace Go.Proofs.YtbedhbpgnfffmaaGreatDoor
set_option maxRecDepth 100000
set_option maxHeartbeats 40000000
set_option linter.unusedVariables false
set_option linter.unusedSimpArgs false
section
open Go.RowKit
def okW (c:bY) (n:Int) (H h:Nat) (x:Int):Prop:=qL c H h x=true/\Gl c n H h x=true
def uq (ws:List Int) (a h i:Nat):Nat:=dD ws (i*2^(a+h)) ((i+1)*2^(a+h))
def Zy (c:bY) (n:Int) (a H:Nat) (ws:List Int):Prop:=∀h,h<=H->∀i,i<2^(H-h)->okW c n H h (uq ws a h i)
theorem Pi (a h i:Nat):i*2^(a+h)=i*2^h*2^a:=by rw [Nat.pow_add,Nat.mul_comm (2^a),Nat.mul_assoc]
theorem DD {c:bY} {s:aW} {a H lw n:Nat} (g:fQ s (2^a) lw n (2^H)):J5 c s H=true↔Zy c s.ks.length a H s.ws:=by
 have e:∀h,h<=H->∀i,i<2^(H-h)->jS s.cs (i*2^h) ((i+1)*2^h)=(uq s.ws a h i:Int):=by
  intro h hh i hi;have hb:(i+1)*2^h<=2^H:=by
   have:(i+1)*2^h<=2^(H-h)*2^h:=Nat.mul_le_mul_right _ hi;rwa [<-Nat.pow_add,Nat.sub_add_cancel hh] at this
  rw [vH g (Nat.mul_le_mul_right _ xo) hb,uq,Pi,Pi]
 have ed:∀h,h<=H->s.cs.length/2^h=2^(H-h):=by
  intro h hh;rw [g.Ep,Nat.pow_div hh xo]
 unfold J5 Zy rowB MG okW;simp only [List.all_eq_true,List.mem_range,Bool.and_eq_true];constructor
 . intro q h hh i hi;have:=q h xo i (by rw [ed h hh];exact hi);rwa [e h hh i hi] at this
 . intro q h hh i hi;have hh':h<=H:=xo;rw [ed h hh'] at hi;rw [e h hh' i hi];exact q h hh' i hi
theorem Ur {a h j at_:Nat} (hj:h<=j):dJ a j at_*2^(a+j)<=dJ a h at_*2^(a+h)/\(dJ a h at_+1)*2^(a+h)<=(dJ a j at_+1)*2^(a+j):=by
 have e:2^(a+j)=2^(j-h)*2^(a+h):=by rw [<-Nat.pow_add];congr 1;omega
 have e2:dJ a j at_=dJ a h at_/2^(j-h):=by
  unfold dJ;rw [e,Nat.mul_comm,Nat.div_div_eq_div_mul]
 have hp:=Nat.two_pow_pos (j-h);have h1:=Nat.lt_div_mul_add hp (a:=dJ a h at_);constructor
 . rw [e,e2,<-Nat.mul_assoc];exact Nat.mul_le_mul_right _ (Nat.div_mul_le_self _ _)
 . rw [e,e2,<-Nat.mul_assoc];refine Nat.mul_le_mul_right _ ?_;rw [Nat.succ_mul];exact h1
theorem QO {w i i':Nat} (h:i≠i'):(i+1)*w<=i'*w\/(i'+1)*w<=i*w:=by
 rcases Nat.lt_or_ge i i' with q|q
 . exact .inl (Nat.mul_le_mul_right _ q)
 . exact .inr (Nat.mul_le_mul_right _ xo)
theorem CV {c:bY} {size:Int} {a H j h m x:Nat} (k:mM c size a H) (hjh:j<h) (hh:h<=H) (ok:okW c size H h (m:Int)) (h1:x*2^(h-j)<m+2^(h-j)) (h2:m<(x+1)*2^(h-j)):okW c size H j (x:Int):=by
 have e:j+(h-j)=h:=xo;obtain ⟨o1,o2⟩:=ok;rw [<-e] at o1 o2;refine ⟨Oh k xo xo o1 h1,?_⟩;rw [Gj] at o2 ⊢;rcases o2 with o2|o2
 . exact .inl o2
 . exact .inr (QZ k xo o2 h2)
theorem aca {c:bY} {z:aW} {a H lw n at_ h:Nat} (k:mM c n a H) (g:fQ z (2^a) lw n (2^H)) (hh:h<=H) (hat:at_<n) {L:List (Int×Int)} (hL:L.length<=2^(a+h))
    (hout:∀j,j<=H->∀i,i<2^(H-j)->i≠dJ a j at_->okW c n H j (uq z.ws a j i))
    (hup:∀j,h<=j->j<=H->∀x:Nat,x+uq z.ws a h (dJ a h at_)=uq z.ws a j (dJ a j at_)+L.length->okW c n H j (x:Int)):
    Zy c n a H (Az z (dJ a h at_*2^(a+h)) ((dJ a h at_+1)*2^(a+h)) L).ws:=by
 have hn:n=2^a*2^H:=by have:=k.all;omega
 obtain ⟨b1,b2,b3,b4⟩:=tq (a:=a) (at_:=at_) hh (by rw [<-hn];exact hat);have hlo:dJ a h at_*2^(a+h)<=(dJ a h at_+1)*2^(a+h):=Nat.mul_le_mul_right _ xo;have hhi:(dJ a h at_+1)*2^(a+h)<=n:=by rw [hn];exact b4
 have hw:(dJ a h at_+1)*2^(a+h)-dJ a h at_*2^(a+h)=2^(a+h):=by rw [Nat.succ_mul];omega
 have hLw:L.length<=(dJ a h at_+1)*2^(a+h)-dJ a h at_*2^(a+h):=by rw [hw];exact hL
 intro j hj i hi;obtain ⟨-,c2,c3,-⟩:=tq (a:=a) (at_:=at_) hj (by rw [<-hn];exact hat);have hdis:(i+1)*2^(a+j)<=dJ a h at_*2^(a+h)\/(dJ a h at_+1)*2^(a+h)<=i*2^(a+j)->okW c n H j (uq (Az z (dJ a h at_*2^(a+h)) ((dJ a h at_+1)*2^(a+h)) L).ws a j i):=by
  intro hd;have e:=yt g hlo hhi hLw hd;unfold uq;rw [e];refine hout j hj i hi fun e=> ?_
  rw [e] at hd;omega
 rcases Nat.lt_or_ge j h with q|q
 . have eP:2^(a+h)=2^(h-j)*2^(a+j):=by rw [<-Nat.pow_add];congr 1;omega
   have hP:=Nat.two_pow_pos (h-j);have hwj:=Nat.two_pow_pos (a+j);rcases Nat.lt_trichotomy (i/2^(h-j)) (dJ a h at_) with r|r|r
   . have h1:i<dJ a h at_*2^(h-j):=(Nat.div_lt_iff_lt_mul hP).1 r;refine hdis (.inl ?_);rw [eP,<-Nat.mul_assoc];exact Nat.mul_le_mul_right _ h1
   . obtain ⟨x,ex,x1,x2⟩:=J_ (lo:=dJ a h at_*2^(a+h)) (w:=2^(a+j)) (P:=2^(h-j)) (q:=i%2^(h-j)) g (by rw [<-eP,<-Nat.succ_mul];exact hhi) (by rw [<-eP];exact hL) hwj hP (Nat.mod_lt _ hP);have ei:i*2^(a+j)=dJ a h at_*2^(a+h)+i%2^(h-j)*2^(a+j):=by
      rw [eP,<-r,<-Nat.mul_assoc,<-Nat.add_mul,Nat.mul_comm (i/_),Nat.div_add_mod]
     have ei2:(i+1)*2^(a+j)=dJ a h at_*2^(a+h)+(i%2^(h-j)+1)*2^(a+j):=by
      rw [Nat.succ_mul,ei,Nat.succ_mul,Nat.add_assoc]
     have hs:(dJ a h at_+1)*2^(a+h)=dJ a h at_*2^(a+h)+2^(h-j)*2^(a+j):=by rw [Nat.succ_mul,<-eP]
     have hm:=hup h (Nat.le_refl _) hh L.length xo;unfold uq;rw [ei,ei2,hs,ex];exact CV k q hh hm x1 x2
   . have h1:(dJ a h at_+1)*2^(h-j)<=i:=(Nat.le_div_iff_mul_le hP).1 r;refine hdis (.inr ?_);rw [eP,<-Nat.mul_assoc];exact Nat.mul_le_mul_right _ h1
 . obtain ⟨w1,w2⟩:=Ur (a:=a) (at_:=at_) q;by_cases e:i=dJ a j at_
   . subst e;refine hup j q hj _ ?_;unfold uq;have t1:=kU (Az z (dJ a h at_*2^(a+h)) ((dJ a h at_+1)*2^(a+h)) L).ws w1 (Nat.le_trans hlo w2);have t2:=kU (Az z (dJ a h at_*2^(a+h)) ((dJ a h at_+1)*2^(a+h)) L).ws hlo w2;have u1:=kU z.ws w1 (Nat.le_trans hlo w2);have u2:=kU z.ws hlo w2;have v1:=yt g hlo hhi hLw (x:=dJ a j at_*2^(a+j)) (y:=dJ a h at_*2^(a+h)) (.inl (Nat.le_refl _));have v2:=yt g hlo hhi hLw (x:=(dJ a h at_+1)*2^(a+h)) (y:=(dJ a j at_+1)*2^(a+j)) (.inr (Nat.le_refl _));have v3:=H8 g hlo hhi hLw;omega
   . rcases QO (w:=2^(a+j)) e with r|r
     . exact hdis (.inl (Nat.le_trans r w1))
     . exact hdis (.inr (Nat.le_trans w2 r))
theorem Za {c:bY} {z:aW} {a H n:Nat} (k:mM c n a H) (g:fQ z (2^a) ((n+63)/64) n (2^H)):pV c z a H:=by
 have hm:=Oe g (pO a) (pO H) rfl;have hn:n=2^a*2^H:=by have:=k.all;omega
 have hm':=hm;simp only [fV,Bool.and_eq_true] at hm';exact ⟨by rw [g.AP];exact k,g.ai,by rw [g.AP,hn],by rw [g.LQ,hn],g.Ep,Qk g.ai hm'.2,hm⟩
theorem yf {c:bY} {z:aW} {a H n:Nat} (k:mM c n a H) (g:fQ z (2^a) ((n+63)/64) n (2^H)) (JU:(dD z.ws 0 n:Int)<=c.most) (hd:Zy c n a H z.ws):kY c z=0:=by
 have kn:=Za k g;have hs:jS z.cs 0 z.cs.length=(dD z.ws 0 n:Int):=by
  have:=ql kn g.u;rwa [fC,g.AP] at this
 rw [JW kn (by rw [g.ai,k.ai]) (by rw [hs];exact JU),if_pos];rw [DD g,g.AP];exact hd
theorem Yv {c:bY} {size:Int} {a H h:Nat} (k:mM c size a H) {x y:Int} (hf:qL c H h y=true) (ok:okW c size H h x) (hxy:x<=y):okW c size H h y:=by
 obtain ⟨d0,d1,d2,d3,d4,d5,d6,d7,d8,d9,d10,d11,d12,d13,Fq,Et,Fp,Es⟩:=dw (dK k.may);refine ⟨hf,?_⟩;have o:=ok.2;rw [Gj] at o ⊢;rcases o with o|o
 . exact .inl o
 . exact .inr (Q4 xo hxy o)
theorem ZA {c:bY} {s:aW} {a H h at_:Nat} (k:pV c s a H) (hu:fB s.ws) (hh:h<=H) (hat:at_<s.ks.length):Qa s a h at_=(uq s.ws a h (dJ a h at_):Int):=NP k hu hh hat
theorem aaY {a H h at_:Nat} (hh:h<=H) (hat:at_<2^a*2^H):dJ a h at_<2^(H-h):=by
 have e1:2^a*2^H=2^(H-h)*2^(a+h):=by rw [<-Nat.pow_add,<-Nat.pow_add];congr 1;omega
 unfold dJ;rw [Nat.div_lt_iff_lt_mul (Nat.two_pow_pos _),<-e1];exact hat
theorem YI {z:aW} {S lw n lc lo hi:Nat} (g:fQ z S lw n lc) (hlo:lo<=hi) (hhi:hi<=n) {L:List (Int×Int)} (hL:L.length<=hi-lo):dD (Az z lo hi L).ws 0 n+dD z.ws lo hi=dD z.ws 0 n+L.length:=by
 have t1:=kU (Az z lo hi L).ws (a:=0) (b:=lo) (d:=n) xo xo;have t2:=kU (Az z lo hi L).ws (a:=lo) (b:=hi) (d:=n) hlo hhi;have u1:=kU z.ws (a:=0) (b:=lo) (d:=n) xo xo;have u2:=kU z.ws (a:=lo) (b:=hi) (d:=n) hlo hhi;have v1:=yt g hlo hhi hL (x:=0) (y:=lo) (.inl (Nat.le_refl _));have v2:=yt g hlo hhi hL (x:=hi) (y:=n) (.inr (Nat.le_refl _));have v3:=H8 g hlo hhi hL;omega
theorem Yj {c:bY} {s:aW} {a H:Nat} (k:pV c s a H) (hu:fB s.ws) (hd:J5 c s H=true) (lq:(fC s:Int)<c.most) {at_ h:Nat} (hat:at_<s.ks.length) (eh:pJ (EP c s a H at_) (H+1)+1=h) (hh:h<=H) {L:List (Int×Int)} (hL:L.length=uq s.ws a h (dJ a h at_)+1) (hL2:L.length<=2^(a+h)):
    kY c (Az s (dJ a h at_*2^(a+h)) ((dJ a h at_+1)*2^(a+h)) L)=0:=by
 obtain ⟨g,-⟩:=lU k hu;have hn:=k.nk;obtain ⟨-,-,-,b4⟩:=tq (a:=a) (at_:=at_) hh (by rw [<-hn];exact hat);have hlo:dJ a h at_*2^(a+h)<=(dJ a h at_+1)*2^(a+h):=Nat.mul_le_mul_right _ xo;have hhi:(dJ a h at_+1)*2^(a+h)<=s.ks.length:=by rw [hn];exact b4
 have hw:(dJ a h at_+1)*2^(a+h)-dJ a h at_*2^(a+h)=2^(a+h):=by rw [Nat.succ_mul];omega
 rw [DD g] at hd;have hov:∀j,h<=j->j<=H->qL c H j (Qa s a j at_+1)=true:=by
  intro j h1 h2;have:EP c s a H at_ j=false:=by
   rcases wW (EP c s a H at_) (H+1) with ⟨e,hn⟩ | ⟨q,hq,e,hp,hn⟩
   . exact hn j xo
   . exact hn j xo xo
  unfold EP at this;rwa [Bool.not_eq_false'] at this
 refine yf k.cap (g.sp hlo hhi (by rw [hw];exact hL2)) ?_ (aca k.cap g hh hat hL2 (fun j hj i hi _=>hd j hj i hi) fun j h1 h2 x hx=> ?_)
 . have:=YI g hlo hhi (L:=L) (by rw [hw];exact hL2);unfold fC at lq;unfold uq at hL;omega
 . have hf:=hov j h1 h2;rw [ZA k hu h2 hat] at hf;have hx2:x=uq s.ws a j (dJ a j at_)+1:=xo;rw [hx2];exact Yv k.cap (by push_cast;exact hf) (hd j h2 _ (aaY h2 (by rw [<-hn];exact hat))) (by push_cast;omega)
theorem Uy {c:bY} {n a H:Nat} (k:mM c n a H) (laid:Int) {L:List (Int×Int)} (hL:L.length<=n) (lq:(L.length:Int)<=c.most) (ok:okW c n H H (L.length:Int)):kY c (zH (2^a) (2^H) laid L)=0:=by
 unfold zH;have hn:n=2^a*2^H:=by have:=k.all;omega
 have ha4:2^2<=2^a:=Nat.pow_le_pow_right xo k.a2;have ha6:2^a<=2^6:=Nat.pow_le_pow_right xo k.a6;have g:=ou (S:=2^a) (M:=2^H) xo xo (Nat.two_pow_pos H) k.big laid;subst hn;have hall:=H8 g (Nat.zero_le _) (Nat.le_refl _) (L:=L) xo;refine yf k (g.sp (Nat.zero_le _) (Nat.le_refl _) xo) ?_ fun j hj i hi=> ?_
 . rw [hall];exact lq
 . unfold uq;have e:2^a*2^H=2^(H-j)*2^(a+j):=by rw [<-Nat.pow_add,<-Nat.pow_add];congr 1;omega
   rcases Nat.eq_or_lt_of_le hj with q|q
   . subst q;have:i=0:=by rw [Nat.sub_self] at hi;simpa using hi
     subst this;rw [Nat.zero_mul,Nat.zero_add,Nat.one_mul,Nat.pow_add];rw [hall];exact ok
   . obtain ⟨x,ex,x1,x2⟩:=J_ (lo:=0) (w:=2^(a+j)) (P:=2^(H-j)) (q:=i) g (by rw [Nat.zero_add,<-e];exact Nat.le_refl _) (by rw [<-e];exact hL) (Nat.two_pow_pos _) (Nat.two_pow_pos _) hi;simp only [Nat.zero_add] at ex;rw [<-e] at ex;rw [ex];exact CV k q (Nat.le_refl _) ok x1 x2
theorem mM.adm {c:bY} {size:Int} {a H:Nat} (k:mM c size a H):pW c H=size:=by rw [pW,k.ai,k.all];push_cast;rfl
theorem Ze {c:bY} {size:Int} {a H:Nat} (k:mM c size a H) {m:Int} (h:m*c.den<=c.rh*size):qL c H H m=true:=by
 unfold qL;rw [k.adm];split
 . rw [decide_eq_true_eq,Int.mul_comm size];exact h
 . rw [decide_eq_true_eq,Int.sub_self,Int.mul_zero,Int.zero_add,Int.mul_right_comm,<-Int.mul_assoc,Int.mul_comm size];exact Int.mul_le_mul_of_nonneg_right h xo
theorem X9 {c:bY} {size:Int} {a H:Nat} (k:mM c size a H) {m:Int} (h:size=c.least\/size*c.rl<=(m+1)*c.den):Gl c size H H m=true:=by
 rw [Gj];rcases h with h|h
 . exact .inl h
 . right;unfold Gi;rw [k.adm,Int.sub_self,Int.mul_zero,Int.zero_add,Int.mul_right_comm,<-Int.mul_assoc];exact Int.mul_le_mul_of_nonneg_right h xo
theorem I8 (c:bY) (n:Int):∀(k:Nat) (size:Int),0<=size->mQ c n k size=size\/∃t,mQ c n k size=2*t/\0<=t/\c.rh*t<n*c.den
  | 0,size,_=> .inl rfl
  | k+1,size,h0=>by
   rw [mQ];split
   . rename_i h
     rcases I8 c n k (2*size) xo with e | ⟨t,e,h1,h2⟩
     . exact .inr ⟨size,e,h0,h⟩
     . exact .inr ⟨t,e,h1,h2⟩
   . exact .inl rfl
theorem EJ {c:bY} {n m:Int} (hd:0<=c.den) (hnm:n<=m):∀(k:Nat) (size:Int),0<=size->mQ c n k size<=mQ c m k size
  | 0,size,_=>Int.le_refl _
  | k+1,size,h0=>by
   have h1:=Int.mul_le_mul_of_nonneg_right hnm hd;have hb:=(O_ (c:=c) (n:=m) (k+1) size h0).1;rw [mQ];split
   . rename_i h
     rw [mQ,if_pos xo];exact EJ hd hnm k (2*size) xo
   . exact hb
theorem Ky {c:bY} {a:Nat} (hm:gQ c=true) (hs:c.ai=((2^a:Nat):Int)) {n:Nat} (hn:(n:Int)<=c.most):∃H,mM c (ig c n) a H/\okW c (ig c n) H H n/\(n:Int)<=ig c n:=by
 have hd:=dK hm;obtain ⟨d0,d1,d2,d3,d4,d5,d6,d7,d8,d9,d10,d11,d12,d13,Fq,Et,Fp,Es⟩:=dw hd;obtain ⟨H',e,hb,hle⟩:=Ic hd hs (n:=(n:Int)) xo xo;have tb:=vG hd (n:=(n:Int)) xo xo;have hp:kW (ig c n) c.least (ig c c.most)=true:=by
  refine mZ.2 ⟨tb.2.2,EJ xo hn 20 c.least xo,?_⟩;rw [e,<-Nat.pow_add];exact pO _
 obtain ⟨a',H,k⟩:=Qo hm hp;have haa:a'=a:=by
  have h1:=k.ai;rw [hs] at h1;have h2:2^a=2^a':=xo;exact Nat.le_antisymm ((Nat.pow_le_pow_iff_right (a:=2) xo).1 xo) ((Nat.pow_le_pow_iff_right (a:=2) xo).1 xo)
 subst haa;refine ⟨H,k,⟨Ze k ?_,X9 k ?_⟩,hle⟩
 . exact BZ (c:=c) (n:=(n:Int)) xo 20 c.least xo (yI xo xo xo d8 d9).1
 . rcases I8 c n 20 c.least xo with q | ⟨t,q,h1,h2⟩
   . exact .inl q
   . right;have e1:ig c n=2*t:=q;rw [e1];have h3:4*c.rl<=c.rh:=xo;have h4:=Int.mul_le_mul_of_nonneg_right h3 h1;have h5:2*t*c.rl<=4*c.rl*t:=by
      have:0<=c.rl*t:=Int.mul_nonneg xo h1;have e2:2*t*c.rl=2*(c.rl*t):=by rw [Int.mul_assoc,Int.mul_comm t]
      have e3:4*c.rl*t=4*(c.rl*t):=Int.mul_assoc ..;omega
     have h6:(n:Int)*c.den<=((n:Int)+1)*c.den:=Int.mul_le_mul_of_nonneg_right xo xo;omega
theorem WW {c:bY} {a H:Nat} {n:Nat} (k:mM c (ig c n) a H):zi c n=2^H:=by
 rw [zi,k.all,k.ai,Int.toNat_natCast,Int.toNat_natCast,Nat.mul_div_cancel_left _ (Nat.two_pow_pos a)]
theorem ZR {c:bY} {a:Nat} (hm:gQ c=true) (hs:c.ai=((2^a:Nat):Int)) (laid:Int) {L:List (Int×Int)} (hn:(L.length:Int)<=c.most):kY c (zH (2^a) (zi c L.length) laid L)=0:=by
 obtain ⟨H,k,ok,hle⟩:=Ky hm hs hn;rw [WW k];have e:=k.all;generalize ig c L.length=size at *;subst e;exact Uy k laid xo hn ok
def aaP (P:Program) (gf:Nat) (lb:Array Value) (xs:List (Array Value)) (Kp:World->World->Prop) (w:World):Prop:=
  ∀ (l:Nat) (J Jx:Nat->World->Prop) (W:World),Below w.heap.size w W->(∀W1,¬J xs.length W1)->
    (∀k W1 W2,J k W1->Below W1.heap.size W1 W2->J k W2)->(∀k W1 W2,Jx k W1->Below W1.heap.size W1 W2->Jx k W2)->
    (∀k W1,k<xs.length->J k W1->YieldAt Fence.wide 0 P l (xs.getD k #[]) W1 fun e W'=>
     (e= .returned (.bool true)/\J (k+1) W'/\Kp W1 W')\/(e= .returned (.bool false)/\Jx (k+1) W'))->
    J 0 W->
    CallsIn Fence.wide 0 P gf (#[.func (.yield l) #[] #[]]++lb) W fun e W'=>(∃v,e= .returned v)/\(J xs.length W'\/∃k,k<=xs.length/\Jx k W')
theorem L8 {P:Program} {g:Operand} {ps:Array Tmp} {assign body:Code} {Q:Exit->Act->World->Prop} {a:Act} {w:World}
    {gf:Nat} {lb:Array Value} (hg:a.eval g= .func (.func gf) #[] lb) (eg:∀args w,(callFunc gf args).run P w= .ok (.enter gf args) w)
    {xs:List (Array Value)} {Kp:World->World->Prop} {w0:World} (hseq:aaP P gf lb xs Kp w0) (hb0:Below w0.heap.size w0 w)
    (hKt:∀ {A B C:World},Kp A B->Kp B C->Kp A C) (hKb:∀(W:World) (l:Nat) (o o':Obj),w.heap.size<=l->W.heap[l]? =some o->o.isCells=false->Kp W (W.putObj l o'))
    (hps:∀x ∈ xs,x.size=ps.size)
    (I:Nat->World->Prop) (Ix:Code->World->Prop) (hI:∀k W W',I k W->Calm w.heap.size W W'->I k W') (hIx:∀c W W',Ix c W->Calm w.heap.size W W'->Ix c W') (h0:I 0 w)
    (tZ:∀(l k:Nat) (W:World),w.heap.size<=l->k<xs.length->I k W->
      assign.wpIn (NQ l) 0 P (Exit.then (IG P l body w.heap.size Kp I Ix k W) (fun _ _ _=>False))
        {tmps:=(ps.zip (xs.getD k #[])).foldl (fun t (p,v)=>t.setIfInBounds p v) a.tmps,defers:=[]} W)
    (hno:∀W,¬I xs.length W)
    (hstop:∀(D:Nat) (c:Code) (W:World),w.heap.size<=D->Ix c W->W.heap[D]? =some (.deferred (some []))->c.wp P Q {a with defers:= {target:= .collected D,args:= #[]}::a.defers} W):
    (Code.rangeFunc g ps assign body).wp P Q a w:=by
 refine wpIn_wide (n:=0).1 (wpIn_rangeFunc ?_);intro fn hfn;obtain ⟨rec,hrec⟩:∃rec:LoopState->Option Code->Loop,rec=fun st pe=> {state:=st,pending:=pe,fn,tmps:=a.tmps,params:=ps,assign,body,defers:=w.heap.size}:=⟨_,rfl⟩
 obtain ⟨W1,hW1⟩:∃W1,(w.alloc (.deferred (some []))).alloc (.loop (rec .ready none))=W1:=⟨_,rfl⟩
 have hL1:W1.heap[w.heap.size+1]? =some (.loop (rec .ready none)):=by
  rw [<-hW1];have:=World.alloc_heap_new (w.alloc (.deferred (some []))) (.loop (rec .ready none));rwa [World.size_alloc] at this
 have hK1:W1.heap[w.heap.size]? =some (.deferred (some [])):=by
  rw [<-hW1];exact (Below.heap_alloc _ _ _ ax).trans (World.alloc_heap_new w _)
 have hI1:I 0 W1:=by rw [<-hW1];exact hI _ _ _ h0 ((Calm.alloc _ (Nat.le_refl _)).trans (Calm.alloc _ ax))
 have hb1:Below w0.heap.size w0 W1:=by
  rw [<-hW1];exact hb0.trans ((((Below.refl _ w).alloc (Nat.le_refl _) _).alloc ax _).mono hb0.size)
 have DK:∀ {A C:World},w.heap.size<=A.heap.size->Below A.heap.size A C->Calm w.heap.size A C:=fun hs hb=>
  ⟨hb.os,hb.tape,hb.output,hb.size,fun k hk=>hb.block k xo,fun k o hk _=>(hb.block k (Array.getElem?_eq_some_iff.1 hk).1).trans hk⟩
 refine ⟨w.heap.size+1,[{target:= .collected w.heap.size,args:= #[]}],W1,{target:= .fn (.func gf) lb,args:= #[.func (.yield (w.heap.size+1)) #[] #[]]},W1,gf,
   #[.func (.yield (w.heap.size+1)) #[] #[]]++lb,W1,?_,?_,fun _ _=>trivial,?_,fun h=>(by cases h),?_⟩
 . rw [<-hW1,hrec];exact run_enterLoop_outer _ _ _ _ _
 . simp only [resolve,hg];simp [go_sem]
 . simp [invoke,go_sem,eg]
 . refine (hseq (w.heap.size+1)
     (fun k W=>I k W/\W.heap[w.heap.size+1]? =some (.loop (rec .ready none))/\W.heap[w.heap.size]? =some (.deferred (some [])))
     (fun _ W=>∃c,Ix c W/\W.heap[w.heap.size+1]? =some (.loop (rec .done (some c)))/\W.heap[w.heap.size]? =some (.deferred (some [])))
     W1 hb1 (fun W h=>hno W h.1) ?_ ?_ ?_ ⟨hI1,hL1,hK1⟩).mono ?_
   . rintro k A C ⟨h1,h2,h3⟩ hb;have l2:=(Array.getElem?_eq_some_iff.1 h2).1;exact ⟨hI _ _ _ h1 (DK xo hb),(hb.block _ l2).trans h2,(hb.block _ xo).trans h3⟩
   . rintro k A C ⟨c,h1,h2,h3⟩ hb;have l2:=(Array.getElem?_eq_some_iff.1 h2).1;exact ⟨c,hIx _ _ _ h1 (DK xo hb),(hb.block _ l2).trans h2,(hb.block _ xo).trans h3⟩
   . -- one round
     rintro k W hkl ⟨hi,hl,hk⟩;have hlt:w.heap.size+1<W.heap.size:=(Array.getElem?_eq_some_iff.1 hl).1;have hsz:(xs.getD k #[]).size=ps.size:=by
      rw [List.getD_eq_getElem?_getD,List.getElem?_eq_getElem hkl];exact hps _ (List.getElem_mem _)
     have hy:=run_yield (P:=P) (args:=xs.getD k #[]) hl (by rw [hrec];exact hsz);rw [hrec] at hy;refine ⟨fn,_,assign,body,hy,roundIn_of_wpIn trivial (wpIn_mono (tZ _ k W xo hkl hi) ?_)⟩;intro e a1 Wa hq;cases e with
     | normal=>
      obtain ⟨hks,hkpa,hbody⟩:=hq;have hl0:=hl;have hlt0:=hlt;replace hl:Wa.heap[w.heap.size+1]? =some (.loop (rec .ready none)):=hks.same _ _ hl0 (by rfl);replace hk:Wa.heap[w.heap.size]? =some (.deferred (some [])):=hks.same _ _ hk (by rfl);replace hlt:w.heap.size+1<Wa.heap.size:=(Array.getElem?_eq_some_iff.1 hl).1;refine ⟨_,run_beginRound hl (by rw [hrec]),?_⟩;have hl2:(Wa.putObj (w.heap.size+1) (.loop {rec .ready none with state:= .busy})).heap[w.heap.size+1]? =some (.loop {rec .ready none with state:= .busy}):=World.putObj_heap_same hlt;have hk2:(Wa.putObj (w.heap.size+1) (.loop {rec .ready none with state:= .busy})).heap[w.heap.size]? =some (.deferred (some [])):=(World.putObj_heap_other xo).trans hk;have hw2:Kp Wa (Wa.putObj (w.heap.size+1) (.loop {rec .ready none with state:= .busy})):=hKb _ _ _ _ xo hl rfl;have hi2:Calm w.heap.size Wa (Wa.putObj (w.heap.size+1) (.loop {rec .ready none with state:= .busy})):=Calm.putObj _ xo hl rfl;refine wpIn_mono (hbody _ hi2) ?_;have fin:∀(jump:Option Code) (W3:World),KeepsOthers (Wa.putObj (w.heap.size+1) (.loop {rec .ready none with state:= .busy})) W3->
          (Instr.endRound (w.heap.size+1) jump).run P W3= .ok (.bool jump.isNone) (W3.putObj (w.heap.size+1) (.loop (rec (if jump.isNone then .ready else .done) jump)))/\
          W3.heap[w.heap.size+1]? =some (.loop {rec .ready none with state:= .busy})/\
          (W3.putObj (w.heap.size+1) (.loop (rec (if jump.isNone then .ready else .done) jump))).heap[w.heap.size+1]? =some (.loop (rec (if jump.isNone then .ready else .done) jump))/\
          (W3.putObj (w.heap.size+1) (.loop (rec (if jump.isNone then .ready else .done) jump))).heap[w.heap.size]? =some (.deferred (some [])):=fun jump W3 hk3=>by
       have hl3:=hk3.same _ _ hl2 rfl;have:=run_endRound (P:=P) jump hl3;rw [hrec] at this ⊢;exact ⟨this,by rw [hrec] at hl3;exact hl3,World.putObj_heap_same (Array.getElem?_eq_some_iff.1 hl3).1,(World.putObj_heap_other xo).trans (hk3.same _ _ hk2 rfl)⟩
      rintro e a3 W3 hp;cases e with
      | normal=>
       obtain ⟨hk3,hkp3,hi3⟩:=hp;obtain ⟨hr,hl3,hl4,hk4⟩:=fin none W3 hk3;exact ⟨_,_,hr,.inl ⟨rfl,⟨hI _ _ _ hi3 (Calm.putObj _ xo hl3 rfl),hl4,hk4⟩,hKt (hKt (hKt hkpa hw2) hkp3) (hKb _ _ _ _ xo hl3 rfl)⟩⟩
      | ret=>
       obtain ⟨hk3,hi3⟩:=hp;obtain ⟨hr,hl3,hl4,hk4⟩:=fin (some .ret) W3 hk3;exact ⟨_,_,hr,.inr ⟨rfl,.ret,hIx _ _ _ hi3 (Calm.putObj _ xo hl3 rfl),hl4,hk4⟩⟩
      | exit id=>
       obtain ⟨hk3,hi3⟩:=hp;obtain ⟨hr,hl3,hl4,hk4⟩:=fin (some (.exit id)) W3 hk3;exact ⟨_,_,hr,.inr ⟨rfl,.exit id,hIx _ _ _ hi3 (Calm.putObj _ xo hl3 rfl),hl4,hk4⟩⟩
      | goto t=>
       obtain ⟨hk3,hi3⟩:=hp;obtain ⟨hr,hl3,hl4,hk4⟩:=fin (some (.goto t)) W3 hk3;exact ⟨_,_,hr,.inr ⟨rfl,.goto t,hIx _ _ _ hi3 (Calm.putObj _ xo hl3 rfl),hl4,hk4⟩⟩
      | panic ch=>exact hp.elim
      | outgrown=>exact hp.elim
     | ret=>exact hq.elim
     | exit id=>exact hq.elim
     | goto t=>exact hq.elim
     | panic ch=>exact hq.elim
     | outgrown=>exact hq.elim
   . -- behind the iterator
     rintro e W2 ⟨⟨v,rfl⟩,(⟨hi,hl,hk⟩ | ⟨k,_,c,hi,hl,hk⟩)⟩
     . exact (hno _ hi).elim
     . exact ⟨some c,_,by have:=run_endLoop (P:=P) hl (by rw [hrec];simp);rw [hrec] at this;exact this,wpIn_wide.2 (hstop _ c _ (Nat.le_refl _) (hIx _ _ _ hi (Calm.putObj _ xo hl rfl)) ((World.putObj_heap_other xo).trans hk))⟩
end
section
open Go.RowKit Go.Shelf
attribute [local go_sem] Oper.semAt_some
def mP (a at_ N:Nat):List (Int×Int):=(List.range N).map fun h=>(((dJ a h at_*2^(a+h):Nat):Int),((dJ a h at_*2^(a+h):Nat):Int)+((2^(a+h):Nat):Int))
theorem pI (a at_ N:Nat):(mP a at_ N).length=N:=by simp [mP]
theorem Me (a at_ N:Nat):mP a at_ (N+1)=mP a at_ N++[(((dJ a N at_*2^(a+N):Nat):Int),((dJ a N at_*2^(a+N):Nat):Int)+((2^(a+N):Nat):Int))]:=by simp [mP,List.range_succ]
theorem EH {a at_ N i:Nat} (h:i<N):(mP a at_ N).getD i (0,0)=(((dJ a i at_*2^(a+i):Nat):Int),((dJ a i at_*2^(a+i):Nat):Int)+((2^(a+i):Nat):Int)):=by
 rw [List.getD_eq_getElem?_getD,mP,List.getElem?_map,List.getElem?_range h];rfl
def IY (a at_ N:Nat):List (Array Value):=(List.range N).map fun (h:Nat)=> #[.int .i64 (h:Int),.agg #[.int .i64 ((dJ a h at_*2^(a+h):Nat):Int),.int .i64 (((dJ a h at_*2^(a+h):Nat):Int)+((2^(a+h):Nat):Int))]]
theorem zG (a at_ N:Nat):(IY a at_ N).length=N:=by simp [IY]
theorem IX {a at_ N i:Nat} (h:i<N):(IY a at_ N).getD i #[]= #[.int .i64 (i:Int),.agg #[.int .i64 ((dJ a i at_*2^(a+i):Nat):Int),.int .i64 (((dJ a i at_*2^(a+i):Nat):Int)+((2^(a+i):Nat):Int))]]:=by
 rw [List.getD_eq_getElem?_getD,IY,List.getElem?_map,List.getElem?_range h];rfl
theorem L9 {a h at_:Nat} (hat:at_<=65536) (hah:a+h<=16) (w:World):
    Calls Tryz.prog 169 #[.int .i64 ((2^(a+h):Nat):Int),.int .i64 at_] w (aC w (.agg #[.int .i64 ((dJ a h at_*2^(a+h):Nat):Int),.int .i64 (((dJ a h at_*2^(a+h):Nat):Int)+((2^(a+h):Nat):Int))])):=by
 have hp:=Nat.two_pow_pos (a+h);have hb:2^(a+h)<=2^16:=Nat.pow_le_pow_right xo hah;have hd:=Nat.div_mul_le_self at_ (2^(a+h));have e:=uQ (n:=at_) (e:=a+h) xo xo;refine FY _ _ _ ?_ xo xo xo ?_ w
 . unfold dJ;rw [<-e];congr 1
   omega
 . unfold dJ;omega
theorem D9 (a at_ N:Nat) (hat:at_<=65536) (hN:a+N<=17) (S:Nat->Prop) (b1 b2:Nat) (s1:S b1) (s2:S b2) (w:World) (c1:w.cell? ⟨b1,0,none⟩=some (.int .i64 ((2^a:Nat):Int))) (c2:w.cell? ⟨b2,0,none⟩=some (.int .i64 at_)):
    aaP Tryz.prog 226 #[.pointer (some ⟨b1,0,none⟩),.pointer (some ⟨b2,0,none⟩)] (IY a at_ N) (EF S) w:=by
 intro l J Jx W hW hno hJ hJx hY h0;have HY:=hid hY;have HJ:=hid hJ;have HNO:=hid hno;have XE:=hid (zG a at_ N);have HGT:=hid (fun k (h:k<N)=>IX (a:=a) (at_:=at_) h);have AR0:=hid (fun h (hh:h<N) W=>L9 (a:=a) (h:=h) hat xo W);have HSH:=hid (fun h (hh:h<N)=>(show IntKind.i64.wrap (((2^a:Nat):Int)*2^h)=((2^(a+h):Nat):Int) by
  have hb:2^(a+h)<=2^17:=Nat.pow_le_pow_right xo xo;have e:((2^a:Nat):Int)*2^h=((2^(a+h):Nat):Int):=by rw [Nat.pow_add];push_cast;rfl
  rw [e];generalize 2^(a+h)=P at hb;exact IntWalk.i64_in _ xo))
 have hc1:W.cell? ⟨b1,0,none⟩=some (.int .i64 ((2^a:Nat):Int)):=(hW.cell (p:=⟨b1,0,none⟩) (World.block_lt_of_cell? _ _ c1)).trans c1;have hc2:W.cell? ⟨b2,0,none⟩=some (.int .i64 at_):=(hW.cell (p:=⟨b2,0,none⟩) (World.block_lt_of_cell? _ _ c2)).trans c2;have HH0:=hid h0;clear hY hJ hJx hno h0 c1 c2;generalize IY a at_ N=xs at *;generalize ((2^a:Nat):Int)=sg at *;refine callsIn_of_wp Tryz.func226 rfl trivial ?_ rfl;simp only [Tryz.ntmps226,List.size_toArray,List.length_cons,List.length_nil,Nat.reduceAdd,Nat.reduceSub,Array.replicate_succ,Array.replicate_zero,List.push_toArray,List.append_toArray,List.nil_append,List.cons_append];gi_wp2
 gi_loopg [4] N (fun g iv wr=>∃i:Nat,i+g=N/\iv= .int .i64 i/\Hid (J i wr)/\wr.cell? ⟨b1,0,none⟩=some (.int .i64 sg)/\wr.cell? ⟨b2,0,none⟩=some (.int .i64 at_))
 case atStart=>exact ⟨0,by omega,rfl,HH0,hc1,hc2⟩
 case round=>
  obtain ⟨i,hi',rfl,QG,q1,q2⟩:=hrel;clear HH0 hc1 hc2;by_cases hlt:i<N
  . have AR:=hid (AR0.out i hlt);have hsh:=HSH.out i hlt;have hpa:=HGT.out i hlt;generalize ((2^(a+i):Nat):Int)=ww at *;generalize ((dJ a i at_*2^(a+i):Nat):Int)=lo at *;have hsd:decide (i<64)=true:=by simp;omega
    have HI2:=hid hi';clear hi';gi_wp2
    refine gX 7 xk (N:=15) rfl xk xk au (fun w'=>Below wr.heap.size wr w') (Ext 26) (rO [.is (.func (.yield l) #[] #[]),.is (.int .i64 i),.is (.int .i64 sg),.is (.int .i64 i),.is (.int .i64 ww),.is (.int .i64 at_),.is (.agg #[.int .i64 lo,.int .i64 (lo+ww)])]) (iV _) br.drew ?steps ?fin
    case steps=>
     refine ⟨?o0,?o1,?o2,?o3,?o4,?o5,?o6,trivial⟩<;>intro u a w' ev hJ hd K hK
     case o0=>
      rw [if_pos (bg rfl)];have e0:tg a 0= .func (.yield l) #[] #[]:=ev 0 au;have HK:=hid hK;clear hK ev hd;go_simp;exact HK.out _ _ aS hJ rfl (Ext.refl _ _)
     case o1=>
      rw [if_pos (bg rfl)];have e4:tg a 4= .int .i64 i:=ev 4 au;have HK:=hid hK;clear hK ev hd;go_simp;exact HK.out _ _ aS hJ rfl (Ext.refl _ _)
     case o2=>
      rw [if_pos (bg rfl)];have e1:tg a 1= .pointer (some ⟨b1,0,none⟩):=ev 1 au;have g0:=((hJ.cell (p:=⟨b1,0,none⟩) (World.block_lt_of_cell? _ _ q1)).trans q1)
      have HK:=hid hK;clear hK ev hd;go_simp;exact HK.out _ _ aS hJ rfl (Ext.refl _ _)
     case o3=>
      rw [if_pos (bg rfl)];have e4:tg a 4= .int .i64 i:=ev 4 au;have HK:=hid hK;clear hK ev hd;go_simp;exact HK.out _ _ aS hJ rfl (Ext.refl _ _)
     case o4=>
      rw [if_pos (bg rfl)];have e7:tg a 7= .int .i64 sg:=(ev 7 au).trans (hd 2 _ xk rfl);have e8:tg a 8= .int .i64 i:=(ev 8 au).trans (hd 3 _ xk rfl);have HK:=hid hK;clear hK ev hd;go_simp;exact HK.out _ _ aS hJ rfl (Ext.refl _ _)
     case o5=>
      rw [if_pos (bg rfl)];have e2:tg a 2= .pointer (some ⟨b2,0,none⟩):=ev 2 au;have g0:=((hJ.cell (p:=⟨b2,0,none⟩) (World.block_lt_of_cell? _ _ q2)).trans q2)
      have HK:=hid hK;clear hK ev hd;go_simp;exact HK.out _ _ aS hJ rfl (Ext.refl _ _)
     case o6=>
      rw [if_pos (bg rfl)];have e9:tg a 9= .int .i64 ww:=(ev 9 au).trans (hd 4 _ xk rfl);have e10:tg a 10= .int .i64 at_:=(ev 10 au).trans (hd 5 _ xk rfl);have HK:=hid hK;have HJJ:=hid hJ;clear hK ev hd hJ;go_simp;refine ⟨trivial,rfl,(callsIn_wide.2 (AR.out _)).mono ?_⟩;rintro e w'' ⟨rfl,hb⟩;exact HK.out _ _ aS (HJJ.out.trans (hb.mono HJJ.out.size)) rfl (Ext.below hb)
    case fin=>
     intro u w3 Ei hG;have h5:u 5= .func (.yield l) #[] #[]:=hG 0 _ rfl;have h6:u 6= .int .i64 i:=hG 1 _ rfl;have h11:u 11= .agg #[.int .i64 lo,.int .i64 (lo+ww)]:=hG 6 _ rfl;have k1:w3.cell? ⟨b1,0,none⟩=some (.int .i64 sg):=(Ei.cell (p:=⟨b1,0,none⟩) (World.block_lt_of_cell? _ _ q1)).trans q1;have k2:w3.cell? ⟨b2,0,none⟩=some (.int .i64 at_):=(Ei.cell (p:=⟨b2,0,none⟩) (World.block_lt_of_cell? _ _ q2)).trans q2;obtain ⟨fn,tmps,assign,body,hy,hR⟩:=HY.out i w3 (by rw [XE.out];exact hlt) (HJ.out _ _ _ QG.out Ei);rw [hpa] at hy;clear hG hpa Ei q1 q2;simp only [aX,kR,dstsOf,List.take_succ_cons,List.take_zero,List.filterMap_cons,List.filterMap_nil,List.contains_cons,List.contains_nil,Nat.reduceBEq,Bool.or_false,Bool.false_or,Bool.or_true,Bool.true_or,if_true,if_false,Bool.false_eq_true,Nat.reduceAdd,Nat.zero_add,List.drop_succ_cons,List.drop_zero,h5,h6,h11];gi_wp2
     refine ⟨rfl,hR.mono ?_⟩;rintro e W3 (⟨rfl,hJ3,hk3⟩ | ⟨rfl,hJx3⟩)
     . have m1:W3.cell? ⟨b1,0,none⟩=some (.int .i64 sg):=hk3.cell (a:=⟨b1,0,none⟩) s1 k1;have m2:W3.cell? ⟨b2,0,none⟩=some (.int .i64 at_):=hk3.cell (a:=⟨b2,0,none⟩) s2 k2;have AY:=hid hJ3;clear hJ3 hk3 hy hR k1 k2;gi_wp2
       gi_roundg (gk-1)
       case measure=>have:=HI2.out;omega
       case rel=>exact ⟨i+1,by have:=HI2.out;omega,by go_num,AY,m1,m2⟩
     . have AY:=hid hJx3;clear hJx3 hy hR;gi_wp2
       exact bodyPost_end (results_none rfl _ _ _) rfl ⟨⟨_,rfl⟩,.inr ⟨i+1,by rw [XE.out];omega,AY.out⟩⟩
  . exfalso
    have him:i=N:=xo;subst him;exact HNO.out _ (by rw [XE.out];exact QG.out)
theorem MC (sg at_:Int) (w:World):
    Calls Tryz.prog 218 #[.int .i64 sg,.int .i64 at_] w fun e w'=>e= .returned (.func (.func 226) #[] #[.pointer (some ⟨w.heap.size,0,none⟩),.pointer (some ⟨w.heap.size+1,0,none⟩)])/\
      w'=(w.alloc (.cells #[.int .i64 sg] 3)).alloc (.cells #[.int .i64 at_] 3):=by
 go_enter Tryz.func218,Tryz.ntmps218
 go_wp2
 go_ret
 exact ⟨rfl,rfl⟩
structure Qx (a at_ H B:Nat) (w:World) (k:Nat) (W:World):Prop where
 le:k<=H
 own:∃v,W.cell? ⟨B,0,none⟩=some v/\W.ownsRow (B+5) 157 2 v k ((lC (mP a at_ k)).map (Value.int .i64))
 fz:W.frozen? ⟨B,0,none⟩=false
 hh:W.cell? ⟨B+2,0,none⟩=some (.int .i64 H)
 sz:B+5<=W.heap.size
 bel:Below B w W
theorem Qx.calm {a at_ H B M:Nat} {w:World} {k:Nat} {W W':World} (h:Qx a at_ H B w k W) (hc:Calm M W W') (hB:B<=M):Qx a at_ H B w k W':=by
 obtain ⟨h0,⟨v,h1,h2⟩,h3,h5,h6,h4⟩:=h;exact ⟨h0,⟨v,hc.cell h1,hc.owns h2⟩,hc.frozen h1 h3,hc.cell h5,Nat.le_trans h6 hc.size,hc.below hB h4⟩
structure Qw (a at_ H B:Nat) (w:World) (c:Code) (W:World):Prop where
 code:c= .exit 0
 own:∃v,W.cell? ⟨B,0,none⟩=some v/\W.ownsRow (B+5) 157 2 v (H+1) ((lC (mP a at_ (H+1))).map (Value.int .i64))
 fz:W.frozen? ⟨B,0,none⟩=false
 bel:Below B w W
theorem Qw.calm {a at_ H B M:Nat} {w:World} {c:Code} {W W':World} (h:Qw a at_ H B w c W) (hc:Calm M W W') (hB:B<=M):Qw a at_ H B w c W':=by
 obtain ⟨h0,⟨v,h1,h2⟩,h3,h4⟩:=h;exact ⟨h0,⟨v,hc.cell h1,hc.owns h2⟩,hc.frozen h1 h3,hc.below hB h4⟩
theorem one_row {W : World} {b : Nat} {x : Int} (h : W.cell? ⟨b, 0,none⟩=some (.int .i64 x)):aQ .i64 W (some ⟨b,0,none⟩) [x]:=by
 intro i hi;have:i=0:=by simpa using hi
 subst this
 exact ⟨b, 0, rfl, World.block_lt_of_cell? _ _ h, fun j hj => by have:j=0:=by simpa using hj
                                                                 subst this;exact h⟩
theorem Z8 (ai size:Int) (a H:Nat) (k:Lm ai size a H) (at_:Nat) (hat:(at_:Int)<size) (w:World):
    Calls Tryz.prog 182 #[.int .i64 ai,.int .i64 size,.int .i64 at_] w (Iy w (mP a at_ (H+1)) (.int .i64 0)):=by
 obtain ⟨n1,n2,n3,n4,n5,n6,n7,n8,n9⟩:=k.nums;have hsg:=k.ai;have ha6:=k.a6;have haH:a+H<=16:=by
  have h1:2^(a+H)<=65536:=by rw [Nat.pow_add];exact k.big
  rcases Nat.lt_or_ge 16 (a+H) with q|q
  . have h2:=Nat.pow_lt_pow_right (a:=2) xo q;generalize 2^(a+H)=P at *;omega
  . exact q
 have AK:=hid (fun w p ca (hw:aQ .i64 w p [(at_:Int)])=>EI ai size a H k p ca 1 [(at_:Int)] rfl xo (fun i hi=>by
  obtain rfl:i=0:=xo;exact ⟨by simp,by simpa using hat⟩) w hw)
 have IT:=hid (fun S b1 b2 s1 s2 w c1 c2=>D9 a at_ (H+1) xo xo S b1 b2 s1 s2 w c1 c2);have Ap:=hid (zG a at_ (H+1));have HPG:=hid (fun k (h:k<H+1)=>IX (a:=a) (at_:=at_) h);have HSU:=hid (fun k=>Me a at_ k);have HLW:=hid (pI a at_);rw [<-hsg] at IT;clear k n5 n6 n7 hsg;refine dM Tryz.func182 rfl ?_;simp only [Tryz.ntmps182,List.size_toArray,List.length_cons,List.length_nil,Nat.reduceAdd,Nat.reduceSub,Array.replicate_succ,Array.replicate_zero,List.push_toArray,List.append_toArray,List.nil_append,List.cons_append];go_wp2
 refine bZ 0 (fun _ _ _=>False) rfl (fun _ _ _ h=>h.elim) ?_;intro HQ hH nS;clear hH nS;go_wp2_with fail
 refine (AK.out _ (some ⟨w.heap.size+1,0,none⟩) 1 (one_row ?_)).mono ?_
 . (exact dL)
 rintro e w' ⟨rfl,rfl⟩;go_wp2
 refine wp_label ?_;go_wp2_with fail
 refine (MC ai at_ _).mono ?_;rintro e w2 ⟨rfl,rfl⟩;go_wp2
 refine L8 (xs:=IY a at_ (H+1)) (Kp:=EF (fun k=>k≠w.heap.size/\k<w.heap.size+5)) rfl (enters_of Tryz.func226 xk rfl)
   (IT.out (fun k=>k≠w.heap.size/\k<w.heap.size+5) (w.heap.size+3) (w.heap.size+4) xo xo _ ?c1 ?c2) br (fun h k=>fun i hi=>(k i hi).trans (h i hi)) ?kb ?ps
   (Qx a at_ H w.heap.size w) (Qw a at_ H w.heap.size w) ?hI ?hX ?h0 ?round ?no ?stop
 case c1=>(exact dL)
 case c2=>(exact dL)
 case kb=>
  intro W l o o' hl _ _ k hk;simp at hl;exact World.putObj_heap_other xo
 case ps=>
  intro x hx;simp only [IY,List.mem_map] at hx;obtain ⟨k,_,rfl⟩:=hx;rfl
 case hI=>
  intro k W W' h hc;exact h.calm hc (by simp;omega)
 case hX=>
  intro k W W' h hc;exact h.calm hc (by simp;omega)
 case no=>
  intro W h;rw [Ap.out] at h;have:=h.le;omega
 case h0=>
  exact ⟨Nat.zero_le _,⟨_,by (exact dL),World.ownsRow_nil _ _ _ _⟩,by (exact dL),by (exact dL),by first|(simp;done)|(simp;omega),by (exact aH)⟩
 case round=>
  intro q k W hq hk hi;rw [Ap.out] at hk;rw [HPG.out k hk];have hsu:=hid (HSU.out k);obtain ⟨hle,⟨v,hv,ho⟩,hfz,hhh,hsz,hbel⟩:=hi;have hlt1:(lC (mP a at_ k)).length=k*2:=by rw [gp,HLW.out]
  generalize ((dJ a k at_*2^(a+k):Nat):Int)=x at *;generalize x+((2^(a+k):Nat):Int)=y at *;have hzb:w.heap.size<W.heap.size:=World.block_lt_of_cell? _ _ hv;have afx:w.heap.size+2<W.heap.size:=World.block_lt_of_cell? _ _ hhh;obtain ⟨ao,co,rfl,-⟩:=aG ho;gi_wp2
  have hab:Below W.heap.size W (W.alloc (.cells #[.int .i64 x,.int .i64 y] 157)):=br.alloc (Nat.le_refl _) _;refine ⟨jC hab,fun i hi=>hab.block i xo,?_⟩;intro W2 hc;have hc0:W2.cell? ⟨W.heap.size,0,none⟩=some (.int .i64 x):=hc.cell iP;have hc1:W2.cell? ⟨W.heap.size,1,none⟩=some (.int .i64 y):=hc.cell iP;have hv2:W2.cell? ⟨w.heap.size,0,none⟩=some (.slice ao k co):=hc.cell ((hab.cell (p:=⟨w.heap.size,0,none⟩) hzb).trans hv);have hh2:W2.cell? ⟨w.heap.size+2,0,none⟩=some (.int .i64 H):=hc.cell ((hab.cell (p:=⟨w.heap.size+2,0,none⟩) afx).trans hhh);have Wi:W2.frozen? ⟨w.heap.size,0,none⟩=false:=hc.frozen ((hab.cell (p:=⟨w.heap.size,0,none⟩) hzb).trans hv) ((hab.frozen (p:=⟨w.heap.size,0,none⟩) hzb).trans hfz);have ho2:=hc.owns (ay ho hab);have qZ:Below w.heap.size w W2:=hc.below (by simp;omega) (aj hab hbel xo);have hz2:=qZ.size;have Um:w.heap.size+5<=W2.heap.size:=Nat.le_trans hsz (Nat.le_trans ax hc.size);have yA:=hid ho2;have HB2:=hid qZ;have hzw:w.heap.size<W2.heap.size:=World.block_lt_of_cell? _ _ hv2;have abA:w.heap.size+2<W2.heap.size:=World.block_lt_of_cell? _ _ hh2;clear ho hbel hab hc ho2 qZ hv hfz hhh
  gi_wp2_with (gi_at_builtin;refine wpListIn_append_own _ rfl (.tmp 27) (.tmp 29) 154 rfl (w.heap.size+5) 157 _ (.agg #[.int .i64 0,.int .i64 0]) 2 16 Tryz.underlying154 (info_parts xZ).choose_spec.1 (info_parts xZ).choose_spec.2.1 (info_parts xZ).choose_spec.2.2.1 (info_parts xZ).choose_spec.2.2.2 rfl au _ k _ rfl (yA.out.alloc (.cells #[.int .i64 x,.int .i64 y] 157)) ⟨W2.heap.size,0,none⟩ 1 1 [.int .i64 x,.int .i64 y] rfl rfl (oq _ [.int .i64 x,.int .i64 y] _ _ rfl _ rfl) (by simp [Value.oneCell']) (by unfold maxLen;omega) xo (by simp;omega) ?_;intro v' w3 ho3 hg3 _
               obtain ⟨a3,c3,rfl,-⟩:=aG ho3;have Dl:∀z,z<w.heap.size+5->some z≠(Value.slice ao k co).ownBlock:=fun z hz e=>(by have:=(yA.out.lt _ e.symm).1;omega)
               have Dt:=hg3.block w.heap.size (by simp;omega) (Dl _ xo);have hv3:w3.cell? ⟨w.heap.size,0,none⟩=some (.slice ao k co):=(World.cell?_of_block (a:=⟨w.heap.size,0,none⟩) Dt).trans ((((Below.refl _ W2).alloc (Nat.le_refl _) _).cell (p:=⟨w.heap.size,0,none⟩) hzw).trans hv2);have SG:w3.frozen? ⟨w.heap.size,0,none⟩=false:=(World.frozen?_of_block (a:=⟨w.heap.size,0,none⟩) Dt).trans ((((Below.refl _ W2).alloc (Nat.le_refl _) _).frozen (p:=⟨w.heap.size,0,none⟩) hzw).trans Wi);have hh3:w3.cell? ⟨w.heap.size+2,0,none⟩=some (.int .i64 H):=(World.cell?_of_block (a:=⟨w.heap.size+2,0,none⟩) (hg3.block (w.heap.size+2) (by simp;omega) (Dl _ xo))).trans ((((Below.refl _ W2).alloc (Nat.le_refl _) _).cell (p:=⟨w.heap.size+2,0,none⟩) abA).trans hh2);have Ua:=hid ho3;have Un:=hid hg3;have hkh:decide (k=H)=decide (k=H):=rfl;clear ho3 hg3 Dt Dl;by_cases hkH:k=H)
  all_goals
    have hB3:Below w.heap.size w w3:=(HB2.out.alloc xo (.cells #[.int .i64 x,.int .i64 y] 157)).grown Un.out (by simp;omega) (fun z hz=>by have:=(yA.out.lt _ hz).1;omega);have hK3:KeepsOthers W2 w3:=(jC (((Below.refl _ W2).alloc (Nat.le_refl _) _))).trans (KeepsOthers.of_grownBy Un.out (uH (yA.out.alloc _)))
  . refine ⟨hK3.trans (KeepsOthers.setCell _ _ _),⟨rfl,⟨_,World.cell?_setCell_same _ _ _ hv3,?_⟩,by rw [World.frozen?_setCell];exact SG,hB3.setCell (Nat.le_refl _) _⟩⟩;rw [<-hkH,hsu.out,nY,List.map_append];exact af Ua.out fun z hz=>Below.heap_setCell _ _ _ _ (by have:=(Ua.out.lt _ hz).1;show z≠w.heap.size;omega)
  . refine ⟨hK3.trans (KeepsOthers.setCell _ _ _),fun i hi=> ?_,⟨by omega,⟨_,World.cell?_setCell_same _ _ _ hv3,?_⟩,?_,?_,?_,hB3.setCell (Nat.le_refl _) _⟩⟩
    . rw [Below.heap_setCell _ _ _ _ (show i≠w.heap.size from hi.1),Un.out.block i (by simp;omega) (fun e=>by have:=(yA.out.lt _ e.symm).1;omega)];exact ((Below.refl _ W2).alloc (Nat.le_refl _) _).block i xo
    . rw [hsu.out,nY,List.map_append];exact af Ua.out fun z hz=>Below.heap_setCell _ _ _ _ (by have:=(Ua.out.lt _ hz).1;show z≠w.heap.size;omega)
    . rw [World.frozen?_setCell];exact SG
    . rw [World.cell?_setCell_other _ _ _ _ (by intro e;simp at e)];exact hh3
    . have:=hB3.size;have:=Un.out.size;simp at this ⊢;omega
 case stop=>
  intro D c W hD hX hK;obtain ⟨rfl,⟨v,hv,ho⟩,hfz,hbel⟩:=hX;obtain ⟨ao,co,rfl,-⟩:=aG ho;simp at hD;have HO:=hid ho;have HB:=hid hbel;clear ho hbel;go_wp2
  have hK2:(W.setCell ⟨w.heap.size,0,none⟩ (.slice ao (H+1) co)).heap[D]? =some (.deferred (some [])):=(Below.heap_setCell _ _ _ _ (by show D≠w.heap.size;omega)).trans hK;have hcalm:Calm (w.heap.size+1) (W.setCell ⟨w.heap.size,0,none⟩ (.slice ao (H+1) co)) ((W.setCell ⟨w.heap.size,0,none⟩ (.slice ao (H+1) co)).putObj D (.deferred none)):=Calm.putObj _ xo hK2 rfl;simp only [Exit.jump];refine jo hK2 (aF rfl rfl (bJ Tryz.underlying154 rfl (hcalm.cell (World.cell?_setCell_same _ _ _ hv)))) ⟨_,rfl,?_,hcalm.below xo (HB.out.setCell (Nat.le_refl _) _)⟩;rw [HLW.out];exact az (hcalm.owns (af HO.out fun z hz=>Below.heap_setCell _ _ _ _ (by have:=(HO.out.lt _ hz).1;show z≠w.heap.size;omega))) xo
structure aab (ws:List Int) (n t b0 b1 B:Nat) (w:World) (k:Nat) (W:World):Prop where
 le:uI ws n k<=t
 bx:W.cell? ⟨B,0,none⟩=some (.int .i64 ((t-uI ws n k:Nat):Int))
 fz:W.frozen? ⟨B,0,none⟩=false
 box0:W.cell? ⟨b0,0,none⟩=some (.int .i64 0)
 box1:W.cell? ⟨b1,0,none⟩=some (.int .i64 0)
 fz0:W.frozen? ⟨b0,0,none⟩=false
 fz1:W.frozen? ⟨b1,0,none⟩=false
 bel:Below B w W
theorem aab.calm {ws:List Int} {n t b0 b1 B M:Nat} {w:World} {k:Nat} {W W':World} (h:aab ws n t b0 b1 B w k W) (hc:Calm M W W') (hB:B<=M):aab ws n t b0 b1 B w k W':=
  ⟨h.le,hc.cell h.bx,hc.frozen h.bx h.fz,hc.cell h.box0,hc.cell h.box1,hc.frozen h.box0 h.fz0,hc.frozen h.box1 h.fz1,hc.below hB h.bel⟩
structure Z_ (ws:List Int) (n t b0 b1 B:Nat) (w:World) (c:Code) (W:World):Prop where
 code:c= .ret
 lt:t<(eQ ws 0 n).length
 hit:W.cell? ⟨b0,0,none⟩=some (.int .i64 ((eQ ws 0 n).getD t 0:Nat))
 box1:W.cell? ⟨b1,0,none⟩=some (.int .i64 0)
 bel:Below B w W
theorem Z_.calm {ws:List Int} {n t b0 b1 B M:Nat} {w:World} {c:Code} {W W':World} (h:Z_ ws n t b0 b1 B w c W) (hc:Calm M W W') (hB:B<=M):Z_ ws n t b0 b1 B w c W':=
  ⟨h.code,h.lt,hc.cell h.hit,hc.cell h.box1,hc.below hB h.bel⟩
def Ny (ws:List Int) (n t:Nat):Int:=if t<(eQ ws 0 n).length then ((eQ ws 0 n).getD t 0:Nat) else 0
def Nz (ws:List Int) (n t:Nat):Int:=if t<(eQ ws 0 n).length then 0 else 6
theorem Nu (ws:List Int) {n m:Nat} (h:m<(n+63)/64):(og ws 0 n).getD m #[]= #[.int .i64 ((64*m:Nat):Int),.int .u64 (cutV ws 0 n m)]:=by
 have:=tV ws (a:=0) (b:=n) (k:=m) xo;rwa [Nat.zero_div,Nat.zero_add] at this
theorem Ns (ws:List Int) (n:Nat):(og ws 0 n).length=(n+63)/64:=by
 rw [oC,Nat.zero_div,Nat.sub_zero]
theorem Xv (wa:Option Addr) (wc:Nat) (ws:List Int) (hu:fB ws) (n t:Nat) (hn:n<=65536) (ht:t<=9223372036854775807) (hl:ws.length<=9223372036854775807) (hmay:j_ ws n=true) (w:World) (hw:aQ .u64 w wa ws) (hT:TabAt w):
    Calls Tryz.prog 61 #[.slice wa ws.length wc,.int .i64 n,.int .i64 t] w (aC w (.tuple #[.int .i64 (Ny ws n t),.int .i64 (Nz ws n t)])):=by
 have AK:=hid (fun w hw=>(by have:=oL wa wc ws hu n hn hl w hw;rwa [if_pos hmay] at this:Calls Tryz.prog 110 #[.slice wa ws.length wc,.int .i64 n] w fun e w'=>e= .returned (.int .i64 0)/\w=w'));have hlen:n<=64*ws.length:=by
  simp only [j_,Bool.and_eq_true,decide_eq_true_eq] at hmay;omega
 have IT:=hid (fun S b1 b2 b3 s1 s2 s3 sw w hw c1 c2 c3=>uF wa wc ws hu 0 n (Nat.zero_le _) hn xo hl S b1 b2 b3 s1 s2 s3 sw w hw c1 c2 c3);have HW:=hid hw;have HT:=hid hT;have QE:=hid (fun x (h:wa=some x) (h0:0<ws.length)=>(show x.block<w.heap.size from by
  obtain ⟨bb,off,x',hx,-,-,hlt⟩:=hw.get h0;rw [hx] at h;cases h;exact hlt))
 obtain ⟨m,hm⟩:∃m,(n+63)/64=m:=⟨_,rfl⟩
 have HP:=hid (fun k (hk:k<m)=>Nu ws (n:=n) (m:=k) xo);have Ap:=hid ((Ns ws n).trans hm);have HV:=hid (fun k (hk:k<m)=>Hy hu (a:=0) (b:=n) (k:=k) xo);have HIT:=hid (fun k (hk:k<m) j hj=>Yz (ws:=ws) hu (n:=n) (m:=k) (k:=j) xo hj);have HSU:=hid (fun k (hk:k<m)=>RQ (ws:=ws) hu (n:=n) (m:=k) xo);have NON:=hid (Vx (ws:=ws) (n:=n) (m:=m) xo);have hmb:m<=1024:=xo;obtain ⟨M,hM⟩:∃M,ws.length=M:=⟨_,rfl⟩
 rw [hM] at hlen hl AK IT QE ⊢;clear hw hmay hM hu hm hT;refine dM Tryz.func61 rfl ?_;simp only [Tryz.ntmps61,List.size_toArray,List.length_cons,List.length_nil,Nat.reduceAdd,Nat.reduceSub,Array.replicate_succ,Array.replicate_zero,List.push_toArray,List.append_toArray,List.nil_append,List.cons_append];obtain ⟨V,hV⟩:∃V:Int,Ny ws n t=V:=⟨_,rfl⟩
 obtain ⟨E,hE⟩:∃E:Int,Nz ws n t=E:=⟨_,rfl⟩
 rw [hV,hE];have YES:=hid (fun (h:t<(eQ ws 0 n).length)=>(show V=((eQ ws 0 n).getD t 0:Nat)/\E=0 by rw [<-hV,<-hE,Ny,Nz,if_pos h,if_pos h];exact ⟨rfl,rfl⟩));have NO:=hid (fun (h:¬t<(eQ ws 0 n).length)=>(show V=0/\E=6 by rw [<-hV,<-hE,Ny,Nz,if_neg h,if_neg h];exact ⟨rfl,rfl⟩));clear hV hE;have g1:decide ((t:Int)<0)=false:=by simp
 go_wp2
 refine bZ 0 (fun _ _ _=>False) rfl (fun _ _ _ h=>h.elim) ?_;intro H hH nS;clear hH nS;go_wp2_with fail
 refine (AK.out _ (HW.out.below aH)).mono ?_;rintro e w' ⟨rfl,rfl⟩;go_wp2
 refine wp_label ?_;go_wp2_with fail
 refine (CS wa M wc 0 n _).mono ?_;rintro e w2 ⟨rfl,rfl⟩;go_wp2
 refine BG (xs:=og ws 0 n) (Kp:=EF (fun k=>k≠w.heap.size/\k≠w.heap.size+1/\k≠w.heap.size+2/\k<w.heap.size+6)) rfl (enters_of Tryz.func176 xk rfl)
   (IT.out (fun k=>k≠w.heap.size/\k≠w.heap.size+1/\k≠w.heap.size+2/\k<w.heap.size+6) (w.heap.size+1+1+1) (w.heap.size+1+1+2) (w.heap.size+1+1+3) xo xo xo ?sw _ ?hw ?c1 ?c2 ?c3) br (fun _ _ _=>rfl) (fun h k=>fun i hi=>(k i hi).trans (h i hi)) ?kb ?ps
   (aab ws n t (w.heap.size+1) (w.heap.size+1+1) w.heap.size w) (Z_ ws n t (w.heap.size+1) (w.heap.size+1+1) w.heap.size w) ?hI ?hX ?h0 ?round ?done ?stop
 case sw=>intro x hx h0;have:=QE.out x hx h0;omega
 case hw=>exact HW.out.below aH
 case c1=>(exact dL)
 case c2=>(exact dL)
 case c3=>(exact dL)
 case kb=>
  intro W l o o' hl _ _ k hk;simp at hl;exact World.putObj_heap_other xo
 case ps=>
  intro x hx;simp only [og,List.mem_map] at hx;obtain ⟨k,_,rfl⟩:=hx;rfl
 case hI=>
  intro k W W' h hc;exact h.calm hc (by simp;omega)
 case hX=>
  intro k W W' h hc;exact h.calm hc (by simp;omega)
 case h0=>
  exact ⟨by rw [ER];omega,by rw [ER,Nat.sub_zero];(exact dL),by (exact dL),by (exact dL),by (exact dL),by (exact dL),by (exact dL),by (exact aH)⟩
 case round=>
  intro l k W hl hk hi;rw [Ap.out] at hk;rw [HP.out k hk];have hv:=HV.out k hk;have HH:=hid (HIT.out k hk);have hsu:=HSU.out k hk;have h2:=GH (cutV ws 0 n k);have O1:=hid (fun W=>Qz (cutV ws 0 n k) hv.1 hv.2 W);have TZ:=hid (fun j (hj:j<wC (cutV ws 0 n k))=>ZB hv.1 hv.2 hj);generalize cutV ws 0 n k=x at *;generalize wC x=px at *;gi_wp2_with fail
  refine ⟨rfl,?_⟩;intro W2 hi2;have hle:=hi2.le;have hbx:=hi2.bx;have hb0:=hi2.box0;have hb1:=hi2.box1;have hfz:=hi2.fz;have hf0:=hi2.fz0;have hf1:=hi2.fz1;have ru:=hid hi2.bel;obtain ⟨r,hr⟩:∃r,t-uI ws n k=r:=⟨_,rfl⟩
  rw [hr] at hbx;have aey:=hid hsu;have hrt:uI ws n k+r=t:=xo;have HRT:=hid hrt;have hrb:r<=9223372036854775807:=xo;clear hi hi2 hsu hr hrt hle;gi_wp2_with fail
  refine ⟨trivial,rfl,(callsIn_wide.2 (O1.out _)).mono ?_⟩;rintro e w' ⟨rfl,rfl⟩;by_cases hlt:r<px
  . have d1:decide ((px:Int)<=(r:Int))=false:=by simp;omega
    gi_wp2
    gi_loopg [10,34] r (fun g xv iv wr=>∃i:Nat,i+g=r/\xv= .int .u64 (ut x i)/\iv= .int .i64 i/\wr=W2)
    case atStart=>exact ⟨0,by omega,by rw [Tm],rfl,rfl⟩
    case round=>
     obtain ⟨i,hir,rfl,rfl,rfl⟩:=hrel;by_cases hil:i<r
     . obtain ⟨q0,⟨q1,q2⟩,-⟩:=TZ.out i xo;have hcl:=FK x i;obtain ⟨cx,hcx⟩:∃c,ut x i=c:=⟨_,rfl⟩
       rw [hcx] at hcl q0 q1 q2 ⊢;have hsub:IntKind.u64.wrap (cx-1)=cx-1:=IntWalk.u64_in _ xo;have HCL:=hid hcl;clear hcl hcx;gi_wp2
       gi_roundg (gk-1)
       case measure=>omega
       case rel=>exact ⟨i+1,by omega,by rw [HCL.out];rfl,by go_num,rfl⟩
     . have hie:i=r:=xo;subst hie;obtain ⟨q0,⟨q1,q2⟩,q3⟩:=TZ.out i hlt;obtain ⟨z1,z2⟩:=HH.out i hlt;have TT:=hid (aat _ q1 q2 q0 wr (HT.out.below ru.out));have t3:=(A7 q1 q2 q0).1;rw [<-q3,HRT.out] at z2;rw [HRT.out] at z1;generalize ut x i=cx at *;generalize zL cx=tz at *;have HE:Hid (((64*k:Nat):Int)+tz=((eQ ws 0 n).getD t 0:Nat)):=hid (by rw [<-z2];push_cast;rfl);have HZ:=hid z1;clear q3 z1 z2 q0 q1 q2 O1 TZ HH;gi_wp2_with fail
       refine ⟨trivial,rfl,(callsIn_wide.2 TT.out).mono ?_⟩;rintro e w' ⟨rfl,rfl⟩;gi_wp2
       refine ⟨(KeepsOthers.setCell wr ⟨w.heap.size+1,0,none⟩ _).trans (KeepsOthers.setCell _ ⟨w.heap.size+1+1,0,none⟩ _),⟨rfl,HZ.out,?_,?_,?_⟩⟩
       . rw [<-HE.out,World.cell?_setCell_other _ _ _ _ (by intro e;simp at e)];exact World.cell?_setCell_same _ _ _ hb0
       . exact World.cell?_setCell_same _ _ _ (by rw [World.cell?_setCell_other _ _ _ _ (by intro e;simp at e)];exact hb1)
       . exact (ru.out.setCell dG _).setCell dG _
  . have d1:decide ((px:Int)<=(r:Int))=true:=by simp;omega
    have hwr:IntKind.i64.wrap ((r:Int)-(px:Int))=((r-px:Nat):Int):=by rw [show (r:Int)-(px:Int)=((r-px:Nat):Int) by omega];exact IntWalk.i64_in _ xo
    gi_wp2
    have e:t-uI ws n (k+1)=r-px:=by have:=aey.out;have:=HRT.out;omega
    refine ⟨KeepsOthers.setCell W2 ⟨w.heap.size,0,none⟩ _,fun i hi=>Below.heap_setCell W2 ⟨w.heap.size,0,none⟩ _ _ hi.1,⟨?_,?_,?_,?_,?_,?_,?_,?_⟩⟩
    . have:=aey.out;have:=HRT.out;omega
    . rw [e];exact World.cell?_setCell_same _ _ _ hbx
    . rw [World.frozen?_setCell];exact hfz
    . rw [World.cell?_setCell_other _ _ _ _ (by intro e;simp at e)];exact hb0
    . rw [World.cell?_setCell_other _ _ _ _ (by intro e;simp at e)];exact hb1
    . rw [World.frozen?_setCell];exact hf0
    . rw [World.frozen?_setCell];exact hf1
    . exact ru.out.setCell (Nat.le_refl _) _
 case done=>
  intro D W hD hi hK;have hb0:=hi.box0;have hb1:=hi.box1;have hf0:=hi.fz0;have hf1:=hi.fz1;have hle:=hi.le;have hbl:=hi.bel;rw [Ap.out,NON.out] at hle;obtain ⟨rfl,rfl⟩:=NO.out xo;simp at hD;have ru:=hid hbl;clear hi hle hbl YES NO NON HIT HV HP;go_wp2
  have hK2:((W.setCell ⟨w.heap.size+1,0,none⟩ (.int .i64 0)).setCell ⟨w.heap.size+1+1,0,none⟩ (.int .i64 6)).heap[D]? =some (.deferred (some [])):=((Below.heap_setCell _ _ _ _ (by show D≠w.heap.size+1+1;omega)).trans (Below.heap_setCell _ _ _ _ (by show D≠w.heap.size+1;omega))).trans hK;have hcalm:Calm (w.heap.size+3) ((W.setCell ⟨w.heap.size+1,0,none⟩ (.int .i64 0)).setCell ⟨w.heap.size+1+1,0,none⟩ (.int .i64 6)) (((W.setCell ⟨w.heap.size+1,0,none⟩ (.int .i64 0)).setCell ⟨w.heap.size+1+1,0,none⟩ (.int .i64 6)).putObj D (.deferred none)):=Calm.putObj _ xo hK2 rfl;have c0:((W.setCell ⟨w.heap.size+1,0,none⟩ (.int .i64 0)).setCell ⟨w.heap.size+1+1,0,none⟩ (.int .i64 6)).cell? ⟨w.heap.size+1,0,none⟩=some (.int .i64 0):=by
   rw [World.cell?_setCell_other _ _ _ _ (by intro e;simp at e)];exact World.cell?_setCell_same _ _ _ hb0
  have c1:((W.setCell ⟨w.heap.size+1,0,none⟩ (.int .i64 0)).setCell ⟨w.heap.size+1+1,0,none⟩ (.int .i64 6)).cell? ⟨w.heap.size+1+1,0,none⟩=some (.int .i64 6):=World.cell?_setCell_same _ _ _ (by rw [World.cell?_setCell_other _ _ _ _ (by intro e;simp at e)];exact hb1);exact jo hK2 (kP rfl rfl rfl (bJ Tryz.underlying3 rfl (hcalm.cell c0)) (bJ Tryz.underlying38 rfl (hcalm.cell c1))) ⟨rfl,hcalm.below xo ((ru.out.setCell dG _).setCell dG _)⟩
 case stop=>
  intro D c W hD hX hK;obtain ⟨rfl,hlt,hc0,hc1,hbel⟩:=hX;obtain ⟨rfl,rfl⟩:=YES.out hlt;simp at hD;have hcalm:Calm (w.heap.size+3) W (W.putObj D (.deferred none)):=Calm.putObj _ xo hK rfl;clear YES NO NON HIT HV HP;go_wp2
  exact jo hK (kP rfl rfl rfl (bJ Tryz.underlying3 rfl (hcalm.cell hc0)) (bJ Tryz.underlying38 rfl (hcalm.cell hc1))) ⟨rfl,hcalm.below xo hbel⟩
end
section
open Go.RowKit Go.Shelf Go.Sort
theorem YX (ai:Int) (wa ka va ca:Option Addr) (wc kc vc cc lw n lv lc:Nat) (laid:Int) (k at_:Nat) (e:Int) (hk:k<=65536) (w:World) (NT:Hid (∀W,Below w.heap.size w W->Calls Tryz.prog 61 #[.slice wa lw wc,.int .i64 n,.int .i64 ((k-1:Nat):Int)] W (aC W (.tuple #[.int .i64 at_,.int .i64 e])))):
    Calls Tryz.prog 117 #[.agg #[.int .i64 ai,.slice wa lw wc,.slice ka n kc,.slice va lv vc,.slice ca lc cc,.int .u64 laid],.int .i64 k] w (aC w (.int .i64 at_)):=by
 rcases Nat.eq_zero_or_pos k with rfl|hk0
 . rw [show ((0-1:Nat):Int)=0 from rfl] at NT;clear hk;go_enter Tryz.func117,Tryz.ntmps117
   go_wp2_with fail
   refine (NT.out _ aH).mono ?_;rintro e w1 ⟨rfl,hb1⟩;have aA:=hb1.size;try simp only [World.size_alloc,World.size_setCell] at aA
   have hh:=jl hb1 (jA (b:=w.heap.size) ax);obtain ⟨aO,aN,aK,aU,aT,aV⟩:=hh;have bF:=aP hb1 (bV (b:=w.heap.size) ax);have hB1:Below w.heap.size w w1:=aH;go_wp2
   go_ret
   exact ⟨rfl,hB1⟩
 . have hw1:IntKind.i64.wrap ((k:Int)-1)=((k-1:Nat):Int):=by rw [show (k:Int)-1=((k-1:Nat):Int) by omega];exact IntWalk.i64_in _ xo
   have hlt:¬(((k-1:Nat):Int)<0):=xo;have hld:decide (((k-1:Nat):Int)<0)=false:=by simp
   have hgt:decide ((0:Int)<((k-1:Nat):Int))=decide ((0:Int)<((k-1:Nat):Int)):=rfl;clear hgt;go_enter Tryz.func117,Tryz.ntmps117
   go_wp2_with fail
   refine (NT.out _ aH).mono ?_;rintro e w1 ⟨rfl,hb1⟩;have aA:=hb1.size;try simp only [World.size_alloc,World.size_setCell] at aA
   have hh:=jl hb1 (jA (b:=w.heap.size) ax);obtain ⟨aO,aN,aK,aU,aT,aV⟩:=hh;have bF:=aP hb1 (bV (b:=w.heap.size) ax);have hB1:Below w.heap.size w w1:=aH;go_wp2
   go_ret
   exact ⟨rfl,hB1⟩
theorem U5 (c:bY) (size:Int) (h:Nat) (n:Int) (f:Bool) (x:Int) (b1 b2:Nat) (hn:0<=n/\n<=65536) (w:World)
    (lN:w.cell? ⟨b1,0,none⟩=some (.int .u8 c.tag))
    (lM:w.cell? ⟨b1,1,none⟩=some (.int .i64 c.most))
    (lL:w.cell? ⟨b1,2,none⟩=some (.int .i64 c.ai))
    (lK:w.cell? ⟨b1,3,none⟩=some (.int .i64 c.least))
    (lJ:w.cell? ⟨b1,4,none⟩=some (.int .i64 c.den))
    (lI:w.cell? ⟨b1,5,none⟩=some (.int .i64 c.ll))
    (lH:w.cell? ⟨b1,6,none⟩=some (.int .i64 c.rl))
    (lG:w.cell? ⟨b1,7,none⟩=some (.int .i64 c.rh))
    (lF:w.cell? ⟨b1,8,none⟩=some (.int .i64 c.lh))
    (eH:w.cell? ⟨b2,0,none⟩=some (.int .i64 size))
    (FU:Hid (∀W,Below w.heap.size w W->Calls Tryz.prog 98 #[.agg #[.int .u8 c.tag,.int .i64 c.most,.int .i64 c.ai,.int .i64 c.least,.int .i64 c.den,.int .i64 c.ll,.int .i64 c.rl,.int .i64 c.rh,.int .i64 c.lh],.int .i64 size,.int .i64 h,.int .i64 (n+1)] W (aC W (.tuple #[.bool f,.int .i64 x])))):
    Calls Tryz.prog 115 #[.int .i64 h,.int .i64 n,.pointer (some ⟨b1,0,none⟩),.pointer (some ⟨b2,0,none⟩)] w (aC w (.bool !f)):=by
 have hw1:IntKind.i64.wrap (n+1)=n+1:=IntWalk.i64_in _ xo;go_enter Tryz.func115,Tryz.ntmps115
 go_wp2_with fail
 refine (FU.out _ aH).mono ?_;rintro e w1 ⟨rfl,hb1⟩;go_wp2
 go_ret
 exact ⟨rfl,hb1⟩
def QD (w:World) (a at_ H:Nat) (t:Int) (e:Ending) (w':World):Prop:=
  ∃v,e= .returned (.tuple #[.int .i64 t,v])/\w'.ownsRow w.heap.size 157 2 v (H+1) ((lC (mP a at_ (H+1))).map (Value.int .i64))/\Below w.heap.size w w'
theorem N7 (ai:Int) (wa ka va ca:Option Addr) (wc kc vc cc lw n lv lc:Nat) (laid:Int) (a H at_:Nat) (hH:H<=14) (p:Nat->Bool) (m:Nat->Int) (gf:FuncId) (lb:Array Value) (eg:∀args w,(callFunc gf args).run Tryz.prog w= .ok (.enter gf args) w) (w:World)
    (PA:Hid (∀W,Below w.heap.size w W->Calls Tryz.prog 182 #[.int .i64 ai,.int .i64 n,.int .i64 at_] W (Iy W (mP a at_ (H+1)) (.int .i64 0))))
    (AM:Hid (∀h,h<=H->∀W,Below w.heap.size w W->Calls Tryz.prog 96 #[.agg #[.int .i64 ai,.slice wa lw wc,.slice ka n kc,.slice va lv vc,.slice ca lc cc,.int .u64 laid],.int .i64 ((dJ a h at_*2^(a+h):Nat):Int),.int .i64 (((dJ a h at_*2^(a+h):Nat):Int)+((2^(a+h):Nat):Int))] W (aC W (.int .i64 (m h)))))
    (IS:Hid (∀h:Nat,h<=H->∀W,Below w.heap.size w W->Calls Tryz.prog gf (#[.int .i64 h,.int .i64 (m h)]++lb) W (aC W (.bool (p h))))):
    Calls Tryz.prog 116 #[.agg #[.int .i64 ai,.slice wa lw wc,.slice ka n kc,.slice va lv vc,.slice ca lc cc,.int .u64 laid],.int .i64 at_,.func (.func gf) #[] lb] w (QD w a at_ H (pJ p (H+1))):=by
 have HWL:=hid (pI a at_ (H+1));have HWG:=hid (fun i (h:i<H+1)=>EH (a:=a) (at_:=at_) h);go_enter Tryz.func116,Tryz.ntmps116
 go_wp2
 refine bZ 0 (fun _ _ _=>False) rfl (fun _ _ _ h=>h.elim) ?_;intro HQ hHQ nS;clear hHQ nS;go_wp2_with fail
 refine (PA.out _ aH).mono ?_;rintro e w1 ⟨v1,rfl,ho1,hb1⟩;have aA:=hb1.size;try simp only [World.size_alloc,World.size_setCell] at aA
 have hh:=jl hb1 (jA (b:=w.heap.size) ax);obtain ⟨aO,aN,aK,aU,aT,aV⟩:=hh;have bF:=aP hb1 (bV (b:=w.heap.size) ax);have hB1:Below w.heap.size w w1:=aH;have HB1:=hid hB1;have hz1:=hB1.size;obtain ⟨ra,rc,rfl,hi1,-,-,hrc,-⟩:=ak ho1;rw [HWL.out] at hrc ho1 ⊢;have hw1:IntKind.i64.wrap (((H+1:Nat):Int)-1)=((H+1:Nat):Int)-1:=IntWalk.i64_in _ xo;have HR1:=hid hi1;have HO1:=hid ho1;clear hb1 hB1 hi1 ho1;go_wp2
 refine wp_label ?_;go_wp2
 go_loopg [10] (H+1) (fun gk iv wr=>gk<=H+1/\iv= .int .i64 ((gk:Int)-1)/\Hid (pJ p (H+1)=pJ p gk)/\Hid (Below w1.heap.size w1 wr))
 case atStart=>exact ⟨Nat.le_refl _,by congr 1;omega,hid rfl,hid br⟩
 case round=>
  obtain ⟨hg,rfl,HT,HB⟩:=hrel;rcases Nat.eq_zero_or_pos gk with rfl|hg0
  . have d1:decide ((0:Int)<=((0:Nat):Int)-1)=false:=by decide
    have HB2:=hid (aj HB.out HB1.out hz1);have yA:=hid (az (base':=w.heap.size) (ay HO1.out HB.out) (by first|omega|(simp;done)));have HV:=hid (HT.out.trans (QT p));go_wp2
    simp only [Exit.jump];go_ret2
    exact ⟨_,by rw [HV.out];rfl,yA.out,HB2.out⟩
  . obtain ⟨h,rfl⟩:∃h,gk=h+1:=⟨gk-1,by omega⟩
    have e1:(((h+1:Nat):Int)-1)=(h:Int):=xo;rw [e1];have hbr:=HB.out;have EW:=hbr.size;simp (disch:=omega) only [jK hbr] at aO aN aK aU aT aV;replace bF:=aP hbr bF;have HB2:=hid (aj hbr HB1.out hz1);have yA:=hid (az (base':=w.heap.size) (ay HO1.out hbr) (by first|omega|(simp;done)));have hpr:=Gx (l:=mP a at_ (H+1)) (i:=h) (by rw [HWL.out];omega);rw [HWG.out h xo] at hpr;obtain ⟨pb,po,x,y,rfl,hx,hy,hc0,hc1,-⟩:=(HR1.out.below hbr).ab3 (i:=h) (by rw [gp,HWL.out];omega);have ex:((dJ a h at_*2^(a+h):Nat):Int)=x:=by rw [<-hx.out,hpr.1]
    have ey:((dJ a h at_*2^(a+h):Nat):Int)+((2^(a+h):Nat):Int)=y:=by rw [<-hy.out,hpr.2]
    have hhH:h<=H:=xo;have AM2:=hid (AM.out h hhH);have IS2:=hid (IS.out h hhH);have TY:=hid (fun (q:p h=true)=>IZ q);have TN:=hid (fun (q:p h=false)=>OY q);have hsub:IntKind.i64.wrap ((h:Int)-1)=(h:Int)-1:=IntWalk.i64_in _ xo;rw [ey,ex] at AM2;generalize m h=mh at *;generalize p h=ph at *;clear hpr hx hy ex ey e1 hbr;go_upto_region 5 with (fail)
    have K0:=hid (fun d os=>kr wr d os (AM2.out _ (aj (below_regrown wr d os) HB2.out HB2.out.size)));have K1:=hid (fun d os=>kr wr d os (IS2.out _ (aj (below_regrown wr d os) HB2.out HB2.out.size)));have q0:=cg aO;have q1:=cg aN;have q2:=cg aK;have q3:=cg aU;have q4:=cg aT;have q5:=cg aV;have q6:=cg hc0;have q7:=cg hc1;refine wp_region_quiet_below xk xk ?_;repeat (go_big_quiet_step (first|with_reducible exact K0.out _ _|with_reducible exact K1.out _ _|exact K0.out _ _|exact K1.out _ _))
    refine wpQuiet_nil ?_;intro _ hw';obtain ⟨⟨dq,osq⟩,hw''⟩:=hw';subst hw'';have hbq:=below_regrown wr dq osq;clear q0 q1 q2 q3 q4 q5 q6 q7 K0 K1;generalize Sort.grow (redrawn wr dq) osq=wx at *;have HB4:=xv hbq HB2;have HC4:=xv hbq HB;have HO4:=hid (ay yA.out hbq);clear hbq;cases ph with
    | true=>
     have HV:=hid (HT.out.trans (TY.out rfl));clear TY TN;go_wp2
     simp only [Exit.jump];go_ret2
     exact ⟨_,by rw [HV.out];rfl,HO4.out,HB4.out⟩
    | false=>
     have HV:=hid (HT.out.trans (TN.out rfl));clear TY TN;go_wp2
     go_roundg h
     case measure=>omega
     case rel=>exact ⟨by omega,by first|rfl|rw [hsub]|go_num,HV,HC4⟩
end
section
open Go.RowKit
section
variable {P:Program}
theorem oZ (w:World) (base:Nat) (t ty e:TypeId) (z:Value) (size bytes:Nat) (ht:P.underlying t=some (.slice e))
    (hinfo:(P.info? e).map (fun i=>(i.zero,i.size,i.bytes))=some (some z,size,bytes)) (hzs:z.cells.size=size) (hsz:0<size)
    (bo:Option Addr) (n:Nat) (xs:List Value) (hlo:xs.length=n*size) (hb0:bo=none->n=0) (holds:∀b,bo=some b->∀j u,xs[j]? =some u->w.cell? (b.add j)=some u)
    (ad:Addr) (m c:Nat) (news:List Value) (hl:news.length=m*size) (hnews:∀j u,news[j]? =some u->w.cell? (ad.add j)=some u) (h1:∀u ∈ news,u.oneCell'=true)
    (hm:0<m) (h63:n+m<=4294967296) (hbytes:bytes<=1024) (hbase:base<=w.heap.size):
    ∃ v' w',(Builtin.append_ #[t,t] ty #[.slice bo n n,.slice (some ad) m c]).run P w= .ok v' w'/\w'.ownsRow base e size v' (n+m) (xs++news)/\w.grownBy w' none/\
      (∀k,v'.ownBlock=some k->w.heap.size<=k):=by
 have hm1:n+m<=maxLen:=by unfold maxLen;omega
 have hm2:(n+m)*bytes<=140737488355328:=Nat.le_trans (Nat.mul_le_mul h63 hbytes) au;cases bo with
 | none=>
  obtain rfl:=hb0 rfl;have hx:xs=[]:=List.eq_nil_of_length_eq_zero (by simpa using hlo);subst hx;obtain ⟨v',w',hr,ho,hg,hv⟩:=pK (P:=P) w base t ty e z size bytes ht hinfo hzs hsz (.slice none 0 0) 0 [] (World.ownsRow_nil w _ e size) (some ad) m c news hl aS (fun a h=>by cases h;exact hnews) h1 h63 hbytes hbase;refine ⟨v',w',hr,ho,hg,?_⟩;intro k hk;rcases hv with hv|hv
  . rw [hk] at hv;cases hv
  . exact hv k hk
 | some b=>
  obtain ⟨i,hi,hz,hs,hb⟩:=info_parts hinfo;have hr:=run_append_grow (P:=P) w t ty e i z ht hi hz b n n xs (by rw [hs];exact hlo) (holds b rfl) ad m c news (by rw [hs];exact hl) hnews xo xo (growslice_fits xo (by rw [hb];exact hm2));have hge:=grownCap_ge w (n+m) n e;have hcm:grownCap w (n+m) n e<=maxLen:=grownCap_le_maxLen w (n+m) n e hm1;have hlen:(xs++news).length=(n+m)*size:=by rw [List.length_append,hlo,hl,Nat.add_mul]
  refine ⟨_,_,hr,⟨hlen,.inr ⟨w.heap.size,_,_,rfl,hbase,heap_alloc_new w.drew _,hge,hcm,?_,?_⟩⟩,⟨rfl,rfl,rfl,by simp,fun k hk _=>heap_alloc_old w.drew _ hk⟩,fun k hk=>by cases hk;exact Nat.le_refl _⟩
  . simp only [Array.size_append,List.size_toArray,size_zeroCells,hzs,hlo,hl,<-Nat.add_mul];congr 1
    omega
  . simp only [Array.toList_append,List.append_assoc];rw [<-List.append_assoc,<-hlen];exact List.take_left
end
section
variable {P:Program} {ops:Array Oper} {Q:Exit->Act->World->Prop}
def DX (P:Program) (ops:Array Oper) (Q:Exit->Act->World->Prop) (D:List Nat) (t0:Array Value) (n:Nat) (ds:List Deferred) (J:World->Prop) (Ext:Nat->World->World->Prop) (G:Nat->(Nat->Value)->World->Prop):Nat->List Oper->Prop
  | _,[]=>True
  | k,o::rest=>Qy P ops Q D t0 n ds J (Ext k) G k o/\DX P ops Q D t0 n ds J Ext G (k+1) rest
theorem DX.at {D:List Nat} {t0:Array Value} {n:Nat} {ds:List Deferred} {J:World->Prop} {Ext:Nat->World->World->Prop} {G:Nat->(Nat->Value)->World->Prop}:∀ {l:List Oper} {k:Nat},DX P ops Q D t0 n ds J Ext G k l->∀ {i:Nat} {o:Oper},l[i]? =some o->Qy P ops Q D t0 n ds J (Ext (k+i)) G (k+i) o
  | [],_,_,i,o,ho=>by simp at ho
  | x::rest,k,h,0,o,ho=>by simp at ho;subst ho;exact h.1
  | x::rest,k,h,i+1,o,ho=>by
   have:=DX.at h.2 (i:=i) (o:=o) (by simpa using ho);rwa [Nat.add_assoc,Nat.add_comm 1 i] at this
theorem rE {id:Nat} {l:List Oper} {t0:Array Value} {ds:List Deferred} {w0:World} {N:Nat} (n:Nat) (hm:P.follows .mixedOrders=true) (hn:t0.size=N) (hB:vN (l.take n) N=true) (hT:EL l n=true) (hle:n<=l.length)
    (J:World->Prop) (Ext:Nat->World->World->Prop) (G:Nat->(Nat->Value)->World->Prop) (hst:∀i k x w w',k≠i->Ext i w w'->G k x w->G k x w') (abT:∀(k:Nat) (u u':Nat->Value) (w:World),(∀(j:Nat) (p o:Oper),l[j]? =some p->l[k]? =some o->(j=k\/(o.after.any fun e=>Region.binds .any e&&e.on==j)=true)->valOf u' p=valOf u p)->G k u w->G k u' w) (hJ:J w0.drew)
    (hop:DX P l.toArray Q (dstsOf (l.take n)) t0 N ds J Ext G 0 (l.take n))
    (hdone:∀(u:Nat->Value) (w:World),J w->(∀(k:Nat) (o:Oper),(l.take n)[k]? =some o->G k u w)->wpList P l.toArray Q (l.drop n) {tmps:=aX (dstsOf (l.take n)) u t0,defers:=ds} w):
    (Code.region id l.toArray true).wp P Q {tmps:=t0,defers:=ds} w0:=by
 subst hn;simp only [vN,Bool.and_eq_true,List.all_eq_true,decide_eq_true_eq] at hB;obtain ⟨⟨⟨hnd,hlt⟩,hgd⟩,hac⟩:=hB;simp only [EL,List.all_eq_true,List.mem_range,Bool.or_eq_true,decide_eq_true_eq] at hT;have htk:∀ {k:Nat} {o:Oper},(l.take n)[k]? =some o↔k<n/\l[k]? =some o:=by
  intro k o;rw [List.getElem?_take];by_cases h:k<n
  . rw [if_pos h];exact ⟨fun h1=>⟨h,h1⟩,fun h1=>h1.2⟩
  . rw [if_neg h];exact ⟨fun h1=>(by cases h1),fun h1=>absurd h1.1 h⟩
 refine wp_region_any hm (wU (ops:=l.toArray)
   (fun L a w=>((∀i,n<=i->L.getD i false=false)/\∃u:Nat->Value,a= {tmps:=aX (dstsOf (l.take n)) u t0,defers:=ds}/\J w/\∀(k:Nat) (o:Oper),(l.take n)[k]? =some o->L.getD k false=true->G k u w) \/
     (∃m,n<=m/\m<=l.length/\(∀i,i<m->L.getD i false=true)/\(∀i,m<=i->L.getD i false=false)/\wpList P l.toArray Q (l.drop m) a w))
   ?_ ?_ ?_ _ _ _ _ ax (su _ _) (fun j p hp hj=>by simp [Array.getD] at hj) (.inl ⟨fun i _=>by rw [List.size_toArray];simp [Array.getD],fun t=>t0.getD t undef,by rw [kS],hJ,fun k o _ h=> ?_⟩))
 . intro i o ho e he hb;have hi:i<l.length:=(Array.getElem?_eq_some_iff.1 ho).1;rw [List.getElem?_toArray] at ho;by_cases hin:i<n
   . have h1:(l.take n)[i]? =some o:=htk.2 ⟨hin,ho⟩;have:=hac i (List.mem_range.2 (List.getElem?_eq_some_iff.1 h1).1);rw [h1] at this;have h2:=Array.all_eq_true_iff_forall_mem.1 this e he;rw [hb] at h2;simpa using h2
   . have h1:=hT i hi;rcases h1 with h1|h1
     . omega
     . rw [ho] at h1;simp only [Bool.and_eq_true] at h1;have h2:=Array.all_eq_true_iff_forall_mem.1 h1.2 e he;rw [hb] at h2;simpa using h2
 . rintro L a w i o hs ho hi hall hcl hI;rw [List.getElem?_toArray] at ho;have hil:i<l.length:=(List.getElem?_eq_some_iff.1 ho).1;have hilt:i<L.size:=by rw [hs];simpa using hil
   have ahead:n<=i->∀j,j<i->L.getD j false=true:=by
    intro hin j hj;have h1:=hT i hil;rcases h1 with h1|h1
    . omega
    . simp only [Bool.and_eq_true,decide_eq_true_eq] at h1;have hbit:((oD l []).getD i 0).testBit j=true:=by
       have h2:=congrArg (fun m=>Nat.testBit m j) h1.1;simp only [Nat.testBit_mod_two_pow,Nat.testBit_two_pow_sub_one,decide_eq_true hj,Bool.true_and] at h2;exact h2
      exact qX hcl l [] 0 rfl (fun j=>by rw [Nat.zero_add]) (fun i hi=>by omega) i o ho hall j hbit
   have later:∀(m:Nat),n<=m->m=i->(∀j,m<=j->L.getD j false=false)->(∀j,j<m->L.getD j false=true)->wpList P l.toArray Q (l.drop m) a w->
       wpOp P l.toArray Q i (fun a' w'=>((∀k,n<=k->(L.setIfInBounds i true).getD k false=false)/\∃u:Nat->Value,a'= {tmps:=aX (dstsOf (l.take n)) u t0,defers:=ds}/\J w'/\∀(k:Nat) (o:Oper),(l.take n)[k]? =some o->(L.setIfInBounds i true).getD k false=true->G k u w') \/
         (∃m,n<=m/\m<=l.length/\(∀k,k<m->(L.setIfInBounds i true).getD k false=true)/\(∀k,m<=k->(L.setIfInBounds i true).getD k false=false)/\wpList P l.toArray Q (l.drop m) a' w')) a w:=by
    rintro m hnm rfl hno hyes hw;refine wpOp_mono (fun a' w' h=> .inr ⟨m+1,by omega,by omega,fun k hk=> ?_,fun k hk=> ?_,h⟩) (pG ho hw)
    . by_cases e:k=m
      . subst e;exact qm hilt
      . rw [dF e];exact hyes k xo
    . rw [dF xo];exact hno k xo
   rcases hI with ⟨hno,u,rfl,hJw,hG⟩ | ⟨m,hnm,hml,hyes,hno,hw⟩
   . by_cases hin:i<n
     . have nz:(l.take n)[i]? =some o:=htk.2 ⟨hin,ho⟩;have hok:=hop.at nz;rw [Nat.zero_add] at hok;have hg:o.guard=none:=by
        have:=hgd o (List.mem_of_getElem? nz);cases hx:o.guard with
        | none=>rfl
        | some x=>rw [hx] at this;cases this
       unfold wpOp;simp only [List.getElem?_toArray,ho];rw [if_pos (by simp [Region.wanted,hg])];left;refine hok u _ w (fun t ht=>iU ht) hJw (fun j p hj hp=> ?_) _ (fun v w' hv hJ' hG' hE=> .inl ⟨fun k hk=>by rw [dF xo];exact hno k hk,?_⟩)
       . rw [List.getElem?_toArray] at hp;obtain ⟨e,he,hbe⟩:=Array.any_eq_true.1 hj;simp only [Bool.and_eq_true,beq_iff_eq] at hbe;have hl:=hall _ (Array.getElem_mem he) hbe.1;rw [hbe.2] at hl;have hjn:j<n:=by
          by_cases h:j<n
          . exact h
          . rw [hno j xo] at hl;cases hl
         exact hG j p (htk.2 ⟨hjn,hp⟩) hl
       . cases hd:o.dst with
         | none=>
          refine ⟨u,rfl,hJ',fun k p hp hk=> ?_⟩;by_cases e:k=i
          . subst e;have:=hG';unfold wu at this;rw [hd] at this;exact this
          . rw [dF e] at hk;exact hst _ _ _ _ _ e hE (hG k p hp hk)
         | some d=>
          have hdm:(dstsOf (l.take n)).contains d=true:=by
           simp only [List.contains_iff_mem];exact List.mem_filterMap.2 ⟨o,List.mem_of_getElem? nz,hd⟩
          refine ⟨fun t=>if t=d then v else u t,by simp only [Act.put,ng hdm],hJ',fun k p hp hk=> ?_⟩;by_cases e:k=i
          . subst e;have:=hG';unfold wu at this;rw [hd] at this;exact this
          . rw [dF e] at hk;refine hst _ _ _ _ _ e hE (abT k u _ w (fun j p' o' hj ho' hor=> ?_) (hG k p hp hk));have hjl:L.getD j false=true:=by
             rcases hor with rfl|hor
             . exact hk
             . obtain ⟨e',he',hbe⟩:=Array.any_eq_true.1 hor;simp only [Bool.and_eq_true,beq_iff_eq] at hbe;have:=hcl k o' (by rw [List.getElem?_toArray];exact ho') hk _ (Array.getElem_mem he') hbe.1;rw [hbe.2] at this;exact this
            have hji:j≠i:=fun h=>by rw [h,hi] at hjl;cases hjl
            have hjn:j<n:=by
             by_cases h:j<n
             . exact h
             . rw [hno j xo] at hjl;cases hjl
            have hne:=qy hnd nz (htk.2 ⟨hjn,hj⟩) (fun h=>hji h.symm) hd;unfold valOf;cases hpd:p'.dst with
            | none=>rfl
            | some d'=>exact if_neg (fun h=>hne (by rw [hpd,h]))
     . have hin':n=i:=by
         by_cases e:n=i
         . exact e
         . have:=ahead xo n xo;rw [hno n (Nat.le_refl _)] at this;cases this
       refine later n (Nat.le_refl _) hin' hno (fun j hj=>ahead xo j xo) (hdone u w hJw fun k p hp=>hG k p hp (ahead xo k ?_));have:=(htk.1 hp).1;omega
   . have him:m<=i:=by
       by_cases h:m<=i
       . exact h
       . have:=hyes i xo;rw [hi] at this;cases this
     have Qd:m=i:=by
      by_cases e:m=i
      . exact e
      . have:=ahead xo m xo;rw [hno m (Nat.le_refl _)] at this;cases this
     exact later m hnm Qd hno hyes hw
 . rintro L a w hs hall hI;rw [List.size_toArray] at hall;rcases hI with ⟨hno,u,rfl,hJw,hG⟩ | ⟨m,hnm,hml,hyes,hno,hw⟩
   . have hnl:n=l.length:=by
       by_cases e:n=l.length
       . exact e
       . have:=hall n xo;rw [hno n (Nat.le_refl _)] at this;cases this
     have hq:=hdone u w hJw fun k p hp=>hG k p hp (hall k (by have:=(htk.1 hp).1;omega))
     have hd:l.drop n=[]:=by rw [hnl];exact List.drop_length
     rw [hd] at hq;exact hq
   . have Ha:m=l.length:=by
       by_cases e:m=l.length
       . exact e
       . have:=hall m xo;rw [hno m (Nat.le_refl _)] at this;cases this
     rw [Ha,List.drop_length] at hw;exact hw
 . rw [List.size_toArray] at h;simp [Array.getD] at h
end
theorem Vb (L:List (Int×Int)):∀k,lC (L.take k)=(lC L).take (k*2):=by
 induction L with
 | nil=>intro k;simp [lC]
 | cons x L ih=>
  intro k;cases k with
  | zero=>simp [lC]
  | succ k=>
   have:=ih k;rw [List.take_succ_cons,show (k+1)*2=k*2+1+1 by omega];simp only [lC,List.flatMap_cons,List.cons_append,List.nil_append,List.take_succ_cons] at this ⊢;rw [this]
theorem Vd (L:List (Int×Int)):∀k,lC (L.drop k)=(lC L).drop (k*2):=by
 induction L with
 | nil=>intro k;simp [lC]
 | cons x L ih=>
  intro k;cases k with
  | zero=>simp [lC]
  | succ k=>
   have:=ih k;rw [List.drop_succ_cons,show (k+1)*2=k*2+1+1 by omega];simp only [lC,List.flatMap_cons,List.cons_append,List.nil_append,List.drop_succ_cons] at this ⊢;rw [this]
section
variable {P:Program}
theorem iQ {c B:Code} (l:Nat) {Q:Exit->Act->World->Prop} {a:Act} {w:World} (hf:findLabel c l=some (.seq .skip B))
    (h:c.wp P (Exit.jump l (fun a w=>B.wp P (Exit.jump l (fun _ _=>False) Q) a w) Q) a w):(Code.scope c).wp P Q a w:=by
 refine bZ l (fun _ a w=>B.wp P (Exit.jump l (fun _ _=>False) Q) a w) hf ?_ ?_
 . intro n a w h H _;refine Code.wp_mono ?_ h;intro e a' w' q;cases e<;>simp only [Exit.jump] at q ⊢ <;> first|exact q|skip
   exact q.2.elim
 . intro H hJ _;refine Code.wp_mono ?_ h;intro e a' w' q;cases e<;>simp only [Exit.jump] at q ⊢ <;> first|exact q|skip
   exact ⟨q.1,hJ 0 _ _ q.2⟩
theorem AC {o:Oper} {a:Act} {w:World} (t e:TypeId) (x y:Operand) (size:Nat) (ao:Option Addr) (m pl k:Nat) (ho:o.op= .slice t x (some y) none none)
    (ht:P.underlying t=some (.slice e)) (hs:(P.info? e).map (·.size)=some size) (hx:a.eval x= .slice ao m pl) (hy:a.eval y= .int .i64 k) (hk:k<=m) (hm:m<=pl):
    (execOp a.eval o).run P w= .ok (.value (.slice (if pl=k then ao else ao.map (·.add (k*size))) (m-k) (pl-k))) w:=by
 obtain ⟨i,hi,rfl⟩:=Option.map_eq_some_iff.1 hs;unfold execOp;simp [ho,hx,hy,Instr.sliceAt,Instr.slice,Instr.sliceBounds,Instr.sliceBound,asIntOf,run_underlying ht,sizeOf,typeInfo,hi,hk,hm]
theorem AA {o:Oper} {a:Act} {w:World} (t e:TypeId) (x y z:Operand) (size:Nat) (ao:Option Addr) (m pl k:Nat) (ho:o.op= .slice t x none (some y) (some z))
    (ht:P.underlying t=some (.slice e)) (hs:(P.info? e).map (·.size)=some size) (hx:a.eval x= .slice ao m pl) (hy:a.eval y= .int .i64 k) (hz:a.eval z= .int .i64 k) (hk:k<=pl):
    (execOp a.eval o).run P w= .ok (.value (.slice ao k k)) w:=by
 obtain ⟨i,hi,rfl⟩:=Option.map_eq_some_iff.1 hs;have e:∀ad:Addr,ad.add 0=ad:=fun ad=>by cases ad;rfl
 unfold execOp;simp [ho,hx,hy,hz,Instr.sliceAt,Instr.slice,Instr.sliceBounds,Instr.sliceBound,asIntOf,run_underlying ht,sizeOf,typeInfo,hi,hk,e]
theorem yZ {o:Oper} {a:Act} {w:World} (t e:TypeId) (x y:Operand) (size:Nat) (ao:Option Addr) (m pl k:Nat) (da:Option Addr) (Wl:(if pl=k then ao else ao.map (·.add (k*size)))=da) (ho:o.op= .slice t x (some y) none none)
    (ht:P.underlying t=some (.slice e)) (hs:(P.info? e).map (·.size)=some size) (hx:a.eval x= .slice ao m pl) (hy:a.eval y= .int .i64 k) (hk:k<=m) (hm:m<=pl):
    (execOp a.eval o).run P w= .ok (.value (.slice da (m-k) (pl-k))) w:=by
 rw [<-Wl];exact AC t e x y size ao m pl k ho ht hs hx hy hk hm
theorem rY {o:Oper} {a:Act} {w w':World} {v:Value} {K:Act->World->Prop} {Q:Exit->Act->World->Prop} (h:(execOp a.eval o).run P w= .ok (.value v) w') (hk:K (a.put o.dst v) w'):Oper.wp P o a w K Q:=by
 unfold Oper.wp;simp only [h];exact hk
theorem wH {w:World} {o:Oper} {a:Act} {K:Act->World->Prop} {Q:Exit->Act->World->Prop} (t e:TypeId) (x y:Operand) (size:Nat) (ao:Option Addr) (m pl k:Nat) (da:Option Addr) (Wl:(if pl=k then ao else ao.map (·.add (k*size)))=da) (ho:o.op= .slice t x (some y) none none) (ht:P.underlying t=some (.slice e)) (hs:(P.info? e).map (·.size)=some size) (hx:a.eval x= .slice ao m pl) (hy:a.eval y= .int .i64 k) (hk:k<=m) (hm:m<=pl)
    (h:K (a.put o.dst (.slice da (m-k) (pl-k))) w):Oper.wp P o a w K Q:=
  rY (yZ (o:=o) (a:=a) (w:=w) t e x y size ao m pl k da Wl ho ht hs hx hy hk hm) h
theorem wG {w:World} {o:Oper} {a:Act} {K:Act->World->Prop} {Q:Exit->Act->World->Prop} (t e:TypeId) (x y z:Operand) (size:Nat) (ao:Option Addr) (m pl k:Nat) (ho:o.op= .slice t x none (some y) (some z)) (ht:P.underlying t=some (.slice e)) (hs:(P.info? e).map (·.size)=some size) (hx:a.eval x= .slice ao m pl) (hy:a.eval y= .int .i64 k) (hz:a.eval z= .int .i64 k) (hk:k<=pl)
    (h:K (a.put o.dst (.slice ao k k)) w):Oper.wp P o a w K Q:=
  rY (AA (o:=o) (a:=a) (w:=w) t e x y z size ao m pl k ho ht hs hx hy hz hk) h
theorem rf {o:Oper} {a:Act} {w w':World} {v:Value} {s x:Operand} {t:TypeId} {vs vx:Value} (ho:o.op= .call {callee:= .builtin .append,args:= #[s,x],argTypes:= #[t,t]}) (hs:a.eval s=vs) (hx:a.eval x=vx)
    (hr:(Builtin.append_ #[t,t] o.type #[vs,vx]).run P w= .ok v w'):(execOp a.eval o).run P w= .ok (.value v) w':=by
 unfold execOp;simp only [ho,resolve,invoke,builtin,Sem.run_bind,Sem.run_pure,Result.andThen_ok,List.map_toArray,List.map_cons,List.map_nil,hs,hx,hr]
theorem Ce (w:World) (base:Nat) (t ty e:TypeId) (z:Value) (size bytes:Nat) (ht:P.underlying t=some (.slice e))
    (hinfo:(P.info? e).map (fun i=>(i.zero,i.size,i.bytes))=some (some z,size,bytes)) (hzs:z.cells.size=size) (hsz:0<size)
    (b:Addr) (n:Nat) (xs:List Value) (hown:w.ownsRow base e size (.slice (some b) n n) n xs)
    (ao:Option Addr) (m c:Nat) (news:List Value) (hl:news.length=m*size) (hnone:ao=none->m=0/\c=0)
    (hnews:∀ad,ao=some ad->∀j u,news[j]? =some u->w.cell? (ad.add j)=some u) (h1:∀u ∈ news,u.oneCell'=true)
    (h63:n+m<=4294967296) (hbytes:bytes<=1024) (hbase:base<=w.heap.size):
    ∃v' w',(Builtin.append_ #[t,t] ty #[.slice (some b) n n,.slice ao m c]).run P w= .ok v' w'/\w'.ownsRow base e size v' (n+m) (xs++news)/\Below w.heap.size w w':=by
 rcases Nat.eq_zero_or_pos m with rfl|hm
 . have hn:news=[]:=List.eq_nil_of_length_eq_zero (by simpa using hl);subst hn;obtain ⟨i,hi,hz,hs,hb⟩:=info_parts hinfo;refine ⟨.slice (some b) n n,w,?_,by simpa using hown,Below.refl _ _⟩;cases ao with
   | none=>
    obtain ⟨-,rfl⟩:=hnone rfl;exact run_append_owned_none w base t ty e i size ht hi _ n xs hown
   | some ad=>simp [Builtin.append_,run_underlying ht,sizeOf,typeInfo,hi,Builtin.lenOf,Builtin.firstCells,loadCells,loadCellsFrom,storeCells]
 . cases ao with
   | none=>have:=(hnone rfl).1;omega
   | some ad=>
    obtain ⟨g,rfl⟩:∃g,b=⟨g,0,none⟩:=by
     obtain ⟨-,⟨h,-⟩ | ⟨g,cap,cur,h,-⟩⟩:=hown
     . cases h
     . cases h;exact ⟨g,rfl⟩
    obtain ⟨v',w',hr,ho,hg,-⟩:=oZ (P:=P) w base t ty e z size bytes ht hinfo hzs hsz (some ⟨g,0,none⟩) n xs hown.1 aS (fun b' hb' j u hj=>by
     cases hb';exact World.ownsRow.cells hown (g:=g) rfl j u hj) ad m c news hl (hnews ad rfl) h1 hm h63 hbytes hbase
    exact ⟨v',w',hr,ho,br.grown hg (Nat.le_refl _) (fun k hk=>by cases hk)⟩
end
theorem Yd {W:World} {b:Nat}:∀(l:List Value) (i:Nat) (a:Addr),(iG W b i l).frozen? a=W.frozen? a
  | l,i,a=>by
   induction l generalizing W i with
   | nil=>rfl
   | cons v l ih=>rw [iG,ih];exact World.frozen?_setCell _ _ _ _
theorem MS:∀(l:List Value) (W:World) (b i:Nat),(iG W b i l).heap.size=W.heap.size
  | [],_,_,_=>rfl
  | v::l,W,b,i=>by rw [iG,MS l,World.size_setCell]
section
variable {P:Program}
theorem Gp (w:World) (base:Nat) (t ty e:TypeId) (z:Value) (size bytes:Nat) (ht:P.underlying t=some (.slice e))
    (hinfo:(P.info? e).map (fun i=>(i.zero,i.size,i.bytes))=some (some z,size,bytes)) (hzs:z.cells.size=size) (hsz:0<size)
    (v:Value) (n:Nat) (xs:List Value) (hown:w.ownsRow base e size v n xs)
    (ao:Option Addr) (m c:Nat) (news:List Value) (hl:news.length=m*size) (hnone:ao=none->m=0/\c=0)
    (hnews:∀ad,ao=some ad->∀j u,news[j]? =some u->w.cell? (ad.add j)=some u) (h1:∀u ∈ news,u.oneCell'=true)
    (h63:n+m<=4294967296) (hbytes:bytes<=1024) (hbase:base<=w.heap.size):
    ∃v' w',(Builtin.append_ #[t,t] ty #[v,.slice ao m c]).run P w= .ok v' w'/\w'.ownsRow base e size v' (n+m) (xs++news)/\w.grownBy w' v.ownBlock/\w'.ownsRow base e size v n xs:=by
 obtain ⟨i,hi,hz,hs,hb⟩:=info_parts hinfo;obtain ⟨v',w',hr,ho,hg,-⟩:=pK (P:=P) w base t ty e z size bytes ht hinfo hzs hsz v n xs hown ao m c news hl hnone hnews h1 h63 hbytes hbase;refine ⟨v',w',hr,ho,hg,?_⟩;cases ao with
 | none=>
  obtain ⟨rfl,rfl⟩:=hnone rfl;have hr2:=run_append_owned_none (P:=P) w base t ty e i size ht hi v n xs hown;rw [hr] at hr2;cases hr2;exact hown
 | some ad=>
  have hc:=hnews ad rfl;have hm1:n+m<=maxLen:=by unfold maxLen;omega
  have hm2:(n+m)*bytes<=140737488355328:=Nat.le_trans (Nat.mul_le_mul h63 hbytes) au;obtain ⟨hx,⟨rfl,rfl⟩ | ⟨g,cap,cur,rfl,hbg,hgg,hnc,hcm,hcs,htake⟩⟩:=hown
  . have hx0:xs=[]:=List.eq_nil_of_length_eq_zero (by simpa using hx);subst hx0;exact World.ownsRow_nil _ _ _ _
  . by_cases hroom:n+m<=cap
    . obtain ⟨w2,hr2,_⟩:=run_append_fits (P:=P) w base t ty e i size ht hi hs g n cap xs ⟨hx,.inr ⟨g,cap,cur,rfl,hbg,hgg,hnc,hcm,hcs,htake⟩⟩ ad m c news hl hc h1 hroom;rw [hr] at hr2;cases hr2;obtain ⟨hx',⟨h,-⟩ | ⟨g',cap',cur',he,af1,hgg',hnc',hcm',hcs',abG⟩⟩:=ho
      . cases h
      . cases he;refine ⟨hx,.inr ⟨g,cap,cur',rfl,af1,hgg',hnc,hcm',hcs',?_⟩⟩;have:=congrArg (List.take (n*size)) abG;rw [List.take_take,Nat.min_eq_left (Nat.mul_le_mul_right _ xo),List.take_append_of_le_length (Nat.le_of_eq hx.symm),List.take_of_length_le (Nat.le_of_eq hx)] at this;exact this
    . have holds:=World.ownsRow.cells (w:=w) (base:=base) (e:=e) (size:=size) (n:=n) (xs:=xs) ⟨hx,.inr ⟨g,cap,cur,rfl,hbg,hgg,hnc,hcm,hcs,htake⟩⟩ (g:=g) rfl;have hr2:=run_append_grow (P:=P) w t ty e i z ht hi hz ⟨g,0,none⟩ n cap xs (by rw [hs];exact hx) holds ad m c news (by rw [hs];exact hl) hc xo xo (growslice_fits xo (by rw [hb];exact hm2));rw [hr] at hr2;cases hr2;exact (World.ownsRow.drew ⟨hx,.inr ⟨g,cap,cur,rfl,hbg,hgg,hnc,hcm,hcs,htake⟩⟩).alloc _
end
theorem Jl {w:World} {ao:Option Addr} {L:List (Int×Int)} {m pl k:Nat} (h:aQ .i64 w ao (lC L)) (hL:L.length=m) (hpl:m<=pl) (hk:k<=m) (hn:ao=none->pl=0):
    aQ .i64 w (if pl=k then ao else ao.map (·.add (k*2))) (lC (L.drop k))/\((if pl=k then ao else ao.map (·.add (k*2)))=none->m-k=0/\pl-k=0):=by
 have hlen:(lC (L.drop k)).length=(m-k)*2:=by rw [gp,List.length_drop,hL]
 by_cases hp:pl=k
 . rw [if_pos hp];refine ⟨fun i hi=> ?_,fun _=>by omega⟩;rw [hlen] at hi;omega
 . rw [if_neg hp];refine ⟨fun i hi=> ?_,fun e=> ?_⟩
   . rw [hlen] at hi;obtain ⟨b,off,ha,hlt,hc⟩:=h (k*2+i) (by rw [gp,hL];omega);subst ha;refine ⟨b,off+k*2,?_,hlt,fun j hj=> ?_⟩
     . simp only [Option.map_some,Addr.add];split
       . rename_i hz;rw [hz];rfl
       . rfl
     rw [hlen] at hj;have:=hc (k*2+j) (by rw [gp,hL];omega);rw [<-Nat.add_assoc] at this;rw [this];congr 2
     rw [show lC (L.drop k)=(lC L).drop (k*2) from ?_,List.getD_eq_getElem?_getD,List.getD_eq_getElem?_getD,List.getElem?_drop];exact Vd L k
   . cases ao with
     | none=>have:=hn rfl;omega
     | some ad=>cases e
theorem Jk {w:World} {ao:Option Addr} {L:List (Int×Int)} {k:Nat} (h:aQ .i64 w ao (lC L)) (hk:k<=L.length):aQ .i64 w ao (lC (L.take k)):=by
 rw [Vb];exact h.take _ (by rw [gp];omega)
structure Aq (RA:World->World->Prop) where
 holds:Value->World->Prop
 own:Bool
 stB:∀v w w',RB w w'->holds v w->holds v w'
 stA:own=false->∀v w w',RA w w'->holds v w->holds v w'
def XX (RA:World->World->Prop):Aq RA:=⟨fun _ _=>True,false,fun _ _ _ _ _=>trivial,fun _ _ _ _ _ _=>trivial⟩
def LJ (RA:World->World->Prop) (x:Value):Aq RA:=⟨fun v _=>v=x,false,fun _ _ _ _ h=>h,fun _ _ _ _ _ h=>h⟩
def adi (RA:World->World->Prop) (base n:Nat) (xs:List Value):Aq RA:=⟨fun v w=>w.ownsRow base 60 2 v n xs,true,fun _ _ _ h h1=>ay h1 h,fun h=>by cases h⟩
theorem vS {w w':World} {base:Nat} {e:TypeId} {s:Nat} {v:Value} {n:Nat} {xs:List Value} (h:w.ownsRow base e s v n xs) (hk:∀k,base<=k->k<w.heap.size->w'.heap[k]? =w.heap[k]?):w'.ownsRow base e s v n xs:=
  af h fun k hb=>hk k (h.lt k hb).1 (h.lt k hb).2
def ySl {RA:World->World->Prop} (base:Nat) (hA:∀w w',RA w w'->∀k,base<=k->k<w.heap.size->w'.heap[k]? =w.heap[k]?) (c:aW):Aq RA:=
  ⟨(dN.sl base c).holds,false,fun v w w' h h1=>(dN.sl base c).stays v w w' h h1,
    fun _ v w w' h ⟨v1,v2,v3,v4,e,h1,h2,h3,h4⟩=>⟨v1,v2,v3,v4,e,vS h1 (hA w w' h),vS h2 (hA w w' h),vS h3 (hA w w' h),vS h4 (hA w w' h)⟩⟩
def aaV {RA:World->World->Prop} (base:Nat) (hA:∀w w',RA w w'->∀k,base<=k->k<w.heap.size->w'.heap[k]? =w.heap[k]?) (c:aW) (x:Value):Aq RA:=
  ⟨fun v w=>∃y,v= .tuple #[y,x]/\(ySl base hA c).holds y w,false,fun _ _ _ h ⟨y,e,h1⟩=>⟨y,e,(ySl base hA c).stB _ _ _ h h1⟩,fun _ _ _ _ h ⟨y,e,h1⟩=>⟨y,e,(ySl base hA c).stA rfl _ _ _ h h1⟩⟩
def yAt {RA:World->World->Prop} (n:Nat) (ds:List Nat) (fs:List (Aq RA)) (k:Nat) (u:Nat->Value) (w:World):Prop:=k<n->(fs.getD k (XX RA)).holds (u (ds.getD k 0)) w
def adk (m:Nat) (RA:World->World->Prop) (i:Nat) (w w':World):Prop:=(i=m->RA w w')/\(i≠m->RB w w')
theorem XW {RA:World->World->Prop} {n m:Nat} {ds:List Nat} {fs:List (Aq RA)} (h:∀k,k<n->k≠m->(fs.getD k (XX RA)).own=false):∀i k u w w',k≠i->adk m RA i w w'->yAt n ds fs k u w->yAt n ds fs k u w':=by
 intro i k u w w' hne hE hG hk;by_cases e:i=m
 . exact (fs.getD k (XX RA)).stA (h k hk (fun q=>hne (q.trans e.symm))) _ _ _ (hE.1 e) (hG hk)
 . exact (fs.getD k (XX RA)).stB _ _ _ (hE.2 e) (hG hk)
theorem adg {RA:World->World->Prop} {l:List Oper} {n:Nat} {ds:List Nat} {fs:List (Aq RA)} (h:(List.range n).all (fun k=>match l[k]? with|some o=>o.dst==some (ds.getD k 0)|none=>false)=true):
    ∀(k:Nat) (u u':Nat->Value) (w:World),(∀(j:Nat) (p o:Oper),l[j]? =some p->l[k]? =some o->(j=k\/(o.after.any fun e=>Region.binds .any e&&e.on==j)=true)->valOf u' p=valOf u p)->yAt n ds fs k u w->yAt n ds fs k u' w:=by
 intro k u u' w hv hg hk;have h1:=List.all_eq_true.1 h k (List.mem_range.2 hk);cases ho:l[k]? with
 | none=>rw [ho] at h1;cases h1
 | some o=>
  rw [ho] at h1;have h2:o.dst=some (ds.getD k 0):=by simpa using h1
  have h3:=hv k o o ho ho (.inl rfl);have e:u' (ds.getD k 0)=u (ds.getD k 0):=by simpa [valOf,h2] using h3
  rw [e];exact hg hk
end
section
open Go.RowKit Go.Shelf
theorem JO (L:List (Int×Int)) (k:Nat) (p:Int×Int):lC (insL L k p)=lC (L.take k)++[p.1,p.2]++lC (L.drop k):=by
 rw [insL,nY,show p::L.drop k=[p]++L.drop k from rfl,nY,List.append_assoc];rfl
structure AtZ (a:Option Addr) (m pl:Nat):Prop where
 off:∀x,a=some x->x.off=0/\x.spot=none
 no:a=none->m=0/\pl=0
 le:m<=pl
theorem AtZ.cases {a:Option Addr} {m pl:Nat} (h:AtZ a m pl):(a=none/\m=0/\pl=0)\/∃g,a=some ⟨g,0,none⟩:=by
 cases a with
 | none=>exact .inl ⟨rfl,(h.no rfl).1,(h.no rfl).2⟩
 | some x=>
  obtain ⟨h1,h2⟩:=h.off x rfl;obtain ⟨b,o,s⟩:=x;dsimp only at h1 h2;subst h1 h2;exact .inr ⟨b,rfl⟩
theorem Lc {w:World} {B:Nat} {e:TypeId} {s m cap:Nat} {a:Option Addr} {k:IntKind} {xs:List Int} (h:w.ownsRow B e s (.slice a m cap) m (xs.map (Value.int k))):AtZ a m cap:=by
 obtain ⟨a',c',he,-,h1,h2,h3,-⟩:=ak h;cases he;exact ⟨fun x hx=>⟨(h1 x hx).2.2.1,(h1 x hx).2.2.2⟩,h2,h3⟩
end
section
open Go.RowKit Go.Shelf Go.Sort
attribute [local go_sem] Oper.semAt_some
def Yu (base:Nat) (xs:List Value):dN RB:=⟨fun v w=>∃b,v= .slice (some ⟨b,0,none⟩) 1 1/\w.ownsRow base 60 2 v 1 xs,fun _ _ _ h ⟨b,e,h1⟩=>⟨b,e,ay h1 h⟩⟩
def Yt (base n:Nat) (xs:List Value):dN RB:=⟨fun v w=>w.ownsRow base 60 2 v n xs,fun _ _ _ h h1=>ay h1 h⟩
theorem TI (ai:Int) (wa ka va ca:Option Addr) (wc kc vc cc lw n lv lc:Nat) (laid:Int) (lo hi k:Nat) (x y:Int) (L:List (Int×Int)) (hL:L.length<=65536) (hk:k<=L.length) (hroom:lo+L.length<hi) (hhi:hi<=65536) (d:aW) (w:World)
    (PR:Hid (∀W,Below w.heap.size w W->Calls Tryz.prog 100 #[.agg #[.int .i64 ai,.slice wa lw wc,.slice ka n kc,.slice va lv vc,.slice ca lc cc,.int .u64 laid],.int .i64 lo,.int .i64 hi] W (sZ W L (.int .i64 0))))
    (OV:Hid (∀la pl W,Below w.heap.size w W->aQ .i64 W la (lC (insL L k (x,y)))->Calls Tryz.prog 183 #[.agg #[.int .i64 ai,.slice wa lw wc,.slice ka n kc,.slice va lv vc,.slice ca lc cc,.int .u64 laid],.int .i64 lo,.int .i64 hi,.slice la (L.length+1) pl] W (dm W d (.int .i64 0)))):
    Calls Tryz.prog 118 #[.agg #[.int .i64 ai,.slice wa lw wc,.slice ka n kc,.slice va lv vc,.slice ca lc cc,.int .u64 laid],.int .i64 lo,.int .i64 hi,.int .i64 k,.agg #[.int .i64 x,.int .i64 y]] w (dm w d (.int .i64 0)):=by
 have hw1:IntKind.i64.wrap ((hi:Int)-(lo:Int))=(hi:Int)-(lo:Int):=IntWalk.i64_in _ xo;have g1:((L.length:Int)==(hi:Int)-(lo:Int))=false:=by rw [beq_eq_false_iff_ne];omega
 have g2:¬((L.length:Int)<(k:Int)):=xo;have HRW:=hid (fun (w:World) la pl (h:aQ .i64 w la (lC L)) (hz:AtZ la L.length pl)=>And.intro (Jk h hk) (Jl h rfl hz.le hk (fun e=>(hz.no e).2)));have QE:=hid (show (lC (L.take k)).length=k*2 by rw [gp,List.length_take];omega);have HLD:=hid (show (lC (L.drop k)).length=(L.length-k)*2 by rw [gp,List.length_drop]);have HIN:=hid (JO L k (x,y));go_enter Tryz.func118,Tryz.ntmps118
 go_wp2_with fail
 refine (PR.out _ aH).mono ?_;rintro e w1 ⟨v,rfl,ho1,hb1⟩;have aA:=hb1.size;try simp only [World.size_alloc,World.size_setCell] at aA
 have hh:=jl hb1 (jI (jI (jA (b:=w.heap.size) ax)));obtain ⟨aO,aN,aK,aU,aT,aV⟩:=hh;have bF:=aP hb1 (dB (dB (bV (b:=w.heap.size) ax)));have hh:=bc2 hb1 (OB (TF (b:=w.heap.size+1) ax));obtain ⟨kH,kG⟩:=hh;have nR:=aP hb1 (dB (bV (b:=w.heap.size+1) ax));have hh:=jl hb1 (jA (b:=w.heap.size+1+1) ax);obtain ⟨a_,aZ,bf,dh,df,cZ⟩:=hh;have hh:=Qs hb1 (bV (b:=w.heap.size+1+1) ax) (zB (b:=w.heap.size+1+1) ax);obtain ⟨bQ,bP,bT,dQ,dP,dO⟩:=hh;have bW:=aP hb1 (bV (b:=w.heap.size+1+1) ax);have hB1:Below w.heap.size w w1:=aH;obtain ⟨la,pl,rfl,hi1,-,-,-,-⟩:=ak ho1;have hz:=Lc ho1;have HR:=hid (HRW.out w1 la pl hi1 hz);have HN:=hid (fun h:la=none=>(hz.no h));have QF:=hid (And.intro hk (And.intro hz.le (Nat.le_trans hk hz.le)));have HM:=hid hL;obtain ⟨da,Wl⟩:∃da,(if pl=k then la else la.map (·.add (k*2)))=da:=⟨_,rfl⟩
 rw [Wl] at HR;have HDA:=hid Wl;have HT:=hid HR.out.1;have HD:=hid HR.out.2;have HB1:=hid hB1;have hzp:w.heap.size+1+1<w1.heap.size:=bW;clear hb1 hB1 ho1 hi1 hz HR HRW Wl hk hL hroom hhi PR;generalize lC (L.take k)=T at *;generalize lC (L.drop k)=D at *;generalize lC (insL L k (x,y))=Z at *;generalize L.length=m at *;go_upto_region 8 with (fail)
 refine di 7 xk (N:=63) rfl xk xk au (fun w'=>Below w1.heap.size w1 w') RB (gU [.is (.slice la m pl),.is (.int .i64 k),.is (.int .i64 k),.is (.slice la k k),.is (.agg #[.int .i64 x,.int .i64 y]),Yu w1.heap.size [.int .i64 x,.int .i64 y],Yt w1.heap.size (k+1) (T.map (Value.int .i64)++[.int .i64 x,.int .i64 y])]) (dA _) br.drew ?steps ?fin
 case steps=>
  refine ⟨?o0,?o1,?o2,?o3,?o4,?o5,?o6,trivial⟩<;>intro u a w' ev hJ hd K hK
  case o0=>
   have e12:tg a 12= .slice la m pl:=ev 12 au;have HK:=hid hK;clear hK ev hd;go_simp;exact HK.out _ _ aS hJ rfl br
  case o1=>
   have e3:tg a 3= .int .i64 k:=ev 3 au;have HK:=hid hK;clear hK ev hd;go_simp;exact HK.out _ _ aS hJ rfl br
  case o2=>
   have e3:tg a 3= .int .i64 k:=ev 3 au;have HK:=hid hK;clear hK ev hd;go_simp;exact HK.out _ _ aS hJ rfl br
  case o3=>
   have e45:tg a 45= .slice la m pl:=(ev 45 au).trans (hd 0 _ xk rfl);have e46:tg a 46= .int .i64 k:=(ev 46 au).trans (hd 1 _ xk rfl);have e47:tg a 47= .int .i64 k:=(ev 47 au).trans (hd 2 _ xk rfl);have lY:=hJ.size;exact wG 125 60 (.tmp 45) (.tmp 46) (.tmp 47) 2 la m pl k rfl Tryz.underlying125 xk e45 e46 e47 QF.out.2.2 (hK _ _ aS hJ rfl br)
  case o4=>
   have e9:tg a 9= .pointer (some ⟨w.heap.size+1,0,none⟩):=ev 9 au;have g0:=jb hJ kH;have g1:=jb hJ kG;have HK:=hid hK;clear hK ev hd;go_simp;exact HK.out _ _ aS hJ rfl br
  case o5=>
   have e49:tg a 49= .agg #[.int .i64 x,.int .i64 y]:=(ev 49 au).trans (hd 4 _ xk rfl);have f49:a.tmps[49]?.getD undef= .agg #[.int .i64 x,.int .i64 y]:=by rw [<-Array.getD_eq_getD_getElem?];exact e49
   have HK:=hid hK;have lY:=hJ.size;clear hK ev hd;go_simp;exact HK.out _ _ aS (hJ.alloc lY _) ⟨_,rfl,World.ownsRow_lit _ _ 1 lY au rfl⟩ (br.alloc (Nat.le_refl _) _)
  case o6=>
   have e48:tg a 48= .slice la k k:=(ev 48 au).trans (hd 3 _ xk rfl);obtain ⟨bb,h50,hown⟩:(Yu w1.heap.size [.int .i64 x,.int .i64 y]).holds (u 50) w':=hd 5 _ xk rfl;have e50:tg a 50= .slice (some ⟨bb,0,none⟩) 1 1:=(ev 50 au).trans h50;rw [h50] at hown;have lY:=hJ.size;obtain ⟨v',w'',hr,ho,hg,-⟩:=oZ (P:=Tryz.prog) w' w1.heap.size 125 _ 60 (.agg #[.int .i64 0,.int .i64 0]) 2 16 Tryz.underlying125 mi rfl au la k (T.map (Value.int .i64)) (by rw [List.length_map,QE.out]) (fun h=>by have:=HN.out h;have:=QF.out;omega) (vJ (HT.out.below hJ)) ⟨bb,0,none⟩ 1 1 [.int .i64 x,.int .i64 y] rfl (World.ownsRow.cells hown (g:=bb) rfl) (by simp [Value.oneCell']) au (by have:=HM.out;have:=QF.out;omega) au lY;have hbw:Below w'.heap.size w' w'':=br.grown hg (Nat.le_refl _) (fun k hk=>by cases hk);exact rY (rf rfl e48 e50 hr) (hK _ _ aS (hJ.trans (hbw.mono lY)) ho hbw)
 case fin=>
  intro u w2 hJ hG;have hrow:(Yt w1.heap.size (k+1) (T.map (Value.int .i64)++[.int .i64 x,.int .i64 y])).holds (u 51) w2:=hG 6 _ rfl;obtain ⟨a2,c2,h51,-⟩:=aG hrow;change w2.ownsRow _ _ _ (u 51) _ _ at hrow;rw [h51] at hrow;have yA:=hid hrow;have HC2:=hid hJ;clear hG hrow hJ;simp only [aX,kR,dstsOf,List.take_succ_cons,List.take_zero,List.filterMap_cons,List.filterMap_nil,List.contains_cons,List.contains_nil,Nat.reduceBEq,Bool.or_false,Bool.false_or,Bool.or_true,Bool.true_or,if_true,if_false,Bool.false_eq_true,Nat.reduceAdd,Nat.zero_add,List.drop_succ_cons,List.drop_zero,h51];go_upto_region 9 with (fail)
  obtain ⟨RA,hRA⟩:∃RA:World->World->Prop,RA=fun w w'=>Below w1.heap.size w w'/\∀z,w2.heap.size<=z->z<w.heap.size->w'.heap[z]? =w.heap[z]? :=⟨_,rfl⟩
  have hA:∀w w',RA w w'->∀z,w2.heap.size<=z->z<w.heap.size->w'.heap[z]? =w.heap[z]? :=fun w w' h=>by rw [hRA] at h;exact h.2
  refine rE 11 xk (N:=63) rfl xk xk au (fun w'=>Below w1.heap.size w1 w'/\w'.ownsRow w1.heap.size 60 2 (.slice a2 (k+1) c2) (k+1) (T.map (Value.int .i64)++[.int .i64 x,.int .i64 y])/\w2.heap.size<=w'.heap.size) (adk 7 RA) (yAt 11 [52,53,54,55,56,57,58,59,60,61,62] [LJ RA (.agg #[.int .i64 ai,.slice wa lw wc,.slice ka n kc,.slice va lv vc,.slice ca lc cc,.int .u64 laid]),LJ RA (.int .i64 lo),LJ RA (.int .i64 hi),LJ RA (.slice a2 (k+1) c2),LJ RA (.slice la m pl),LJ RA (.int .i64 k),LJ RA (.slice da (m-k) (pl-k)),adi RA w1.heap.size (m+1) (T.map (Value.int .i64)++[.int .i64 x,.int .i64 y]++D.map (Value.int .i64)),aaV w2.heap.size hA d (.int .i64 0),ySl w2.heap.size hA d,LJ RA (.int .i64 0)]) (XW (by intro k h1 h2;rcases k with _|_|_|_|_|_|_|_|_|_|_|k<;>first|rfl|omega)) (adg xk) ⟨HC2.out.drew,yA.out.drew,Nat.le_refl _⟩ ?steps9 ?fin9
  case steps9=>
   refine ⟨?o0,?o1,?o2,?o3,?o4,?o5,?o6,?o7,?o8,?o9,?o10,trivial⟩<;>intro u a w' ev hJ hd K hK
   case o0=>
    obtain ⟨hJ1,hJ2,hJ3⟩:=hJ;have e5:tg a 5= .pointer (some ⟨w.heap.size,0,none⟩):=ev 5 au;have g0:=jb hJ1 aO;have g1:=jb hJ1 aN;have g2:=jb hJ1 aK;have g3:=jb hJ1 aU;have g4:=jb hJ1 aT;have g5:=jb hJ1 aV;have HK:=hid hK;clear hK ev hd;go_simp;exact HK.out _ _ aS ⟨hJ1,hJ2,hJ3⟩ (fun _=>by simp [wu,LJ]) ⟨fun h=>absurd h au,fun _=>Below.refl _ _⟩
   case o1=>
    obtain ⟨hJ1,hJ2,hJ3⟩:=hJ;have e1:tg a 1= .int .i64 lo:=ev 1 au;have HK:=hid hK;clear hK ev hd;go_simp;exact HK.out _ _ aS ⟨hJ1,hJ2,hJ3⟩ (fun _=>by simp [wu,LJ]) ⟨fun h=>absurd h au,fun _=>Below.refl _ _⟩
   case o2=>
    obtain ⟨hJ1,hJ2,hJ3⟩:=hJ;have e2:tg a 2= .int .i64 hi:=ev 2 au;have HK:=hid hK;clear hK ev hd;go_simp;exact HK.out _ _ aS ⟨hJ1,hJ2,hJ3⟩ (fun _=>by simp [wu,LJ]) ⟨fun h=>absurd h au,fun _=>Below.refl _ _⟩
   case o3=>
    obtain ⟨hJ1,hJ2,hJ3⟩:=hJ;have e14:tg a 14= .slice a2 (k+1) c2:=ev 14 au;have HK:=hid hK;clear hK ev hd;go_simp;exact HK.out _ _ aS ⟨hJ1,hJ2,hJ3⟩ (fun _=>by simp [wu,LJ]) ⟨fun h=>absurd h au,fun _=>Below.refl _ _⟩
   case o4=>
    obtain ⟨hJ1,hJ2,hJ3⟩:=hJ;have e12:tg a 12= .slice la m pl:=ev 12 au;have HK:=hid hK;clear hK ev hd;go_simp;exact HK.out _ _ aS ⟨hJ1,hJ2,hJ3⟩ (fun _=>by simp [wu,LJ]) ⟨fun h=>absurd h au,fun _=>Below.refl _ _⟩
   case o5=>
    obtain ⟨hJ1,hJ2,hJ3⟩:=hJ;have e3:tg a 3= .int .i64 k:=ev 3 au;have HK:=hid hK;clear hK ev hd;go_simp;exact HK.out _ _ aS ⟨hJ1,hJ2,hJ3⟩ (fun _=>by simp [wu,LJ]) ⟨fun h=>absurd h au,fun _=>Below.refl _ _⟩
   case o6=>
    obtain ⟨hJ1,hJ2,hJ3⟩:=hJ;have e56:tg a 56= .slice la m pl:=(ev 56 au).trans ((hd 4 _ xk rfl) au);have e57:tg a 57= .int .i64 k:=(ev 57 au).trans ((hd 5 _ xk rfl) au);exact wH 125 60 (.tmp 56) (.tmp 57) 2 la m pl k da HDA.out rfl Tryz.underlying125 xk e56 e57 QF.out.1 QF.out.2.1 (hK _ _ aS ⟨hJ1,hJ2,hJ3⟩ (fun _=>by simp [wu,LJ]) ⟨fun h=>absurd h au,fun _=>Below.refl _ _⟩)
   case o7=>
    obtain ⟨hJ1,hJ2,hJ3⟩:=hJ;have e55:tg a 55= .slice a2 (k+1) c2:=(ev 55 au).trans ((hd 3 _ xk rfl) au);have e58:tg a 58= .slice da (m-k) (pl-k):=(ev 58 au).trans ((hd 6 _ xk rfl) au);obtain ⟨v',w'',hr,ho,hg,ho2⟩:=Gp (P:=Tryz.prog) w' w1.heap.size 125 _ 60 (.agg #[.int .i64 0,.int .i64 0]) 2 16 Tryz.underlying125 mi rfl au (.slice a2 (k+1) c2) (k+1) (T.map (Value.int .i64)++[.int .i64 x,.int .i64 y]) hJ2 da (m-k) (pl-k) (D.map (Value.int .i64)) (by rw [List.length_map,HLD.out]) HD.out.2 (vJ (HD.out.1.below hJ1)) (numCells _) (by have:=HM.out;have:=QF.out;omega) au hJ1.size;have hbw:Below w1.heap.size w' w'':=(Below.refl w1.heap.size w').grown hg hJ1.size (fun z hz=>(hJ2.lt z hz).1);have hlen:k+1+(m-k)=m+1:=by have:=QF.out;omega
    rw [hlen] at ho;exact rY (rf rfl e55 e58 hr) (hK _ _ aS ⟨hJ1.trans hbw,ho2,Nat.le_trans hJ3 hg.size⟩ (fun _=>by simpa [wu,adi] using ho) ⟨fun _=>by rw [hRA];exact ⟨hbw,fun z h1 h2=>hg.block z h2 (fun e=>by have:=(yA.out.lt z e.symm).2;omega)⟩,fun h=>absurd rfl h⟩)
   case o8=>
    obtain ⟨hJ1,hJ2,hJ3⟩:=hJ;have e52:tg a 52= .agg #[.int .i64 ai,.slice wa lw wc,.slice ka n kc,.slice va lv vc,.slice ca lc cc,.int .u64 laid]:=(ev 52 au).trans ((hd 0 _ xk rfl) au);have e53:tg a 53= .int .i64 lo:=(ev 53 au).trans ((hd 1 _ xk rfl) au);have e54:tg a 54= .int .i64 hi:=(ev 54 au).trans ((hd 2 _ xk rfl) au);have ho3:w'.ownsRow w1.heap.size 60 2 (u 59) (m+1) (T.map (Value.int .i64)++[.int .i64 x,.int .i64 y]++D.map (Value.int .i64)):=(hd 7 _ xk rfl) au;obtain ⟨a3,c3,h59,-⟩:=aG ho3;rw [h59] at ho3;have e59:tg a 59= .slice a3 (m+1) c3:=(ev 59 au).trans h59;have hrow3:aQ .i64 w' a3 Z:=by
     rw [HIN.out];rw [show T.map (Value.int .i64)++[.int .i64 x,.int .i64 y]++D.map (Value.int .i64)=(T++[x,y]++D).map (Value.int .i64) by simp] at ho3;obtain ⟨a',c',he,hh,-⟩:=ak ho3;cases he;exact hh
    have HC:=hid (OV.out a3 c3 w' (aj hJ1 HB1.out HB1.out.size) hrow3);have HK:=hid hK;have HJ:=hid (And.intro hJ1 (And.intro hJ2 hJ3));clear hK ev hd hJ1 hJ2 hJ3 ho3 hrow3 h59;go_simp;refine HC.out.mono ?_;rintro e w'' ⟨v1,v2,v3,v4,rfl,p1,p2,p3,p4,hb⟩;obtain ⟨hJ1,hJ2,hJ3⟩:=HJ.out;exact HK.out _ _ aS ⟨hJ1.trans (hb.mono hJ1.size),ay hJ2 hb,Nat.le_trans hJ3 hb.size⟩ (fun _=>⟨_,by simp [wu],v1,v2,v3,v4,rfl,az p1 hJ3,az p2 hJ3,az p3 hJ3,az p4 hJ3⟩) ⟨fun h=>absurd h au,fun _=>hb⟩
   case o9=>
    obtain ⟨hJ1,hJ2,hJ3⟩:=hJ;obtain ⟨y,h60,hy⟩:(aaV w2.heap.size hA d (.int .i64 0)).holds (u 60) w':=(hd 8 _ xk rfl) au;have e60:tg a 60= .tuple #[y,.int .i64 0]:=(ev 60 au).trans h60;have HK:=hid hK;have HY:=hid hy;clear hK ev hd hy;go_simp;exact HK.out _ _ aS ⟨hJ1,hJ2,hJ3⟩ (fun _=>by simpa [wu] using HY.out) ⟨fun h=>absurd h au,fun _=>Below.refl _ _⟩
   case o10=>
    obtain ⟨hJ1,hJ2,hJ3⟩:=hJ;obtain ⟨y,h60,hy⟩:(aaV w2.heap.size hA d (.int .i64 0)).holds (u 60) w':=(hd 8 _ xk rfl) au;have e60:tg a 60= .tuple #[y,.int .i64 0]:=(ev 60 au).trans h60;have HK:=hid hK;have HY:=hid hy;clear hK ev hd hy;go_simp;exact HK.out _ _ aS ⟨hJ1,hJ2,hJ3⟩ (fun _=>by simp [wu,LJ]) ⟨fun h=>absurd h au,fun _=>Below.refl _ _⟩
  case fin9=>
   intro u w4 hJ hG;obtain ⟨v1,v2,v3,v4,h61,p1,p2,p3,p4⟩:(ySl w2.heap.size hA d).holds (u 61) w4:=(hG 9 _ rfl) au;have h62:u 62= .int .i64 0:=(hG 10 _ rfl) au;have hb4:=hJ.1;have hB4:=aj hb4 HB1.out HB1.out.size;have Dj:=hb4.size;simp (disch:=omega) only [jK hb4,rX hb4] at *;replace bF:=aP hb4 bF;replace nR:=aP hb4 nR;replace bW:=aP hb4 bW;have ai1:=HC2.out.size;obtain ⟨a1,k1,rfl,-,-,-,-,-⟩:=ak p1;obtain ⟨a2,k2,rfl,-,-,-,-,-⟩:=ak p2;obtain ⟨a3,k3,rfl,-,-,-,-,-⟩:=ak p3;obtain ⟨a4,k4,rfl,-,-,-,-,-⟩:=ak p4;have HP:=hid (And.intro p1 (And.intro p2 (And.intro p3 p4)));clear p1 p2 p3 p4 hb4 hG hJ;have hz1:w.heap.size+1+1<w2.heap.size:=xo;simp only [aX,kR,dstsOf,List.take_succ_cons,List.take_zero,List.filterMap_cons,List.filterMap_nil,List.contains_cons,List.contains_nil,Nat.reduceBEq,Bool.or_false,Bool.false_or,Bool.or_true,Bool.true_or,if_true,if_false,Bool.false_eq_true,Nat.reduceAdd,Nat.zero_add,List.drop_succ_cons,List.drop_zero,h61,h62];go_wp2
   have HC:=hid (mW ⟨a_,aZ,bf,dh,df,cZ⟩);exact jG (W:=w4) (b:=w.heap.size+1+1) [.int .i64 d.ai,.slice a1 d.ws.length k1,.slice a2 d.ks.length k2,.slice a3 d.vs.length k3,.slice a4 d.cs.length k4,.int .u64 d.laid] HC rfl rfl (fun _ h=>aF rfl rfl (ag _ Tryz.underlying29 rfl xk h)) fun _ s=>⟨_,_,_,_,rfl,s.ow hz1 HP.out.1,s.ow hz1 HP.out.2.1,s.ow hz1 HP.out.2.2.1,s.ow hz1 HP.out.2.2.2,s.be hB4⟩
end
end Go.Proofs.YtbedhbpgnfffmaaGreatDoor

/- Merged: FitLaw, Alike, Turned, MendFit, CbPutJ, CbLf, EffFact, CbFr, Cb12. -/
import Derived.Test.YtbedhbpgnfffmaaGreatDoorCobAnswersP12
import Derived.Test.YtbedhbpgnfffmaaGreatDoorCobAnswersP4
import Derived.Test.YtbedhbpgnfffmaaGreatDoorCobAnswersP2
import Derived.Laws.Bits64b
import Derived.Lib.QuietBelow
import Derived.Test.YtbedhbpgnfffmaaGreatDoorCobAnswersP3
import Derived.Test.YtbedhbpgnfffmaaGreatDoorCobAnswersP11
import Derived.Test.YtbedhbpgnfffmaaGreatDoorCobAnswersP10
import Derived.Test.YtbedhbpgnfffmaaGreatDoorCobAnswersP8
import Derived.Test.YtbedhbpgnfffmaaGreatDoorCobAnswersP9
import Derived.Test.YtbedhbpgnfffmaaGreatDoorCobAnswersP5
namespace Go.Proofs.YtbedhbpgnfffmaaGreatDoor
set_option maxRecDepth 100000
set_option maxHeartbeats 40000000
set_option linter.unusedVariables false
set_option linter.unusedSimpArgs false
section
open Go.RowKit
def LM (c:aW) (S D n:Nat):Int×Int:=d_ (b_ c (D_ D n*S) (zK D n*S))
theorem aby {p q:Int×Int} (h1:0<=p.2) (h2:0<=q.2) (h3:p.2+q.2<=1000000):Uk p q=ED p q:=by
 obtain ⟨a,m⟩:=p;obtain ⟨b,k⟩:=q;dsimp only at h1 h2 h3;have hw:wrap64 (m+k)=m+k:=by unfold wrap64;omega
 simp only [Uk,ED,TG,OH,hw];by_cases h:0<k
 . simp [h]
 . have:k=0:=xo;subst this;simp
theorem aa3 {c:aW} {S D n:Nat} (hk:c.ks.length=S*2^D) (hSM:S*2^D<=65536) (h1:1<=n) (h2:n<2^D):LM c S D n=Uk (LM c S D (2*n)) (LM c S D (2*n+1)):=by
 obtain ⟨t1,t2,t3⟩:=UB (D:=D) h1 h2;have hp2:2^(D+1)=2*2^D:=by rw [Nat.pow_succ];omega
 obtain ⟨u1,u2,u3⟩:=OU (D:=D) h1 xo;have o1:D_ D n<=zK D (2*n):=by rw [<-t1];exact Nat.le_add_right _ _
 have o2:zK D (2*n)<=zK D n:=by rw [<-t3,t2];exact Nat.le_add_right _ _
 have e:LM c S D n=ED (LM c S D (2*n)) (LM c S D (2*n+1)):=by
  unfold LM;rw [t1,t3,<-t2,<-qO,gZ c (Nat.mul_le_mul_right _ o1) (Nat.mul_le_mul_right _ o2)]
 have hb:∀a b,b<=S*2^D->(d_ (b_ c a b)).2<=65536/\0<=(d_ (b_ c a b)).2:=fun a b h=>by
  rw [fK];have:=Gu (c:=c) (a:=a) (b:=b);omega
 have hm:zK D n*S<=S*2^D:=by rw [Nat.mul_comm];exact Nat.mul_le_mul_left _ u3
 have b1:=hb (D_ D (2*n)*S) (zK D (2*n)*S) (Nat.le_trans (Nat.mul_le_mul_right _ o2) hm);have b2:=hb (D_ D (2*n+1)*S) (zK D (2*n+1)*S) (by rw [t3];exact hm);rw [e];unfold LM;exact (aby b1.2 b2.2 xo).symm
theorem UF {c:aW} {S D k:Nat} (hS:c.ai.toNat=S) (hk:k<2^D):LM c S D (2^D+k)=oN c k:=by
 have hp2:2^(D+1)=2*2^D:=by rw [Nat.pow_succ];omega
 have uo:(2^D+k).log2=D:=(Nat.log2_eq_iff xo).2 ⟨by omega,by omega⟩;have u1:D_ D (2^D+k)=k:=by rw [D_,uo,Nat.sub_self,Nat.pow_zero];omega
 have u2:zK D (2^D+k)=k+1:=by rw [zK,u1,uo,Nat.sub_self,Nat.pow_zero]
 rw [LM,u1,u2,xm,hS]
theorem U_ {c d:aW} {S u v:Nat} (hS:0<S) (h:∀k,u<=k->k<v->oV c d S k=true):b_ c (u*S) (v*S)=b_ d (u*S) (v*S):=by
 refine Yn fun i h1 h2=> ?_
 have a1:u<=i/S:=(Nat.le_div_iff_mul_le hS).2 h1;have a2:i/S<v:=(Nat.div_lt_iff_lt_mul hS).2 h2;exact Lh.1 (h (i/S) a1 a2) i (Nat.div_mul_le_self i S) (by rw [Nat.mul_comm];exact Nat.lt_mul_div_succ i hS)
theorem ab4 {c d:aW} {S D lo hi:Nat} {t0:Nat->Int×Int} (hS:0<S) (hd:d.ai.toNat=S) (hk:d.ks.length=S*2^D) (hSM:S*2^D<=65536) (hhi:hi<=2^D)
    (ht:∀n,1<=n->n<2^(D+1)->t0 n=LM c S D n) (ha:∀k,k<2^D->(k<lo\/hi<=k)->oV c d S k=true):
    ∀h,h<=D->∀n,1<=n->n<2^(D+1)->(2^(D-h)<=n->gH (oN d) t0 (2^D) lo hi h n=LM d S D n)/\(n<2^(D-h)->gH (oN d) t0 (2^D) lo hi h n=t0 n):=by
 have hp2:2^(D+1)=2*2^D:=by rw [Nat.pow_succ];omega
 -- what is not above a segment of the window is as it was
 have hno:∀h n,h<=D->2^(D-h)<=n->n<2*2^(D-h)->lZ (2^D) lo hi h n=false->LM c S D n=LM d S D n:=by
  intro h n hh n1 n2 hf;have hpos:=Nat.two_pow_pos (D-h);have uo:n.log2=D-h:=(Nat.log2_eq_iff xo).2 ⟨n1,by rw [Nat.pow_succ];omega⟩;have hDD:D-(D-h)=h:=xo;have ep:2^D=2^(D-h)*2^h:=by rw [<-Nat.pow_add];congr 1;omega
  have hge:2^D<=n*2^h:=by rw [ep];exact Nat.mul_le_mul_right _ n1
  have hle:(n+1)*2^h<=2*2^D:=by
   rw [ep,<-Nat.mul_assoc];exact Nat.mul_le_mul_right _ xo
  unfold LM zK D_;rw [uo,hDD];congr 1
  refine U_ hS fun k k1 k2=> ?_
  have e1:(n+1)*2^h=n*2^h+2^h:=by rw [Nat.add_mul,Nat.one_mul]
  refine ha k xo ?_;apply Classical.byContradiction;intro hc;have:lZ (2^D) lo hi h n=true:=oP.2 ⟨k,by omega,by omega,by
   have hp:=Nat.two_pow_pos h;apply Nat.le_antisymm
   . exact Nat.le_of_lt_succ ((Nat.div_lt_iff_lt_mul hp).2 (show 2^D+k<(n+1)*2^h by omega))
   . rw [Nat.le_div_iff_mul_le hp];omega⟩
  rw [hf] at this;cases this
 intro h;induction h with
 | zero=>
  intro _ n n1 n2;rw [Nat.sub_zero];constructor
  . intro hn;rw [gH];by_cases hh:lZ (2^D) lo hi 0 n=true
    . rw [if_pos hh];obtain ⟨k,rfl⟩:∃k,n=2^D+k:=⟨n-2^D,by omega⟩
      rw [Nat.add_sub_cancel_left,UF hd xo]
    . rw [if_neg hh,ht n n1 n2];exact hno 0 n xo (by simpa using hn) (by simp;omega) (by simpa using hh)
  . intro hn;rw [gH,if_neg (fun e=>by have:=hit0.1 e;omega)]
 | succ h ih=>
  intro hh n n1 n2;have epw:2^(D-h)=2*2^(D-(h+1)):=by rw [show D-h=D-(h+1)+1 by omega,Nat.pow_succ];omega
  have hp:=Nat.two_pow_pos (D-(h+1));have ihn:=ih xo;constructor
  . intro hn;rw [gH];by_cases hit:lZ (2^D) lo hi (h+1) n=true
    . have hr:=kX hhi hh hit;have hle:2^(D-h)<=2^D:=Nat.pow_le_pow_right xo xo;have hnD:n<2^D:=xo;rw [if_pos hit,(ihn (2*n) xo xo).1 xo,(ihn (2*n+1) xo xo).1 xo];exact (aa3 hk hSM n1 hnD).symm
    . rw [if_neg hit];by_cases hlow:2^(D-h)<=n
      . exact (ihn n n1 n2).1 hlow
      . rw [(ihn n n1 n2).2 xo,ht n n1 n2];exact hno (h+1) n hh hn xo (by simpa using hit)
  . intro hn;rw [gH,if_neg (fun e=>by have:=(kX hhi hh e).1;omega)];exact (ihn n n1 n2).2 xo
theorem C_ {L:Nat} (hL:1<=L) {f g:Nat->Int} (h:∀n,1<=n->n<2^L->f n=g n):(lay L 1).map f=(lay L 1).map g:=by
 apply List.map_congr_left;intro n hn;have:=G5 L L 1 (Nat.le_refl _) hL n hn;have e:(1+1)*2^(L-1)=2^L:=by rw [show L=L-1+1 by omega,Nat.pow_succ];simp;omega
 exact h n this.1 xo
theorem XY {c d:aW} (hc:kJ c=0) (hd:kJ d=0) (h1:c.ai=d.ai) (h2:c.ks.length=d.ks.length) {lo hi:Int} (h3:0<=lo) (h4:lo<=hi) (h5:hi<=d.cs.length)
    (ha:∀k:Nat,k<d.cs.length->((k:Int)<lo\/hi<=k)->oV c d d.ai.toNat k=true):
    wV (iE c) (gy c) (fZ c) d lo hi=0/\Mc (iE c) (gy c) (fZ c) d lo hi=iE d/\L_ (iE c) (gy c) (fZ c) d lo hi=gy d/\Md (iE c) (gy c) (fZ c) d lo hi=fZ d:=by
 obtain ⟨S,D,hS,hS2,hS4,Eh,hcs,hD,hks,hSM,hL,hlm,hlc,hv⟩:=qH hc;obtain ⟨S',D',hS',abW,-,-,hcs',-,Y3,-,hL',abN,abO,hv'⟩:=qH hd;have hSS:S'=S:=xo;subst hSS;have hDD:2^D'=2^D:=by
  have:S'*2^D'=S'*2^D:=xo;exact Nat.eq_of_mul_eq_mul_left xo this
 have hD2:D'=D:=by
  have:=congrArg Nat.log2 hDD;rwa [Nat.log2_two_pow,Nat.log2_two_pow] at this
 subst hD2;have hmay:=Ig hc;have h2L:(2:Int)^((iE c).toNat-1)=((2^D':Nat):Int):=by rw [hL,Int.toNat_natCast,Nat.add_sub_cancel];push_cast;rfl
 have hE:wV (iE c) (gy c) (fZ c) d lo hi=0:=by
  rw [wV,if_pos hd,if_pos hmay,if_pos ⟨by rw [h2L,hcs'],h3,h4,h5⟩]
 obtain ⟨lo',rfl⟩:∃n:Nat,lo=n:=⟨lo.toNat,by omega⟩
 obtain ⟨hi',rfl⟩:∃n:Nat,hi=n:=⟨hi.toNat,by omega⟩
 have key:∀n,1<=n->n<2^(D'+1)->Us (iE c) (gy c) (fZ c) d lo' hi' n=LM d S' D' n:=by
  intro n n1 n2;unfold Us;rw [hL,Int.toNat_natCast,Int.toNat_natCast,Int.toNat_natCast,Nat.add_sub_cancel];refine (ab4 (c:=c) (S:=S') xo abW Y3 hSM xo (fun m m1 m2=> ?_) (fun k k1 k2=> ?_) D' (Nat.le_refl _) n n1 n2).1 (by rw [Nat.sub_self];exact n1)
  . rw [(hv m m1 m2).1,(hv m m1 m2).2];rfl
  . have:=ha k xo xo;rw [abW] at this;exact this
 refine ⟨hE,?_,?_,?_⟩
 . rw [Mc,if_pos hE,hL,hL']
 . rw [L_,if_pos hE,vW (L:=D'+1) xo abN,hL,Int.toNat_natCast];refine C_ xo fun n n1 n2=> ?_
   rw [<-hL,key n n1 n2,(hv' n n1 n2).1];rfl
 . rw [Md,if_pos hE,vW (L:=D'+1) xo abO,hL,Int.toNat_natCast];refine C_ xo fun n n1 n2=> ?_
   rw [<-hL,key n n1 n2,(hv' n n1 n2).2];rfl
end
section
open Go.RowKit Go.Shelf Go.Sort
theorem Ih (a b:Nat) (ha:a<18446744073709551616) (hb:b<18446744073709551616):bits .xor .u64 (a:Int) (b:Int)=((a ^^^ b:Nat):Int):=by
 have hx:a ^^^ b<2^64:=Nat.xor_lt_two_pow xo xo;have h1:(BitVec.ofInt 64 (a:Int)).toNat=a:=by
  rw [BitVec.ofInt_natCast,BitVec.toNat_ofNat];exact Nat.mod_eq_of_lt xo
 have h2:(BitVec.ofInt 64 (b:Int)).toNat=b:=by
  rw [BitVec.ofInt_natCast,BitVec.toNat_ofNat];exact Nat.mod_eq_of_lt xo
 show IntKind.u64.wrap ((BitVec.ofInt 64 (a:Int) ^^^ BitVec.ofInt 64 (b:Int)).toNat:Int)=_;rw [BitVec.toNat_xor,h1,h2,IntKind.wrap_u64];omega
theorem QM {x y:Int} (hx:0<=x/\x<18446744073709551616) (hy:0<=y/\y<18446744073709551616):∃z,bits .xor .u64 x y=z/\0<=z/\z<18446744073709551616/\∀k,je z k=(je x k != je y k):=by
 obtain ⟨a,rfl⟩:∃a:Nat,x=a:=⟨x.toNat,by omega⟩
 obtain ⟨b,rfl⟩:∃b:Nat,y=b:=⟨y.toNat,by omega⟩
 have hlt:a ^^^ b<2^64:=Nat.xor_lt_two_pow xo xo;refine ⟨((a ^^^ b:Nat):Int),Ih a b xo xo,by omega,by omega,fun k=> ?_⟩;rw [fD,fD,fD,Nat.testBit_xor]
theorem aQ.part {k:IntKind} {w:World} {b off:Nat} {xs:List Int} (h:aQ k w (some ⟨b,off,none⟩) xs) (lo n:Nat) (hn:lo+n<=xs.length) (h0:0<n):aQ k w (some ⟨b,off+lo,none⟩) ((xs.drop lo).take n):=by
 obtain ⟨b',off',e,hlt,hc⟩:=h 0 xo;cases e;intro i hi;refine ⟨b,off+lo,rfl,hlt,fun j hj=> ?_⟩;have hj':j<n:=by simp at hj;omega
 have:=hc (lo+j) xo;rw [show off+lo+j=off+(lo+j) by omega,this,List.getD_eq_getElem?_getD,List.getD_eq_getElem?_getD,List.getElem?_take,if_pos hj',List.getElem?_drop]
theorem PP {xs ys:List Int} {lo n:Nat} (h1:lo+n<=xs.length) (h2:lo+n<=ys.length):(xs.drop lo).take n=(ys.drop lo).take n↔∀i,lo<=i->i<lo+n->xs.getD i 0=ys.getD i 0:=by
 constructor
 . intro h i i1 i2;have:=congrArg (fun l=>l.getD (i-lo) 0) h;simp only [List.getD_eq_getElem?_getD,List.getElem?_take,List.getElem?_drop] at this;rw [if_pos xo,if_pos xo,show lo+(i-lo)=i by omega] at this;simpa [List.getD_eq_getElem?_getD] using this
 . intro h;refine List.ext_getElem (by simp;omega) fun i i1 i2=> ?_
   have hi:i<n:=by simp at i1;omega
   have:=h (lo+i) xo xo;rw [List.getD_eq_getElem?_getD,List.getD_eq_getElem?_getD,List.getElem?_eq_getElem xo,List.getElem?_eq_getElem xo] at this;rw [List.getElem_take,List.getElem_take,List.getElem_drop,List.getElem_drop];simpa using this
theorem Xj (S M k:Nat) (c d:aW) (a b:jJ) (w:World) (hc:iy w c a) (hd:iy w d b) (h4:4<=S) (h64:S<=64) (hSM:S*M<=65536) (hcs:c.ai=S) (hds:d.ai=S) (hck:c.ks.length=S*M) (hdk:d.ks.length=S*M) (hcv:c.vs.length=S*M) (hdv:d.vs.length=S*M) (hcw:c.ws.length=(S*M+63)/64) (hdw:d.ws.length=(S*M+63)/64)
    (q1:S*M<=a.kc) (q2:S*M<=a.vc) (q3:S*M<=b.kc) (q4:S*M<=b.vc) (hk:k<M):
    Calls Tryz.prog 187 #[jB c a,jB d b,.int .i64 k] w (aC w (.bool (oV c d S k))):=by
 have hk1:(k:Int)*(S:Int)=((k*S:Nat):Int):=by push_cast;rfl
 have hk2:((k:Int)+1)*(S:Int)=(((k+1)*S:Nat):Int):=by push_cast;rfl
 have hkS:(k+1)*S=k*S+S:=by rw [Nat.add_mul,Nat.one_mul]
 have hkM:(k+1)*S<=S*M:=by rw [Nat.mul_comm S];exact Nat.mul_le_mul_right _ hk
 have Ud:=hid (Lh (c:=c) (d:=d) (S:=S) (k:=k));obtain ⟨R,hR⟩:∃R,oV c d S k=R:=⟨_,rfl⟩
 rw [hR] at Ud ⊢;have HC:=hid hc;have HD:=hid hd;have hku:=hc.u;have hdu:=hd.u;obtain ⟨bk1,ok1,x1,hb1,-,-,-⟩:=hc.k.get (i:=0) xo;obtain ⟨bk2,ok2,x2,hb2,-,-,-⟩:=hd.k.get (i:=0) xo;obtain ⟨bv1,ov1,y1,hb3,-,-,-⟩:=hc.v.get (i:=0) xo;obtain ⟨bv2,ov2,y2,hb4,-,-,-⟩:=hd.v.get (i:=0) xo;have HU1:=hid hku;have HU2:=hid hdu;have HL:=hid (And.intro hcw hdw);have HL2:=hid (And.intro (And.intro hck hdk) (And.intro hcv hdv));have hk8:k<=16384:=by
  have:k*1<=k*S:=Nat.mul_le_mul_left _ xo;have:k*4<=k*S:=Nat.mul_le_mul_left _ xo;omega
 obtain ⟨p1,hp1⟩:∃p1,k*S=p1:=⟨_,rfl⟩
 obtain ⟨p2,hp2⟩:∃p2,(k+1)*S=p2:=⟨_,rfl⟩
 obtain ⟨SM,ad_⟩:∃SM,S*M=SM:=⟨_,rfl⟩
 rw [hp1] at hk1 hkS Ud;rw [hp2] at hk2 hkS hkM Ud;rw [ad_] at hSM q1 q2 q3 q4 hkM HL HL2;obtain ⟨ai,ws,ks,vs,cs,laid⟩:=c;obtain ⟨wa,ka,va,ca,wc,kc,vc,cc⟩:=a;obtain ⟨oW,ws',ks',vs',cs',laid'⟩:=d;obtain ⟨zI,zV,zJ,ca',wc',yV,yF,cc'⟩:=b;dsimp only [jB] at *;subst hcs hds hb1 hb2 hb3 hb4;rw [HL2.out.1.1,HL2.out.1.2,HL2.out.2.1,HL2.out.2.2];have HP:=hid (And.intro hp1 hp2);clear hc hd hku hdu hck hdk hcv hdv hcw hdw hk hR hp1 hp2 ad_;go_enter Tryz.func187,Tryz.ntmps187
 go_wp2
 generalize hwz:((w.alloc _).alloc _)=wz;have hh:=Dy hwz (jI (jA (b:=w.heap.size) ax));obtain ⟨eH,fA,eG,eF,eY,eX⟩:=hh;have iC:=kT hwz (dB (bV (b:=w.heap.size) ax));have hh:=Dy hwz (jA (b:=w.heap.size+1) ax);obtain ⟨aO,aN,aK,aU,aT,aV⟩:=hh;have bF:=kT hwz (bV (b:=w.heap.size+1) ax);have HB0:Hid (Below w.heap.size w wz):=by rw [<-hwz];exact hid ((br.alloc (Nat.le_refl _) _).alloc ax _)
 clear hwz;have HKS:=hid hkS;have ajc:p1<=p2:=xo;clear hkS;go_quiet (fail)
 go_wp2
 go_loopg [9] (p2-p1) (fun gk iv wr=>∃i n:Nat,i+gk=p2/\p1<=i/\iv= .int .i64 i/\wr=wz.drewN n/\Hid (∀j,p1<=j->j<i->bG ws j=bG ws' j))
 case atStart=>exact ⟨p1,_,by omega,Nat.le_refl _,rfl,rfl,hid fun j h1 h2=>by omega⟩
 case round=>
  obtain ⟨i,n,hi,hip,rfl,rfl,HE⟩:=hrel;by_cases hlt:i<p2
  . obtain ⟨q,hq⟩:∃q,i/64=q:=⟨_,rfl⟩
    obtain ⟨r,hr⟩:∃r,i%64=r:=⟨_,rfl⟩
    have VY:(i:Int)/64=(q:Int):=xo;have hrI:(i:Int)%64=(r:Int):=xo;have hrT:(i:Int).tmod 64=(r:Int):=by rw [Int.tmod_eq_emod_of_nonneg xo];omega
    have hqT:(i:Int).tdiv 64=(q:Int):=by rw [Int.tdiv_eq_ediv_of_nonneg xo];omega
    have YU:r<64:=xo;have hql:q<ws.length:=by have:=HL.out.1;omega
    have afJ:q<ws'.length:=by have:=HL.out.2;omega
    have b1:bG ws i=je (ws.getD q 0) r:=by rw [bG,hq,hr]
    have b2:bG ws' i=je (ws'.getD q 0) r:=by rw [bG,hq,hr]
    obtain ⟨z,hz,z0,z1,z2⟩:=QM (HU1.out.get q) (HU2.out.get q);have hand:=yu z0 z1 r;rw [z2 r,<-b1,<-b2] at hand;obtain ⟨w1b,w1o,x,rfl,hx,d1,-⟩:=(HC.out.w.below HB0.out).get (i:=q) hql;obtain ⟨w2b,w2o,y,rfl,hy,d2,-⟩:=(HD.out.w.below HB0.out).get (i:=q) afJ;rw [hx.out,hy.out] at hz;have HI:=hid hi;have HZZ:=hid (And.intro z0 z1);clear b1 b2 z2 z0 z1 hx hy hq hr hi;by_cases hbe:bG ws i=bG ws' i
    . rw [hbe,show (bG ws' i != bG ws' i)=false by simp,if_neg au] at hand;have HBE:=hid hbe;clear hbe;go_wp2
      go_quiet (fail)
      go_wp2
      go_roundg (gk-1)
      case measure=>have:=HI.out;omega
      case rel=>exact ⟨i+1,_,by have:=HI.out;omega,by omega,by go_num,rfl,hid fun j j1 j2=>by
       by_cases e:j=i
       . subst e;exact HBE.out
       . exact HE.out j j1 xo⟩
    . rw [show (bG ws i != bG ws' i)=true by simpa using hbe,if_pos rfl] at hand;have HR:Hid (R=false):=hid (by
       cases R with
       | false=>rfl
       | true=>exact absurd (Ud.out.1 rfl i hip hlt).1 hbe)
      clear hbe;go_wp2
      go_quiet (fail)
      go_wp2
      go_ret
      rw [HR.out];exact ⟨rfl,below_drewN (below_drewN HB0.out _) _⟩
  . have hin:i=p2:=xo;have HE2:Hid (∀j,p1<=j->j<p2->bG ws j=bG ws' j):=hid fun j j1 j2=>HE.out j j1 xo
    subst hin;obtain ⟨m,hm⟩:∃m,i-p1=m:=⟨_,rfl⟩
    have hmS:0<m:=by have:=HKS.out;omega
    have hn1:¬kc=p1:=xo;have hn2:¬yV=p1:=xo;have hn3:¬vc=p1:=xo;have hn4:¬yF=p1:=xo;have L1:((ks.drop p1).take m).length=m:=by have:=HL2.out;simp;omega
    have L2:((ks'.drop p1).take m).length=m:=by have:=HL2.out;simp;omega
    have L3:((vs.drop p1).take m).length=m:=by have:=HL2.out;simp;omega
    have L4:((vs'.drop p1).take m).length=m:=by have:=HL2.out;simp;omega
    have P1:=HC.out.k.part p1 m (by have:=HL2.out;dsimp only;omega) hmS;have P2:=HD.out.k.part p1 m (by have:=HL2.out;dsimp only;omega) hmS;have P3:=HC.out.v.part p1 m (by have:=HL2.out;dsimp only;omega) hmS;have P4:=HD.out.v.part p1 m (by have:=HL2.out;dsimp only;omega) hmS;have EK:=hid (fun W (hb:Below w.heap.size w W) (k1 k2:Nat)=>vw _ _ k1 k2 _ _ W (P1.below hb) (P2.below hb) (by rw [L1];omega));have EV:=hid (fun W (hb:Below w.heap.size w W) (k1 k2:Nat)=>vw _ _ k1 k2 _ _ W (P3.below hb) (P4.below hb) (by rw [L3];omega));rw [L1,L2] at EK;rw [L3,L4] at EV;have HX:Hid (R=(decide ((ks.drop p1).take m=(ks'.drop p1).take m)&&decide ((vs.drop p1).take m=(vs'.drop p1).take m))):=hid (by
     rw [Bool.eq_iff_iff,Ud.out,Bool.and_eq_true,decide_eq_true_eq,decide_eq_true_eq,PP (by have:=HL2.out;omega) (by have:=HL2.out;omega),PP (by have:=HL2.out;omega) (by have:=HL2.out;omega)];constructor
     . intro h;exact ⟨fun j j1 j2=>(h j j1 xo).2.1,fun j j1 j2=>(h j j1 xo).2.2⟩
     . rintro ⟨h1,h2⟩ j j1 j2;exact ⟨HE2.out j j1 j2,h1 j j1 xo,h2 j j1 xo⟩)
    obtain ⟨e1,he1⟩:∃e1,decide ((ks.drop p1).take m=(ks'.drop p1).take m)=e1:=⟨_,rfl⟩
    obtain ⟨e2,he2⟩:∃e2,decide ((vs.drop p1).take m=(vs'.drop p1).take m)=e2:=⟨_,rfl⟩
    rw [he1] at EK HX;rw [he2] at EV HX;rw [<-hm] at EK EV;have HMI:=hid hm;clear P1 P2 P3 P4 L1 L2 L3 L4 he1 he2 hm HE HE2 Ud;have hBn:Below w.heap.size w (wz.drewN n):=below_drewN HB0.out _;have K1:=hid (fun d os k1 k2=>Calls.regrown_of (w:=wz.drewN n) (d:=d) (os:=os) ((EK.out _ (aj (below_regrown (wz.drewN n) d os) hBn hBn.size) k1 k2).mono fun _ _ ⟨h1,n2,h2⟩=>⟨h1,by rw [h2];exact below_drewN br _⟩));have K2:=hid (fun d os k1 k2=>Calls.regrown_of (w:=wz.drewN n) (d:=d) (os:=os) ((EV.out _ (aj (below_regrown (wz.drewN n) d os) hBn hBn.size) k1 k2).mono fun _ _ ⟨h1,n2,h2⟩=>⟨h1,by rw [h2];exact below_drewN br _⟩));have s2:=cg (w:=wz.drewN n) eG;have s3:=cg (w:=wz.drewN n) eF;have u2:=cg (w:=wz.drewN n) aK;have u3:=cg (w:=wz.drewN n) aU;clear EK EV;go_wp2
    cases e1 with
    | true=>
     refine wp_region_quiet_below xk xk ?_;repeat (go_big_quiet_step (first|(with_reducible exact K1.out _ _ _ _)|(with_reducible exact K2.out _ _ _ _)))
     refine wpQuiet_nil ?_;intro _ hw';obtain ⟨⟨dq,osq⟩,hw''⟩:=hw';subst hw'';have hb7:=below_regrown (wz.drewN n) dq osq;clear s2 s3 u2 u3;generalize Sort.grow (redrawn (wz.drewN n) dq) osq=w7 at *;have hB7:Below w.heap.size w w7:=aj hb7 hBn hBn.size;go_wp2
     go_ret
     exact ⟨by rw [HX.out];simp,hB7⟩
    | false=>
     refine wp_region_quiet_below xk xk ?_;repeat (go_big_quiet_step (first|(with_reducible exact K1.out _ _ _ _)|(with_reducible exact K2.out _ _ _ _)))
     refine wpQuiet_nil ?_;intro _ hw';obtain ⟨⟨dq,osq⟩,hw''⟩:=hw';subst hw'';have hb7:=below_regrown (wz.drewN n) dq osq;clear s2 s3 u2 u3;generalize Sort.grow (redrawn (wz.drewN n) dq) osq=w7 at *;have hB7:Below w.heap.size w w7:=aj hb7 hBn hBn.size;go_wp2
     go_ret
     exact ⟨by rw [HX.out];simp,hB7⟩
end
section
open Go.RowKit Go.Shelf
theorem acy (ai oW laid laid':Int) (wa ka va ca zI zV zJ ca':Option Addr) (wc kc vc cc wc' yV yF cc' lw lk lv lc Bg lk' Bi Bj:Nat) (y z:Int) (hy:y≠0) (w:World)
    (C1:Hid (∀W,Below w.heap.size w W->Calls Tryz.prog 95 #[.agg #[.int .i64 ai,.slice wa lw wc,.slice ka lk kc,.slice va lv vc,.slice ca lc cc,.int .u64 laid]] W (aC W (.int .i64 y))))
    (C2:Hid (∀W,Below w.heap.size w W->Calls Tryz.prog 95 #[(.agg #[.int .i64 oW,.slice zI Bg wc',.slice zV lk' yV,.slice zJ Bi yF,.slice ca' Bj cc',.int .u64 laid'])] W (aC W (.int .i64 z)))):
    Calls Tryz.prog 131 #[.agg #[.int .i64 ai,.slice wa lw wc,.slice ka lk kc,.slice va lv vc,.slice ca lc cc,.int .u64 laid],(.agg #[.int .i64 oW,.slice zI Bg wc',.slice zV lk' yV,.slice zJ Bi yF,.slice ca' Bj cc',.int .u64 laid'])] w (aC w (.tuple #[.int .i64 0,.int .i64 0,.int .i64 y])):=by
 have g1:(y != 0)=true:=by simpa using hy
 clear hy;go_enter Tryz.func131,Tryz.ntmps131
 go_wp2_with fail
 refine (C1.out _ ((br.alloc (Nat.le_refl _) _).alloc ax _)).mono ?_;rintro e w1 ⟨rfl,hb1⟩;have aA:=hb1.size;try simp only [World.size_alloc,World.size_setCell] at aA
 have hh:=jl hb1 (jI (jA (b:=w.heap.size) ax));obtain ⟨eH,fA,eG,eF,eY,eX⟩:=hh;have iC:=aP hb1 (dB (bV (b:=w.heap.size) ax));have hh:=jl hb1 (jA (b:=w.heap.size+1) ax);obtain ⟨aO,aN,aK,aU,aT,aV⟩:=hh;have bF:=aP hb1 (bV (b:=w.heap.size+1) ax);have hB1:Below w.heap.size w w1:=aH;go_wp2
 go_ret3
 exact ⟨rfl,hB1⟩
theorem acx (ai oW laid laid':Int) (wa ka va ca zI zV zJ ca':Option Addr) (wc kc vc cc wc' yV yF cc' lw lk lv lc Bg lk' Bi Bj:Nat) (y:Int) (hy:y≠0) (w:World)
    (C1:Hid (∀W,Below w.heap.size w W->Calls Tryz.prog 95 #[.agg #[.int .i64 ai,.slice wa lw wc,.slice ka lk kc,.slice va lv vc,.slice ca lc cc,.int .u64 laid]] W (aC W (.int .i64 0))))
    (C2:Hid (∀W,Below w.heap.size w W->Calls Tryz.prog 95 #[(.agg #[.int .i64 oW,.slice zI Bg wc',.slice zV lk' yV,.slice zJ Bi yF,.slice ca' Bj cc',.int .u64 laid'])] W (aC W (.int .i64 y)))):
    Calls Tryz.prog 131 #[.agg #[.int .i64 ai,.slice wa lw wc,.slice ka lk kc,.slice va lv vc,.slice ca lc cc,.int .u64 laid],(.agg #[.int .i64 oW,.slice zI Bg wc',.slice zV lk' yV,.slice zJ Bi yF,.slice ca' Bj cc',.int .u64 laid'])] w (aC w (.tuple #[.int .i64 0,.int .i64 0,.int .i64 y])):=by
 have g1:(y != 0)=true:=by simpa using hy
 clear hy;go_enter Tryz.func131,Tryz.ntmps131
 go_wp2_with fail
 refine (C1.out _ ((br.alloc (Nat.le_refl _) _).alloc ax _)).mono ?_;rintro e w1 ⟨rfl,hb1⟩;have aA:=hb1.size;try simp only [World.size_alloc,World.size_setCell] at aA
 have hh:=jl hb1 (jI (jA (b:=w.heap.size) ax));obtain ⟨eH,fA,eG,eF,eY,eX⟩:=hh;have iC:=aP hb1 (dB (bV (b:=w.heap.size) ax));have hh:=jl hb1 (jA (b:=w.heap.size+1) ax);obtain ⟨aO,aN,aK,aU,aT,aV⟩:=hh;have bF:=aP hb1 (bV (b:=w.heap.size+1) ax);have hB1:Below w.heap.size w w1:=aH;go_wp2_with fail
 refine (C2.out _ hB1).mono ?_;rintro e w2 ⟨rfl,hb2⟩;have fH:=hb2.size;simp (disch:=omega) only [jK hb2] at *;replace iC:=aP hb2 iC;replace bF:=aP hb2 bF;have hB2:Below w.heap.size w w2:=aH;go_wp2
 go_ret3
 exact ⟨rfl,hB2⟩
theorem acw (ai oW laid laid':Int) (wa ka va ca zI zV zJ ca':Option Addr) (wc kc vc cc wc' yV yF cc' lw lk lv lc Bg lk' Bi Bj:Nat) (h:ai≠oW\/(ai=oW/\lk≠lk')) (w:World)
    (C1:Hid (∀W,Below w.heap.size w W->Calls Tryz.prog 95 #[.agg #[.int .i64 ai,.slice wa lw wc,.slice ka lk kc,.slice va lv vc,.slice ca lc cc,.int .u64 laid]] W (aC W (.int .i64 0))))
    (C2:Hid (∀W,Below w.heap.size w W->Calls Tryz.prog 95 #[(.agg #[.int .i64 oW,.slice zI Bg wc',.slice zV lk' yV,.slice zJ Bi yF,.slice ca' Bj cc',.int .u64 laid'])] W (aC W (.int .i64 0)))):
    Calls Tryz.prog 131 #[.agg #[.int .i64 ai,.slice wa lw wc,.slice ka lk kc,.slice va lv vc,.slice ca lc cc,.int .u64 laid],(.agg #[.int .i64 oW,.slice zI Bg wc',.slice zV lk' yV,.slice zJ Bi yF,.slice ca' Bj cc',.int .u64 laid'])] w (aC w (.tuple #[.int .i64 0,.int .i64 0,.int .i64 2])):=by
 rcases h with h | ⟨rfl,h⟩
 . have g1:(ai != oW)=true:=by simpa using h
   clear h;go_enter Tryz.func131,Tryz.ntmps131
   go_wp2_with fail
   refine (C1.out _ ((br.alloc (Nat.le_refl _) _).alloc ax _)).mono ?_;rintro e w1 ⟨rfl,hb1⟩;have aA:=hb1.size;try simp only [World.size_alloc,World.size_setCell] at aA
   have hh:=jl hb1 (jI (jA (b:=w.heap.size) ax));obtain ⟨eH,fA,eG,eF,eY,eX⟩:=hh;have iC:=aP hb1 (dB (bV (b:=w.heap.size) ax));have hh:=jl hb1 (jA (b:=w.heap.size+1) ax);obtain ⟨aO,aN,aK,aU,aT,aV⟩:=hh;have bF:=aP hb1 (bV (b:=w.heap.size+1) ax);have hB1:Below w.heap.size w w1:=aH;go_wp2_with fail
   refine (C2.out _ hB1).mono ?_;rintro e w2 ⟨rfl,hb2⟩;have fH:=hb2.size;simp (disch:=omega) only [jK hb2] at *;replace iC:=aP hb2 iC;replace bF:=aP hb2 bF;have hB2:Below w.heap.size w w2:=aH;go_wp2
   go_ret3
   exact ⟨rfl,hB2⟩
 . have g1:(ai != ai)=false:=by simp
   have g2:((lk:Int) != (lk':Int))=true:=by simp;omega
   clear h;go_enter Tryz.func131,Tryz.ntmps131
   go_wp2_with fail
   refine (C1.out _ ((br.alloc (Nat.le_refl _) _).alloc ax _)).mono ?_;rintro e w1 ⟨rfl,hb1⟩;have aA:=hb1.size;try simp only [World.size_alloc,World.size_setCell] at aA
   have hh:=jl hb1 (jI (jA (b:=w.heap.size) ax));obtain ⟨eH,fA,eG,eF,eY,eX⟩:=hh;have iC:=aP hb1 (dB (bV (b:=w.heap.size) ax));have hh:=jl hb1 (jA (b:=w.heap.size+1) ax);obtain ⟨aO,aN,aK,aU,aT,aV⟩:=hh;have bF:=aP hb1 (bV (b:=w.heap.size+1) ax);have hB1:Below w.heap.size w w1:=aH;go_wp2_with fail
   refine (C2.out _ hB1).mono ?_;rintro e w2 ⟨rfl,hb2⟩;have fH:=hb2.size;simp (disch:=omega) only [jK hb2] at *;replace iC:=aP hb2 iC;replace bF:=aP hb2 bF;have hB2:Below w.heap.size w w2:=aH;go_wp2
   go_ret3
   exact ⟨rfl,hB2⟩
theorem Z5 (ai laid laid':Int) (wa ka va ca zI zV zJ ca':Option Addr) (wc kc vc cc wc' yV yF cc' lw lk lv Bg Bi Bj M:Nat) (c d:aW) (S:Nat) (hM:M<=16384) (w:World)
    (C1:Hid (∀W,Below w.heap.size w W->Calls Tryz.prog 95 #[.agg #[.int .i64 ai,.slice wa lw wc,.slice ka lk kc,.slice va lv vc,.slice ca M cc,.int .u64 laid]] W (aC W (.int .i64 0))))
    (C2:Hid (∀W,Below w.heap.size w W->Calls Tryz.prog 95 #[(.agg #[.int .i64 ai,.slice zI Bg wc',.slice zV lk yV,.slice zJ Bi yF,.slice ca' Bj cc',.int .u64 laid'])] W (aC W (.int .i64 0))))
    (AL:Hid (∀k W,k<M->Below w.heap.size w W->Calls Tryz.prog 187 #[.agg #[.int .i64 ai,.slice wa lw wc,.slice ka lk kc,.slice va lv vc,.slice ca M cc,.int .u64 laid],(.agg #[.int .i64 ai,.slice zI Bg wc',.slice zV lk yV,.slice zJ Bi yF,.slice ca' Bj cc',.int .u64 laid']),.int .i64 (k:Nat)] W (aC W (.bool (oV c d S k))))):
    Calls Tryz.prog 131 #[.agg #[.int .i64 ai,.slice wa lw wc,.slice ka lk kc,.slice va lv vc,.slice ca M cc,.int .u64 laid],(.agg #[.int .i64 ai,.slice zI Bg wc',.slice zV lk yV,.slice zJ Bi yF,.slice ca' Bj cc',.int .u64 laid'])] w (aC w (.tuple #[.int .i64 (Ui c d S M:Nat),.int .i64 (QS c d S M:Nat),.int .i64 0])):=by
 have g1:(ai != ai)=false:=by simp
 have g2:((lk:Int) != (lk:Int))=false:=by simp
 obtain ⟨X,hX⟩:∃X,Ui c d S M=X:=⟨_,rfl⟩
 obtain ⟨Y,hY⟩:∃Y,QS c d S M=Y:=⟨_,rfl⟩
 have HX:=hid (And.intro hX hY);rw [hX,hY];clear hX hY;go_enter Tryz.func131,Tryz.ntmps131
 go_wp2_with fail
 refine (C1.out _ ((br.alloc (Nat.le_refl _) _).alloc ax _)).mono ?_;rintro e w1 ⟨rfl,hb1⟩;have aA:=hb1.size;try simp only [World.size_alloc,World.size_setCell] at aA
 have hh:=jl hb1 (jI (jA (b:=w.heap.size) ax));obtain ⟨eH,fA,eG,eF,eY,eX⟩:=hh;have iC:=aP hb1 (dB (bV (b:=w.heap.size) ax));have hh:=jl hb1 (jA (b:=w.heap.size+1) ax);obtain ⟨aO,aN,aK,aU,aT,aV⟩:=hh;have bF:=aP hb1 (bV (b:=w.heap.size+1) ax);have hB1:Below w.heap.size w w1:=aH;go_wp2_with fail
 refine (C2.out _ hB1).mono ?_;rintro e w2 ⟨rfl,hb2⟩;have fH:=hb2.size;simp (disch:=omega) only [jK hb2] at eH fA eG eF eY eX aO aN aK aU aT aV;replace iC:=aP hb2 iC;replace bF:=aP hb2 bF;have hB2:Below w.heap.size w w2:=aH;have HB2:=hid hB2;clear hb1 hb2 C1 C2;go_wp2
 go_quiet (fail)
 have hzq:w2.heap.size<=(w2.drewN nq).heap.size:=Nat.le_refl _;have IQ:Hid (Below w2.heap.size w2 (w2.drewN nq)):=hid (below_drewN br _);generalize w2.drewN nq=wz at *;have ahg:=IQ.out.size;simp (disch:=omega) only [jK IQ.out] at eH fA eG eF eY eX aO aN aK aU aT aV;replace iC:=aP IQ.out iC;replace bF:=aP IQ.out bF;have HBZ:Hid (Below w.heap.size w wz):=hid (aj IQ.out HB2.out xo);go_wp2
 go_loopg [4] M (fun gk iv wr=>∃i:Nat,i+gk=M/\iv= .int .i64 i/\Hid (Below wz.heap.size wz wr)/\Hid (∀j,j<i->oV c d S j=true))
 case atStart=>exact ⟨0,by omega,rfl,hid br,hid fun j h=>by omega⟩
 case round=>
  obtain ⟨i,hi,rfl,HBr,HI⟩:=hrel;have G9:=HBr.out.size;have EW:=HBr.out.size;simp (disch:=omega) only [jK HBr.out] at eH fA eG eF eY eX aO aN aK aU aT aV;replace iC:=aP HBr.out iC;replace bF:=aP HBr.out bF;have hBr:Below w.heap.size w wr:=aj HBr.out HBZ.out xo;have HII:=hid hi;have hiM:i<=M:=xo;clear hi;by_cases hgo:i<M/\oV c d S i=true
  . obtain ⟨hlt,hal⟩:=hgo;have A1:=hid (AL.out i wr hlt hBr);rw [hal] at A1;have XH:=hid hal;clear hal;go_wp2_with fail
    refine A1.out.mono ?_;rintro e w5 ⟨rfl,hb5⟩;have xB:=hid (HBr.out.trans (hb5.mono G9));clear hb5;go_wp2
    go_roundg (gk-1)
    case measure=>have:=HII.out;omega
    case rel=>exact ⟨i+1,by have:=HII.out;omega,by go_num,xB,hid fun j hj=>by
     by_cases e:j=i
     . subst e;exact XH.out
     . exact HI.out j xo⟩
  . have HFU:Hid (qE c d S M=i):=hid (WE HI.out hiM fun hlt=>by
      rw [Bool.eq_false_iff];exact fun e=>hgo ⟨hlt,e⟩)
    -- out of the first loop
    have rest:∀W,Below wr.heap.size wr W->Hid (Below w.heap.size w W):=fun W hb=>hid (aj hb hBr hBr.size)
    by_cases hlt:i<M
    . have hal:oV c d S i=false:=by
        rw [Bool.eq_false_iff];exact fun e=>hgo ⟨hlt,e⟩
      have A1:=hid (AL.out i wr hlt hBr);rw [hal] at A1;have XH:=hid hal;clear hal hgo;go_wp2_with fail
      refine A1.out.mono ?_;rintro e w5 ⟨rfl,hb5⟩;have x8:=hb5.size;simp (disch:=omega) only [jK hb5] at eH fA eG eF eY eX aO aN aK aU aT aV;replace iC:=aP hb5 iC;replace bF:=aP hb5 bF;have xB:=rest w5 hb5;clear hb5 rest;go_wp2
      go_loopg [5] (M-i) (fun gk tv wq=>∃t:Nat,i+gk=t/\i<t/\t<=M/\tv= .int .i64 t/\Hid (Below w5.heap.size w5 wq)/\Hid (∀k,t<=k->k<M->oV c d S k=true))
      case atStart=>exact ⟨M,by omega,hlt,Nat.le_refl _,rfl,hid br,hid fun k h1 h2=>by omega⟩
      case round=>
       obtain ⟨t,ht,hit,htM,rfl,HBq,HT⟩:=hrel;have afv:=HBq.out.size;have EW:=HBq.out.size;simp (disch:=omega) only [jK HBq.out] at eH fA eG eF eY eX aO aN aK aU aT aV;replace iC:=aP HBq.out iC;replace bF:=aP HBq.out bF;have Ei:Below w.heap.size w wr:=aj HBq.out xB.out xB.out.size;have HTT:=hid ht;obtain ⟨t',rfl⟩:∃t',t=t'+1:=⟨t-1,by omega⟩
       have A2:=hid (AL.out t' wr xo Ei);clear ht;by_cases ha2:oV c d S t'=true
       . have hne:t'≠i:=by
           intro e;rw [e,XH.out] at ha2;cases ha2
         rw [ha2] at A2;have HA2:=hid ha2;clear ha2;go_wp2_with fail
         refine A2.out.mono ?_;rintro e w6 ⟨rfl,hb6⟩;have IR:=hid (HBq.out.trans (hb6.mono afv));clear hb6;go_wp2
         go_roundg (gk-1)
         case measure=>have:=HTT.out;omega
         case rel=>exact ⟨t',by have:=HTT.out;omega,by omega,by omega,by go_num,IR,hid fun k k1 k2=>by
          by_cases e:k=t'
          . subst e;exact HA2.out
          . exact HT.out k xo k2⟩
       . have ha3:oV c d S t'=false:=by simpa using ha2
         rw [ha3] at A2;have HE:Hid (X=i/\Y=t'+1):=hid (by
          obtain ⟨e1,e2⟩:=HX.out;have hne:¬qE c d S M=M:=by rw [HFU.out];omega
          rw [<-e1,<-e2,Ui,QS,if_neg hne,if_neg hne,HFU.out,aa6 htM HT.out,XM,if_neg ha2];exact ⟨rfl,rfl⟩)
         clear ha2 ha3;go_wp2_with fail
         refine A2.out.mono ?_;rintro e w6 ⟨rfl,hb6⟩;have hB6:Below w.heap.size w w6:=aj hb6 Ei Ei.size;have hne2:((i:Int)==(t':Int)+1)=false:=by simp;omega
         go_wp2
         go_ret3
         rw [HE.out.1,HE.out.2];exact ⟨by push_cast;rfl,hB6⟩
    . have afX:i=M:=xo;have HE:Hid (X=0/\Y=0):=hid (by
       obtain ⟨e1,e2⟩:=HX.out;have he:qE c d S M=M:=by rw [HFU.out,afX]
       rw [<-e1,<-e2,Ui,QS,if_pos he,if_pos he];exact ⟨rfl,rfl⟩)
      have g9:((i:Int)==(M:Int))=true:=by simp;omega
      clear hgo rest;go_wp2
      go_loopg [5] 0 (fun gk tv wq=>tv= .int .i64 (M:Nat)/\Hid (Below wr.heap.size wr wq))
      case atStart=>exact ⟨rfl,hid br⟩
      case round=>
       obtain ⟨rfl,HBq⟩:=hrel;have Ei:=aj HBq.out hBr hBr.size;go_wp2
       go_ret3
       rw [HE.out.1,HE.out.2];exact ⟨rfl,Ei⟩
def XL (c d:aW):Int×Int×Int:=if OW c d=0 then ((Ui c d c.ai.toNat c.cs.length:Nat),(QS c d c.ai.toNat c.cs.length:Nat),0) else (0,0,OW c d)
theorem TM (c d:aW) (a b:jJ) (hl:c.ws.length<=9223372036854775807) (hl2:c.ks.length<=1000000000000) (hl':d.ws.length<=9223372036854775807) (V9:d.ks.length<=1000000000000) (w:World) (hc:iy w c a) (hd:iy w d b)
    (q1:c.ks.length<=a.kc) (q2:c.vs.length<=a.vc) (q3:d.ks.length<=b.kc) (q4:d.vs.length<=b.vc):
    Calls Tryz.prog 131 #[jB c a,jB d b] w (aC w (.tuple #[.int .i64 (XL c d).1,.int .i64 (XL c d).2.1,.int .i64 (XL c d).2.2])):=by
 have C1:=hid (fun W (hb:Below w.heap.size w W)=>lV c a hl hl2 W (hc.below hb));have C2:=hid (fun W (hb:Below w.heap.size w W)=>lV d b hl' V9 W (hd.below hb));by_cases h1:fV c=true
 . rw [show A8 c=0 from if_pos h1] at C1;by_cases h2:fV d=true
   . rw [show A8 d=0 from if_pos h2] at C2;by_cases h3:c.ai=d.ai/\c.ks.length=d.ks.length
     . have e:OW c d=0:=by rw [OW,if_pos h1,if_pos h2,if_pos h3]
       obtain ⟨S,M,hS,h4,h64,hks,hvs,hcs,-,hSM,hM8,hws,-⟩:=dW (kL h1);obtain ⟨S',M',hS',h4',-,Y3,hvs',hcs',-,-,-,afF,-⟩:=dW (kL h2);have hSS:S'=S:=xo;subst hSS;have hMM:M'=M:=by
        have:S'*M'=S'*M:=xo;exact Nat.eq_of_mul_eq_mul_left xo this
       subst hMM;have AL:=hid (fun k W (hk:k<M') (hb:Below w.heap.size w W)=>Xj S' M' k c d a b W (hc.below hb) (hd.below hb) h4 h64 hSM hS hS' hks Y3 hvs hvs' hws afF xo xo xo xo hk);have hS2:c.ai.toNat=S':=xo;rw [XL,if_pos e,hS2,hcs];obtain ⟨ai,ws,ks,vs,cs,laid⟩:=c;obtain ⟨wa,ka,va,ca,wc,kc,vc,cc⟩:=a;obtain ⟨oW,ws',ks',vs',cs',laid'⟩:=d;obtain ⟨zI,zV,zJ,ca',wc',yV,yF,cc'⟩:=b;dsimp only [jB] at *;obtain ⟨e1,e2⟩:=h3;subst e1;rw [<-e2] at C2 AL ⊢;rw [hcs] at C1 AL ⊢;exact Z5 _ _ _ _ _ _ _ _ _ _ _ _ _ _ _ _ _ _ _ _ _ _ _ _ _ M' _ _ S' hM8 w C1 C2 AL
     . have e:OW c d=2:=by rw [OW,if_pos h1,if_pos h2,if_neg h3]
       rw [XL,e,if_neg au];exact acw _ _ _ _ _ _ _ _ _ _ _ _ _ _ _ _ _ _ _ _ _ _ _ _ _ _ _ _ (by
        by_cases h:c.ai=d.ai
        . exact .inr ⟨h,fun h'=>h3 ⟨h,h'⟩⟩
        . exact .inl h) w C1 C2
   . rw [show A8 d=8 from if_neg h2] at C2;have e:OW c d=8:=by rw [OW,if_pos h1,if_neg h2]
     rw [XL,e,if_neg au];exact acx _ _ _ _ _ _ _ _ _ _ _ _ _ _ _ _ _ _ _ _ _ _ _ _ _ _ _ _ 8 au w C1 C2
 . rw [show A8 c=8 from if_neg h1] at C1;have e:OW c d=8:=by rw [OW,if_neg h1]
   rw [XL,e,if_neg au];exact acy _ _ _ _ _ _ _ _ _ _ _ _ _ _ _ _ _ _ _ _ _ _ _ _ _ _ _ _ 8 _ au w C1 C2
theorem acS (l ai oW laid laid':Int) (ma pY wa ka va ca zI zV zJ ca':Option Addr) (mc qK n1 n2 wc kc vc cc wc' yV yF cc' lw lk lv lc Bg lk' Bi Bj:Nat) (bL:Int) (bm bc:List Int) (y:Int) (hy:y≠0) (w:World)
    (BI:Hid (∀W,Below w.heap.size w W->Calls Tryz.prog 44 #[.agg #[.int .i64 oW,.slice zI Bg wc',.slice zV lk' yV,.slice zJ Bi yF,.slice ca' Bj cc',.int .u64 laid']] W (dY W bL bm bc (.int .i64 y)))):
    Calls Tryz.prog 72 #[um l ma n1 mc pY n2 qK,.agg #[.int .i64 ai,.slice wa lw wc,.slice ka lk kc,.slice va lv vc,.slice ca lc cc,.int .u64 laid],.agg #[.int .i64 oW,.slice zI Bg wc',.slice zV lk' yV,.slice zJ Bi yF,.slice ca' Bj cc',.int .u64 laid']] w (dY w 0 [] [] (.int .i64 y)):=by
 have g1:(y != 0)=true:=by simpa using hy
 clear hy;go_enter Tryz.func72,Tryz.ntmps72
 go_wp2_with fail
 refine (BI.out _ aH).mono ?_;rintro e w1 ⟨v,u,rfl,o1,o2,hb1⟩;have aA:=hb1.size;try simp only [World.size_alloc,World.size_setCell] at aA
 have hh:=bc3 hb1 (rU (rU (rU (uu (b:=w.heap.size) ax))));obtain ⟨jy,jw,jH⟩:=hh;have qh:=aP hb1 (dB (dB (dB (bV (b:=w.heap.size) ax))));have hh:=jl hb1 (jI (jI (jA (b:=w.heap.size+1) ax)));obtain ⟨eH,fA,eG,eF,eY,eX⟩:=hh;have iC:=aP hb1 (dB (dB (bV (b:=w.heap.size+1) ax)));have hh:=jl hb1 (jI (jA (b:=w.heap.size+1+1) ax));obtain ⟨aO,aN,aK,aU,aT,aV⟩:=hh;have bF:=aP hb1 (dB (bV (b:=w.heap.size+1+1) ax));have hh:=bc3 hb1 (uu (b:=w.heap.size+1+1+1) ax);obtain ⟨a_,aZ,bf⟩:=hh;have hh:=FW hb1 (bV (b:=w.heap.size+1+1+1) ax) (xx (b:=w.heap.size+1+1+1) ax);obtain ⟨bQ,bP,bT⟩:=hh;have bW:=aP hb1 (bV (b:=w.heap.size+1+1+1) ax);have hB1:Below w.heap.size w w1:=aH;have hz1:=hb1.size;simp only [World.size_alloc] at hz1;obtain ⟨BK,BJ,rfl,-⟩:=aG o1;obtain ⟨BR,BQ,rfl,-⟩:=aG o2;clear o1 o2 hb1;go_wp2
 have hsw:=gq (w2:=w1) (b:=w.heap.size+1+1+1) (x:= .int .i64 0) (y:= .slice none 0 0) (z:= .slice none 0 0) a_ aZ bf;have hs7:((((w1.setCell ⟨w.heap.size+1+1+1,0,none⟩ (.int .i64 0)).setCell ⟨w.heap.size+1+1+1,1,none⟩ (.slice none 0 0)).setCell ⟨w.heap.size+1+1+1,2,none⟩ (.slice none 0 0))).heap.size=w1.heap.size:=by simp only [World.size_setCell]
 have hB7:Below w.heap.size w ((((w1.setCell ⟨w.heap.size+1+1+1,0,none⟩ (.int .i64 0)).setCell ⟨w.heap.size+1+1+1,1,none⟩ (.slice none 0 0)).setCell ⟨w.heap.size+1+1+1,2,none⟩ (.slice none 0 0))):=((hB1.setCell dG _).setCell dG _).setCell dG _;generalize ((((w1.setCell ⟨w.heap.size+1+1+1,0,none⟩ (.int .i64 0)).setCell ⟨w.heap.size+1+1+1,1,none⟩ (.slice none 0 0)).setCell ⟨w.heap.size+1+1+1,2,none⟩ (.slice none 0 0)))=w7 at *;have hal:Below w7.heap.size w7 (w7.alloc (.cells #[.int .i64 bL,.slice BK bm.length BJ,.slice BR bc.length BQ] 33)):=(Below.refl _ w7).alloc (Nat.le_refl _) _;refine bodyPost_ret (aF rfl rfl (ag _ Tryz.underlying33 rfl xk (g_ ((hal.cell dG).trans hsw.1) ((hal.cell dG).trans hsw.2.1) ((hal.cell dG).trans hsw.2.2)))) rfl ⟨_,_,rfl,World.ownsRow_nil _ _ _ _,World.ownsRow_nil _ _ _ _,?_⟩;exact hB7.alloc xo _
theorem Ue (l ai oW laid laid':Int) (ma pY wa ka va ca zI zV zJ ca':Option Addr) (mc qK n1 n2 wc kc vc cc wc' yV yF cc' lw lk lv lc Bg lk' Bi Bj:Nat) (bL:Int) (bm bc:List Int) (p q e1 f1:Int) (i1:Bool) (h:e1≠0\/(e1=0/\f1≠0)\/(e1=0/\f1=0/\i1=false)) (w:World)
    (BI:Hid (∀W,Below w.heap.size w W->Calls Tryz.prog 44 #[.agg #[.int .i64 oW,.slice zI Bg wc',.slice zV lk' yV,.slice zJ Bi yF,.slice ca' Bj cc',.int .u64 laid']] W (dY W bL bm bc (.int .i64 0))))
    (TU:Hid (∀W,Below w.heap.size w W->Calls Tryz.prog 131 #[.agg #[.int .i64 ai,.slice wa lw wc,.slice ka lk kc,.slice va lv vc,.slice ca lc cc,.int .u64 laid],.agg #[.int .i64 oW,.slice zI Bg wc',.slice zV lk' yV,.slice zJ Bi yF,.slice ca' Bj cc',.int .u64 laid']] W (aC W (.tuple #[.int .i64 p,.int .i64 q,.int .i64 e1]))))
    (OF:Hid (∀W,Below w.heap.size w W->Calls Tryz.prog 62 #[um l ma n1 mc pY n2 qK,.agg #[.int .i64 ai,.slice wa lw wc,.slice ka lk kc,.slice va lv vc,.slice ca lc cc,.int .u64 laid]] W (aC W (.tuple #[.bool i1,.int .i64 f1])))):
    Calls Tryz.prog 72 #[um l ma n1 mc pY n2 qK,.agg #[.int .i64 ai,.slice wa lw wc,.slice ka lk kc,.slice va lv vc,.slice ca lc cc,.int .u64 laid],.agg #[.int .i64 oW,.slice zI Bg wc',.slice zV lk' yV,.slice zJ Bi yF,.slice ca' Bj cc',.int .u64 laid']] w (dY w bL bm bc (.int .i64 0)):=by
 rcases h with h | ⟨rfl,h⟩ | ⟨rfl,rfl,rfl⟩
 . have g1:(e1 != 0)=true:=by simpa using h
   clear h;go_enter Tryz.func72,Tryz.ntmps72
   go_wp2_with fail
   refine (BI.out _ aH).mono ?_;rintro e w1 ⟨v,u,rfl,o1,o2,hb1⟩;have aA:=hb1.size;try simp only [World.size_alloc,World.size_setCell] at aA
   have hh:=bc3 hb1 (rU (rU (rU (uu (b:=w.heap.size) ax))));obtain ⟨jy,jw,jH⟩:=hh;have qh:=aP hb1 (dB (dB (dB (bV (b:=w.heap.size) ax))));have hh:=jl hb1 (jI (jI (jA (b:=w.heap.size+1) ax)));obtain ⟨eH,fA,eG,eF,eY,eX⟩:=hh;have iC:=aP hb1 (dB (dB (bV (b:=w.heap.size+1) ax)));have hh:=jl hb1 (jI (jA (b:=w.heap.size+1+1) ax));obtain ⟨aO,aN,aK,aU,aT,aV⟩:=hh;have bF:=aP hb1 (dB (bV (b:=w.heap.size+1+1) ax));have hh:=bc3 hb1 (uu (b:=w.heap.size+1+1+1) ax);obtain ⟨a_,aZ,bf⟩:=hh;have hh:=FW hb1 (bV (b:=w.heap.size+1+1+1) ax) (xx (b:=w.heap.size+1+1+1) ax);obtain ⟨bQ,bP,bT⟩:=hh;have bW:=aP hb1 (bV (b:=w.heap.size+1+1+1) ax);have hB1:Below w.heap.size w w1:=aH;have hz1:=hb1.size;simp only [World.size_alloc] at hz1;obtain ⟨BK,BJ,rfl,-⟩:=aG o1;obtain ⟨BR,BQ,rfl,-⟩:=aG o2;have O1:=hid o1;have O2:=hid o2;clear o1 o2 hb1;have hx:Below w1.heap.size w1 (w1.alloc (.cells #[.int .i64 bL,.slice BK bm.length BJ,.slice BR bc.length BQ] 33)):=br.alloc (Nat.le_refl _) _;go_wp2_with fail
   refine (TU.out _ aH).mono ?_;rintro e w2 ⟨rfl,hb2⟩;have fH:=hb2.size;try simp only [World.size_alloc,World.size_setCell] at fH
   have hh:=bc3 hb2 (rU (⟨jy,jw,jH⟩));clear jy jw jH;obtain ⟨jy,jw,jH⟩:=hh;replace qh:=aP hb2 (dB (qh));have hh:=jl hb2 (jI (⟨eH,fA,eG,eF,eY,eX⟩));clear eH fA eG eF eY eX;obtain ⟨eH,fA,eG,eF,eY,eX⟩:=hh;replace iC:=aP hb2 (dB (iC));have hh:=jl hb2 (jI (⟨aO,aN,aK,aU,aT,aV⟩));clear aO aN aK aU aT aV;obtain ⟨aO,aN,aK,aU,aT,aV⟩:=hh;replace bF:=aP hb2 (dB (bF));have hh:=bc3 hb2 (rU (⟨a_,aZ,bf⟩));clear a_ aZ bf;obtain ⟨a_,aZ,bf⟩:=hh;have hh:=FW hb2 (dB (bW)) (ZT bW ⟨bQ,bP,bT⟩);clear bQ bP bT;obtain ⟨bQ,bP,bT⟩:=hh;replace bW:=aP hb2 (dB (bW));have hh:=bc3 hb2 (uu (b:=w1.heap.size) ax);obtain ⟨aco,acn,acm⟩:=hh;have QL:=aP hb2 (bV (b:=w1.heap.size) ax);have h2:Below w1.heap.size w1 w2:=aj hb2 hx ax;have hB2:Below w.heap.size w w2:=aj h2 hB1 xo;go_wp2_with fail
   refine (OF.out _ hB2).mono ?_;rintro e w3 ⟨rfl,hb3⟩;have kD:=hb3.size;simp (disch:=omega) only [jK hb3,rX hb3] at *;replace qh:=aP hb3 qh;replace iC:=aP hb3 iC;replace bF:=aP hb3 bF;replace bW:=aP hb3 bW;replace QL:=aP hb3 QL;have h3:Below w1.heap.size w1 w3:=aj hb3 h2 xo;have hB3:Below w.heap.size w w3:=aj h3 hB1 xo;clear hb2 hb3 hx h2 hB2;go_wp2
   have o1:=ay O1.out h3;have o2:=ay O2.out h3;simp only [World.size_alloc] at o1 o2;have hsw:=gq (w2:=w3) (b:=w.heap.size+1+1+1) (x:= .int .i64 bL) (y:= .slice BK bm.length BJ) (z:= .slice BR bc.length BQ) a_ aZ bf;have rJ:∀q,q≠w.heap.size+1+1+1->((((w3.setCell ⟨w.heap.size+1+1+1,0,none⟩ (.int .i64 bL)).setCell ⟨w.heap.size+1+1+1,1,none⟩ (.slice BK bm.length BJ)).setCell ⟨w.heap.size+1+1+1,2,none⟩ (.slice BR bc.length BQ))).heap[q]? =w3.heap[q]? :=fun q hq=>by rw [ae _ _ _ hq,ae _ _ _ hq,ae _ _ _ hq]
   refine bodyPost_ret (aF rfl rfl (ag _ Tryz.underlying33 rfl xk (g_ hsw.1 hsw.2.1 hsw.2.2))) rfl ⟨_,_,rfl,?_,?_,?_⟩
   . exact az (af o1 fun q hq=>rJ q (by have:=(o1).lt q hq;omega)) xo
   . exact az (af o2 fun q hq=>rJ q (by have:=(o2).lt q hq;omega)) xo
   . exact ((hB3.setCell dG _).setCell dG _).setCell dG _
 . have g1:(f1 != 0)=true:=by simpa using h
   clear h;go_enter Tryz.func72,Tryz.ntmps72
   go_wp2_with fail
   refine (BI.out _ aH).mono ?_;rintro e w1 ⟨v,u,rfl,o1,o2,hb1⟩;have aA:=hb1.size;try simp only [World.size_alloc,World.size_setCell] at aA
   have hh:=bc3 hb1 (rU (rU (rU (uu (b:=w.heap.size) ax))));obtain ⟨jy,jw,jH⟩:=hh;have qh:=aP hb1 (dB (dB (dB (bV (b:=w.heap.size) ax))));have hh:=jl hb1 (jI (jI (jA (b:=w.heap.size+1) ax)));obtain ⟨eH,fA,eG,eF,eY,eX⟩:=hh;have iC:=aP hb1 (dB (dB (bV (b:=w.heap.size+1) ax)));have hh:=jl hb1 (jI (jA (b:=w.heap.size+1+1) ax));obtain ⟨aO,aN,aK,aU,aT,aV⟩:=hh;have bF:=aP hb1 (dB (bV (b:=w.heap.size+1+1) ax));have hh:=bc3 hb1 (uu (b:=w.heap.size+1+1+1) ax);obtain ⟨a_,aZ,bf⟩:=hh;have hh:=FW hb1 (bV (b:=w.heap.size+1+1+1) ax) (xx (b:=w.heap.size+1+1+1) ax);obtain ⟨bQ,bP,bT⟩:=hh;have bW:=aP hb1 (bV (b:=w.heap.size+1+1+1) ax);have hB1:Below w.heap.size w w1:=aH;have hz1:=hb1.size;simp only [World.size_alloc] at hz1;obtain ⟨BK,BJ,rfl,-⟩:=aG o1;obtain ⟨BR,BQ,rfl,-⟩:=aG o2;have O1:=hid o1;have O2:=hid o2;clear o1 o2 hb1;have hx:Below w1.heap.size w1 (w1.alloc (.cells #[.int .i64 bL,.slice BK bm.length BJ,.slice BR bc.length BQ] 33)):=br.alloc (Nat.le_refl _) _;go_wp2_with fail
   refine (TU.out _ aH).mono ?_;rintro e w2 ⟨rfl,hb2⟩;have fH:=hb2.size;try simp only [World.size_alloc,World.size_setCell] at fH
   have hh:=bc3 hb2 (rU (⟨jy,jw,jH⟩));clear jy jw jH;obtain ⟨jy,jw,jH⟩:=hh;replace qh:=aP hb2 (dB (qh));have hh:=jl hb2 (jI (⟨eH,fA,eG,eF,eY,eX⟩));clear eH fA eG eF eY eX;obtain ⟨eH,fA,eG,eF,eY,eX⟩:=hh;replace iC:=aP hb2 (dB (iC));have hh:=jl hb2 (jI (⟨aO,aN,aK,aU,aT,aV⟩));clear aO aN aK aU aT aV;obtain ⟨aO,aN,aK,aU,aT,aV⟩:=hh;replace bF:=aP hb2 (dB (bF));have hh:=bc3 hb2 (rU (⟨a_,aZ,bf⟩));clear a_ aZ bf;obtain ⟨a_,aZ,bf⟩:=hh;have hh:=FW hb2 (dB (bW)) (ZT bW ⟨bQ,bP,bT⟩);clear bQ bP bT;obtain ⟨bQ,bP,bT⟩:=hh;replace bW:=aP hb2 (dB (bW));have hh:=bc3 hb2 (uu (b:=w1.heap.size) ax);obtain ⟨aco,acn,acm⟩:=hh;have QL:=aP hb2 (bV (b:=w1.heap.size) ax);have h2:Below w1.heap.size w1 w2:=aj hb2 hx ax;have hB2:Below w.heap.size w w2:=aj h2 hB1 xo;go_wp2_with fail
   refine (OF.out _ hB2).mono ?_;rintro e w3 ⟨rfl,hb3⟩;have kD:=hb3.size;simp (disch:=omega) only [jK hb3,rX hb3] at *;replace qh:=aP hb3 qh;replace iC:=aP hb3 iC;replace bF:=aP hb3 bF;replace bW:=aP hb3 bW;replace QL:=aP hb3 QL;have h3:Below w1.heap.size w1 w3:=aj hb3 h2 xo;have hB3:Below w.heap.size w w3:=aj h3 hB1 xo;clear hb2 hb3 hx h2 hB2;go_wp2
   have o1:=ay O1.out h3;have o2:=ay O2.out h3;simp only [World.size_alloc] at o1 o2;have hsw:=gq (w2:=w3) (b:=w.heap.size+1+1+1) (x:= .int .i64 bL) (y:= .slice BK bm.length BJ) (z:= .slice BR bc.length BQ) a_ aZ bf;have rJ:∀q,q≠w.heap.size+1+1+1->((((w3.setCell ⟨w.heap.size+1+1+1,0,none⟩ (.int .i64 bL)).setCell ⟨w.heap.size+1+1+1,1,none⟩ (.slice BK bm.length BJ)).setCell ⟨w.heap.size+1+1+1,2,none⟩ (.slice BR bc.length BQ))).heap[q]? =w3.heap[q]? :=fun q hq=>by rw [ae _ _ _ hq,ae _ _ _ hq,ae _ _ _ hq]
   refine bodyPost_ret (aF rfl rfl (ag _ Tryz.underlying33 rfl xk (g_ hsw.1 hsw.2.1 hsw.2.2))) rfl ⟨_,_,rfl,?_,?_,?_⟩
   . exact az (af o1 fun q hq=>rJ q (by have:=(o1).lt q hq;omega)) xo
   . exact az (af o2 fun q hq=>rJ q (by have:=(o2).lt q hq;omega)) xo
   . exact ((hB3.setCell dG _).setCell dG _).setCell dG _
 . go_enter Tryz.func72,Tryz.ntmps72
   go_wp2_with fail
   refine (BI.out _ aH).mono ?_;rintro e w1 ⟨v,u,rfl,o1,o2,hb1⟩;have aA:=hb1.size;try simp only [World.size_alloc,World.size_setCell] at aA
   have hh:=bc3 hb1 (rU (rU (rU (uu (b:=w.heap.size) ax))));obtain ⟨jy,jw,jH⟩:=hh;have qh:=aP hb1 (dB (dB (dB (bV (b:=w.heap.size) ax))));have hh:=jl hb1 (jI (jI (jA (b:=w.heap.size+1) ax)));obtain ⟨eH,fA,eG,eF,eY,eX⟩:=hh;have iC:=aP hb1 (dB (dB (bV (b:=w.heap.size+1) ax)));have hh:=jl hb1 (jI (jA (b:=w.heap.size+1+1) ax));obtain ⟨aO,aN,aK,aU,aT,aV⟩:=hh;have bF:=aP hb1 (dB (bV (b:=w.heap.size+1+1) ax));have hh:=bc3 hb1 (uu (b:=w.heap.size+1+1+1) ax);obtain ⟨a_,aZ,bf⟩:=hh;have hh:=FW hb1 (bV (b:=w.heap.size+1+1+1) ax) (xx (b:=w.heap.size+1+1+1) ax);obtain ⟨bQ,bP,bT⟩:=hh;have bW:=aP hb1 (bV (b:=w.heap.size+1+1+1) ax);have hB1:Below w.heap.size w w1:=aH;have hz1:=hb1.size;simp only [World.size_alloc] at hz1;obtain ⟨BK,BJ,rfl,-⟩:=aG o1;obtain ⟨BR,BQ,rfl,-⟩:=aG o2;have O1:=hid o1;have O2:=hid o2;clear o1 o2 hb1;have hx:Below w1.heap.size w1 (w1.alloc (.cells #[.int .i64 bL,.slice BK bm.length BJ,.slice BR bc.length BQ] 33)):=br.alloc (Nat.le_refl _) _;go_wp2_with fail
   refine (TU.out _ aH).mono ?_;rintro e w2 ⟨rfl,hb2⟩;have fH:=hb2.size;try simp only [World.size_alloc,World.size_setCell] at fH
   have hh:=bc3 hb2 (rU (⟨jy,jw,jH⟩));clear jy jw jH;obtain ⟨jy,jw,jH⟩:=hh;replace qh:=aP hb2 (dB (qh));have hh:=jl hb2 (jI (⟨eH,fA,eG,eF,eY,eX⟩));clear eH fA eG eF eY eX;obtain ⟨eH,fA,eG,eF,eY,eX⟩:=hh;replace iC:=aP hb2 (dB (iC));have hh:=jl hb2 (jI (⟨aO,aN,aK,aU,aT,aV⟩));clear aO aN aK aU aT aV;obtain ⟨aO,aN,aK,aU,aT,aV⟩:=hh;replace bF:=aP hb2 (dB (bF));have hh:=bc3 hb2 (rU (⟨a_,aZ,bf⟩));clear a_ aZ bf;obtain ⟨a_,aZ,bf⟩:=hh;have hh:=FW hb2 (dB (bW)) (ZT bW ⟨bQ,bP,bT⟩);clear bQ bP bT;obtain ⟨bQ,bP,bT⟩:=hh;replace bW:=aP hb2 (dB (bW));have hh:=bc3 hb2 (uu (b:=w1.heap.size) ax);obtain ⟨aco,acn,acm⟩:=hh;have QL:=aP hb2 (bV (b:=w1.heap.size) ax);have h2:Below w1.heap.size w1 w2:=aj hb2 hx ax;have hB2:Below w.heap.size w w2:=aj h2 hB1 xo;go_wp2_with fail
   refine (OF.out _ hB2).mono ?_;rintro e w3 ⟨rfl,hb3⟩;have kD:=hb3.size;simp (disch:=omega) only [jK hb3,rX hb3] at *;replace qh:=aP hb3 qh;replace iC:=aP hb3 iC;replace bF:=aP hb3 bF;replace bW:=aP hb3 bW;replace QL:=aP hb3 QL;have h3:Below w1.heap.size w1 w3:=aj hb3 h2 xo;have hB3:Below w.heap.size w w3:=aj h3 hB1 xo;clear hb2 hb3 hx h2 hB2;go_wp2
   have o1:=ay O1.out h3;have o2:=ay O2.out h3;simp only [World.size_alloc] at o1 o2;have hsw:=gq (w2:=w3) (b:=w.heap.size+1+1+1) (x:= .int .i64 bL) (y:= .slice BK bm.length BJ) (z:= .slice BR bc.length BQ) a_ aZ bf;have rJ:∀q,q≠w.heap.size+1+1+1->((((w3.setCell ⟨w.heap.size+1+1+1,0,none⟩ (.int .i64 bL)).setCell ⟨w.heap.size+1+1+1,1,none⟩ (.slice BK bm.length BJ)).setCell ⟨w.heap.size+1+1+1,2,none⟩ (.slice BR bc.length BQ))).heap[q]? =w3.heap[q]? :=fun q hq=>by rw [ae _ _ _ hq,ae _ _ _ hq,ae _ _ _ hq]
   refine bodyPost_ret (aF rfl rfl (ag _ Tryz.underlying33 rfl xk (g_ hsw.1 hsw.2.1 hsw.2.2))) rfl ⟨_,_,rfl,?_,?_,?_⟩
   . exact az (af o1 fun q hq=>rJ q (by have:=(o1).lt q hq;omega)) xo
   . exact az (af o2 fun q hq=>rJ q (by have:=(o2).lt q hq;omega)) xo
   . exact ((hB3.setCell dG _).setCell dG _).setCell dG _
theorem aan (l ai oW laid laid':Int) (ma pY wa ka va ca zI zV zJ ca':Option Addr) (mc qK n1 n2 wc kc vc cc wc' yV yF cc' lw lk lv lc Bg lk' Bi Bj:Nat) (bL:Int) (bm bc:List Int) (p q:Int) (w:World)
    (BI:Hid (∀W,Below w.heap.size w W->Calls Tryz.prog 44 #[.agg #[.int .i64 oW,.slice zI Bg wc',.slice zV lk' yV,.slice zJ Bi yF,.slice ca' Bj cc',.int .u64 laid']] W (dY W bL bm bc (.int .i64 0))))
    (TU:Hid (∀W,Below w.heap.size w W->Calls Tryz.prog 131 #[.agg #[.int .i64 ai,.slice wa lw wc,.slice ka lk kc,.slice va lv vc,.slice ca lc cc,.int .u64 laid],.agg #[.int .i64 oW,.slice zI Bg wc',.slice zV lk' yV,.slice zJ Bi yF,.slice ca' Bj cc',.int .u64 laid']] W (aC W (.tuple #[.int .i64 p,.int .i64 q,.int .i64 0]))))
    (OF:Hid (∀W,Below w.heap.size w W->Calls Tryz.prog 62 #[um l ma n1 mc pY n2 qK,.agg #[.int .i64 ai,.slice wa lw wc,.slice ka lk kc,.slice va lv vc,.slice ca lc cc,.int .u64 laid]] W (aC W (.tuple #[.bool true,.int .i64 0]))))
    (WN:Hid (∀W,Below w.heap.size w W->Calls Tryz.prog 132 #[um l ma n1 mc pY n2 qK,.agg #[.int .i64 oW,.slice zI Bg wc',.slice zV lk' yV,.slice zJ Bi yF,.slice ca' Bj cc',.int .u64 laid'],.int .i64 p,.int .i64 q] W (dY W bL bm bc (.int .i64 0)))):
    Calls Tryz.prog 72 #[um l ma n1 mc pY n2 qK,.agg #[.int .i64 ai,.slice wa lw wc,.slice ka lk kc,.slice va lv vc,.slice ca lc cc,.int .u64 laid],.agg #[.int .i64 oW,.slice zI Bg wc',.slice zV lk' yV,.slice zJ Bi yF,.slice ca' Bj cc',.int .u64 laid']] w (dY w bL bm bc (.int .i64 0)):=by
 go_enter Tryz.func72,Tryz.ntmps72
 go_wp2_with fail
 refine (BI.out _ aH).mono ?_;rintro e w1 ⟨v,u,rfl,o1,o2,hb1⟩;have aA:=hb1.size;try simp only [World.size_alloc,World.size_setCell] at aA
 have hh:=bc3 hb1 (rU (rU (rU (uu (b:=w.heap.size) ax))));obtain ⟨jy,jw,jH⟩:=hh;have qh:=aP hb1 (dB (dB (dB (bV (b:=w.heap.size) ax))));have hh:=jl hb1 (jI (jI (jA (b:=w.heap.size+1) ax)));obtain ⟨eH,fA,eG,eF,eY,eX⟩:=hh;have iC:=aP hb1 (dB (dB (bV (b:=w.heap.size+1) ax)));have hh:=jl hb1 (jI (jA (b:=w.heap.size+1+1) ax));obtain ⟨aO,aN,aK,aU,aT,aV⟩:=hh;have bF:=aP hb1 (dB (bV (b:=w.heap.size+1+1) ax));have hh:=bc3 hb1 (uu (b:=w.heap.size+1+1+1) ax);obtain ⟨a_,aZ,bf⟩:=hh;have hh:=FW hb1 (bV (b:=w.heap.size+1+1+1) ax) (xx (b:=w.heap.size+1+1+1) ax);obtain ⟨bQ,bP,bT⟩:=hh;have bW:=aP hb1 (bV (b:=w.heap.size+1+1+1) ax);have hB1:Below w.heap.size w w1:=aH;have hz1:=hb1.size;simp only [World.size_alloc] at hz1;obtain ⟨BK,BJ,rfl,-⟩:=aG o1;obtain ⟨BR,BQ,rfl,-⟩:=aG o2;have O1:=hid o1;have O2:=hid o2;clear o1 o2 hb1;have hx:Below w1.heap.size w1 (w1.alloc (.cells #[.int .i64 bL,.slice BK bm.length BJ,.slice BR bc.length BQ] 33)):=br.alloc (Nat.le_refl _) _;go_wp2_with fail
 refine (TU.out _ aH).mono ?_;rintro e w2 ⟨rfl,hb2⟩;have fH:=hb2.size;try simp only [World.size_alloc,World.size_setCell] at fH
 have hh:=bc3 hb2 (rU (⟨jy,jw,jH⟩));clear jy jw jH;obtain ⟨jy,jw,jH⟩:=hh;replace qh:=aP hb2 (dB (qh));have hh:=jl hb2 (jI (⟨eH,fA,eG,eF,eY,eX⟩));clear eH fA eG eF eY eX;obtain ⟨eH,fA,eG,eF,eY,eX⟩:=hh;replace iC:=aP hb2 (dB (iC));have hh:=jl hb2 (jI (⟨aO,aN,aK,aU,aT,aV⟩));clear aO aN aK aU aT aV;obtain ⟨aO,aN,aK,aU,aT,aV⟩:=hh;replace bF:=aP hb2 (dB (bF));have hh:=bc3 hb2 (rU (⟨a_,aZ,bf⟩));clear a_ aZ bf;obtain ⟨a_,aZ,bf⟩:=hh;have hh:=FW hb2 (dB (bW)) (ZT bW ⟨bQ,bP,bT⟩);clear bQ bP bT;obtain ⟨bQ,bP,bT⟩:=hh;replace bW:=aP hb2 (dB (bW));have hh:=bc3 hb2 (uu (b:=w1.heap.size) ax);obtain ⟨aco,acn,acm⟩:=hh;have QL:=aP hb2 (bV (b:=w1.heap.size) ax);have h2:Below w1.heap.size w1 w2:=aj hb2 hx ax;have hB2:Below w.heap.size w w2:=aj h2 hB1 xo;go_wp2_with fail
 refine (OF.out _ hB2).mono ?_;rintro e w3 ⟨rfl,hb3⟩;have kD:=hb3.size;simp (disch:=omega) only [jK hb3,rX hb3] at *;replace qh:=aP hb3 qh;replace iC:=aP hb3 iC;replace bF:=aP hb3 bF;replace bW:=aP hb3 bW;replace QL:=aP hb3 QL;have h3:Below w1.heap.size w1 w3:=aj hb3 h2 xo;have hB3:Below w.heap.size w w3:=aj h3 hB1 xo;clear hb2 hb3 hx h2 hB2;clear O1 O2;go_wp2_with fail
 refine (WN.out _ hB3).mono ?_;rintro e w4 ⟨v,u,rfl,o1,o2,hb4⟩;have Dj:=hb4.size;simp (disch:=omega) only [jK hb4,rX hb4] at *;replace qh:=aP hb4 qh;replace iC:=aP hb4 iC;replace bF:=aP hb4 bF;replace bW:=aP hb4 bW;replace QL:=aP hb4 QL;have NR:=hb4.size;have hz3:=h3.size;have hB4:Below w.heap.size w w4:=aj hb4 hB3 xo;obtain ⟨va2,vc2,rfl,-⟩:=aG o1;obtain ⟨ua2,uc2,rfl,-⟩:=aG o2;have O1:=hid o1;have O2:=hid o2;clear o1 o2 hb4;go_wp2
 have hsw:=gq (w2:=w4) (b:=w.heap.size+1+1+1) (x:= .int .i64 bL) (y:= .slice va2 bm.length vc2) (z:= .slice ua2 bc.length uc2) a_ aZ bf;have rJ:∀q,q≠w.heap.size+1+1+1->((((w4.setCell ⟨w.heap.size+1+1+1,0,none⟩ (.int .i64 bL)).setCell ⟨w.heap.size+1+1+1,1,none⟩ (.slice va2 bm.length vc2)).setCell ⟨w.heap.size+1+1+1,2,none⟩ (.slice ua2 bc.length uc2))).heap[q]? =w4.heap[q]? :=fun q hq=>by rw [ae _ _ _ hq,ae _ _ _ hq,ae _ _ _ hq]
 refine bodyPost_ret (aF rfl rfl (ag _ Tryz.underlying33 rfl xk (g_ hsw.1 hsw.2.1 hsw.2.2))) rfl ⟨_,_,rfl,?_,?_,?_⟩
 . exact az (af O1.out fun q hq=>rJ q (by have:=(O1.out).lt q hq;omega)) xo
 . exact az (af O2.out fun q hq=>rJ q (by have:=(O2.out).lt q hq;omega)) xo
 . exact ((hB4.setCell dG _).setCell dG _).setCell dG _
theorem Xa {c:aW} (h:kJ c≠0):iE c=0/\gy c=[]/\fZ c=[]:=⟨if_neg h,if_neg h,if_neg h⟩
theorem acR (l:Int) (ma pY:Option Addr) (mc qK:Nat) (ms cs:List Int) (c d:aW) (a b:jJ) (hl:c.ws.length<=9223372036854775807) (hl2:c.ks.length<=1000000000000) (hl':d.ws.length<=9223372036854775807) (V9:d.ks.length<=1000000000000) (hlm:ms.length<=100000) (hlc:cs.length<=100000) (w:World) (hm:aQ .i64 w ma ms) (hi:aQ .i64 w pY cs) (hc:iy w c a) (hd:iy w d b)
    (q1:c.ks.length<=a.kc) (q2:c.vs.length<=a.vc) (q3:d.ks.length<=b.kc) (q4:d.vs.length<=b.vc):
    Calls Tryz.prog 72 #[um l ma ms.length mc pY cs.length qK,jB c a,jB d b] w (dY w (iE d) (gy d) (fZ d) (.int .i64 (kJ d))):=by
 have BI:=hid (fun W (hb:Below w.heap.size w W)=>ug d b hl' V9 W (hd.below hb));by_cases h0:kJ d=0
 . have TU :=hid (fun W (hb:Below w.heap.size w W)=>TM c d a b hl hl2 hl' V9 W (hc.below hb) (hd.below hb) q1 q2 q3 q4);have OF:=hid (fun W (hb:Below w.heap.size w W)=>QA l ma pY mc qK ms cs c a hl hl2 W (hc.below hb) (hm.below hb) (hi.below hb) hlm hlc);rw [h0] at BI ⊢;by_cases h1:OW c d=0/\kJ c=0/\Yw l ms cs c=true
   . obtain ⟨e1,e2,e3⟩:=h1;have e4:XL c d=(((Ui c d c.ai.toNat c.cs.length:Nat):Int),((QS c d c.ai.toNat c.cs.length:Nat):Int),0):=if_pos e1;have hof:=e3;simp only [Yw,yX,e2,Bool.and_eq_true,decide_eq_true_eq] at hof;have hx:l=iE c/\ms=gy c/\cs=fZ c:=by
      refine ⟨?_,?_,?_⟩<;>simp_all
     obtain ⟨x1,x2,x3⟩:=hx
     have hsd:c.ai=d.ai/\c.ks.length=d.ks.length:=by
      unfold OW at e1;split at e1
      . split at e1
        . split at e1
          . assumption
          . cases e1
        . cases e1
      . cases e1
     obtain ⟨S,D,hS,hS2,hS4,Eh,hcs,hD,hks,hSM,-⟩:=qH e2;obtain ⟨S',D',hS',abW,-,-,hcs',hD',Y3,-⟩:=qH h0;have hSS:S'=S:=by have:=hsd.1;omega
     subst hSS;have hDD:2^D'=2^D:=by
      have:S'*2^D'=S'*2^D:=by have:=hsd.2;omega
      exact Nat.eq_of_mul_eq_mul_left xo this
     have hbd:=adp c d c.ai.toNat c.cs.length;obtain ⟨w1,w2,w3,w4⟩:=XY e2 h0 hsd.1 hsd.2 (lo:=((Ui c d c.ai.toNat c.cs.length:Nat):Int)) (hi:=((QS c d c.ai.toNat c.cs.length:Nat):Int)) xo xo xo (fun k k1 k2=>by
      rw [<-hsd.1];exact X5 (M:=c.cs.length) xo xo)
     have WN:=hid (fun W (hb:Below w.heap.size w W)=>TJ l ma pY mc qK ms cs d b ((Ui c d c.ai.toNat c.cs.length:Nat):Int) ((QS c d c.ai.toNat c.cs.length:Nat):Int) hl' V9 W (hd.below hb) (hm.below hb) (hi.below hb) hlm hlc);rw [x1,x2,x3] at WN;rw [w1,w2,w3,w4] at WN;rw [<-x1,<-x2,<-x3] at WN;rw [e4] at TU;rw [e2,e3] at OF;exact aan _ _ _ _ _ _ _ _ _ _ _ _ _ _ _ _ _ _ _ _ _ _ _ _ _ _ _ _ _ _ _ _ _ _ _ _ _ _ _ _ w BI TU OF WN
   . have h9:(XL c d).2.2=OW c d:=by
       unfold XL;split
       . rename_i h;exact h.symm
       . rfl
     refine Ue _ _ _ _ _ _ _ _ _ _ _ _ _ _ _ _ _ _ _ _ _ _ _ _ _ _ _ _ _ _ _ _ _ _ _ _ _ _ _ _ _ _ _ ?_ w BI TU OF;rw [h9];by_cases e1:OW c d=0
     . by_cases e2:kJ c=0
       . exact .inr (.inr ⟨e1,e2,by
           rw [Bool.eq_false_iff];exact fun e3=>h1 ⟨e1,e2,e3⟩⟩)
       . exact .inr (.inl ⟨e1,e2⟩)
     . exact .inl e1
 . obtain ⟨x1,x2,x3⟩:=Xa h0;rw [x1,x2,x3] at BI ⊢;exact acS _ _ _ _ _ _ _ _ _ _ _ _ _ _ _ _ _ _ _ _ _ _ _ _ _ _ _ _ _ _ _ _ _ _ _ _ _ _ _ h0 w BI
structure XR (r:bK) (A:dZ):Prop where
 k:r.s.ks.length<=A.sa.kc
 v:r.s.vs.length<=A.sa.vc
theorem AV.rm {w:World} {B M:Nat} {r:bK} {A:dZ} (h:AV w B M r A):XR r A:=by
 obtain ⟨y,m,hy,-,-,-,h1,-⟩:=ak h.o2;cases hy;obtain ⟨y,m,hy,-,-,-,h2,-⟩:=ak h.o3;cases hy;exact ⟨h1,h2⟩
theorem Io.rm {w:World} {B:Nat} {s:aW} {a:jJ} (h:Io w B s a):s.ks.length<=a.kc/\s.vs.length<=a.vc:=by
 obtain ⟨y,m,hy,-,-,-,h1,-⟩:=ak h.o2;cases hy;obtain ⟨y,m,hy,-,-,-,h2,-⟩:=ak h.o3;cases hy;exact ⟨h1,h2⟩
theorem Kw {r q:bK} {A:dZ} {b:jJ} {w:World} (h:AX w r A) (hr:XR r A) (hq:q=xU q.c q.s) (hp:qR q.c q.s=0) (sz:Qu q) (ho:iy w q.s b) (hb:q.s.ks.length<=b.kc/\q.s.vs.length<=b.vc):
    Calls Tryz.prog 39 #[eU r A,.agg (ku q.c q.s b).toArray,.int .i64 0] w (FrT w q b 0):=by
 refine UD r q A b w (hid fun W hB=> ?_);have:=acR r.l A.ma A.ca A.mc A.cc r.ms r.cs r.s q.s A.sa b (Nat.le_trans h.sz.w au) (Nat.le_trans h.sz.k au) (Nat.le_trans sz.w au) (Nat.le_trans sz.k au) h.sz.m h.sz.n W (h.m.below hB) (h.n.below hB) (h.sl.below hB) (ho.below hB) hr.k hr.v hb.1 hb.2;refine this.mono fun e w' k=>Qh q 0 ?_
 have e0:=CG hp sz.c;rw [e0] at k;rw [hq];exact k
def bK.pE (r:bK) (key:Int):Int:=if r.E=0 then kz r.c r.s key else r.E
def bK.pR (r:bK) (key val:Int):bK:=if r.pE key=0 then xU (qV r.c r.s key) (iK r.c r.s key val) else qJ
theorem aen (r:bK) (A:dZ) (key val:Int) (w:World) (h:AX w r A) (hr:XR r A) (hT:TabAt w) (hok:r.pE key=0->qR (qV r.c r.s key) (iK r.c r.s key val)=0/\Qu (r.pR key val)):
    Calls Tryz.prog 9 #[eU r A,.int .i64 key,.int .i64 val] w (LZ w (r.pR key val) (r.pE key)):=by
 have CK:=fun W (hB:Below w.heap.size w W)=>DL r A W (h.below hB)
 by_cases hE:r.E=0
 . rw [hE] at CK;have hpE:r.pE key=kz r.c r.s key:=if_pos hE;have PU:=fun W (hB:Below w.heap.size w W)=>(Ru r.c r.s A.sa key val (Nat.le_trans h.sz.w au) (Nat.le_trans h.sz.k au) h.cc W (h.sl.below hB) (hT.below hB)).mono fun _ _ q=>Hr (qV r.c r.s key) (iK r.c r.s key val) (kz r.c r.s key) q
   by_cases he:kz r.c r.s key=0
   . obtain ⟨hp,sz⟩:=hok (hpE.trans he);have hpR:r.pR key val=xU (qV r.c r.s key) (iK r.c r.s key val):=if_pos (hpE.trans he);rw [hpR] at sz ⊢;rw [hpE,he];rw [he] at PU;refine ZI r (xU _ _) A key val w sz (hid CK) (hid PU) (hid fun W b hB ho=> ?_);exact Kw (h.below hB) hr rfl hp sz (ho.sl sz.u).1 ho.rm
   . have hpR:r.pR key val=qJ:=if_neg (by rw [hpE];exact he);rw [hpR,hpE];exact ZJ r (xU (qV r.c r.s key) (iK r.c r.s key val)) A key val _ w (hid CK) (hid PU) (hid fun W b hB=>UE r _ A b W _ he)
 . have hpE:r.pE key=r.E:=if_neg hE;have hpR:r.pR key val=qJ:=if_neg (by rw [hpE];exact hE);rw [hpR,hpE];exact ZK r A key val r.E w hE (hid CK)
end
section
open Go.RowKit Go.Shelf Go.Sort
def F6 (W W':World):Prop:=∀(k:Nat) (o:Obj),W.heap[k]? =some o->o.isCells=true->W'.heap[k]? =some o
theorem F6.cell {W W':World} (h:F6 W W') {a:Addr} {v:Value} (hc:W.cell? a=some v):W'.cell? a=some v:=by
 obtain ⟨o,ho,hoc⟩:=cells_of_cell hc;rw [World.cell?_of_block (w:=W) ((h _ _ ho hoc).trans ho.symm)];exact hc
theorem F6.trans {A B C:World} (h:F6 A B) (k:F6 B C):F6 A C:=fun q o h1 h2=>k q o (h q o h1 h2) h2
theorem F6.below {W W':World} (h:Below W.heap.size W W'):F6 W W':=fun k o hk _=>(h.block k (Array.getElem?_eq_some_iff.1 hk).1).trans hk
theorem F6.row {W W':World} (h:F6 W W') {k:IntKind} {a:Option Addr} {xs:List Int} (hi:aQ k W a xs):aQ k W' a xs:=by
 intro i hl;obtain ⟨b,off,ha,hlt,hc⟩:=hi i hl;have h0:=h.cell (hc i hl);exact ⟨b,off,ha,World.block_lt_of_cell? _ _ h0,fun j hj=>h.cell (hc j hj)⟩
theorem lm.kpc {w w':World} {l:List (Nat×TypeId×List Value)} (h:lm w l) (k:F6 w w'):lm w' l:=by
 induction l with
 | nil=>trivial
 | cons y l ih=>exact ⟨k _ _ h.1 rfl,ih h.2⟩
theorem lm.calm {B:Nat} {w w':World} {l:List (Nat×TypeId×List Value)} (h:lm w l) (k:Calm B w w'):lm w' l:=h.kpc k.cells
def sD (L:List (Int×Int)):List (Array Value):=(List.range L.length).map fun (k:Nat)=> #[.int .i64 (k:Int),.agg #[.int .i64 (L.getD k (0,0)).1,.int .i64 (L.getD k (0,0)).2]]
theorem ny (L:List (Int×Int)):(sD L).length=L.length:=by simp [sD]
theorem yU (L:List (Int×Int)) {k:Nat} (h:k<L.length):(sD L).getD k #[]= #[.int .i64 (k:Int),.agg #[.int .i64 (L.getD k (0,0)).1,.int .i64 (L.getD k (0,0)).2]]:=by
 rw [List.getD_eq_getElem?_getD,sD,List.getElem?_map,List.getElem?_range h];rfl
def afi:List Value:=[.int .i64 0,.slice none 0 0,.slice none 0 0,.slice none 0 0,.slice none 0 0,.int .u64 0]
theorem Yb (s:aW) (a:jJ):(oz s a).toArray.all (·.oneCell')=true:=by simp [oz,Value.oneCell']
theorem NJ (r:bK) (A:dZ) (i:Nat) (sg lo hi:Int) (L:List (Int×Int)) (hL:L.length<=100000) (hsg:r.s.ai=sg) (hlo:(i:Int)*sg=lo) (hhi:((i:Int)+1)*sg=hi) (hi0:i<=65536) (h0:0<=lo) (h1:lo<=65536) (h2:0<=hi) (h3:hi<=65536) (b1 b2 bu:Nat) (w:World)
    (c1:w.cell? ⟨b1,0,none⟩=some (.pointer (some ⟨bu,0,none⟩))) (c2:w.cell? ⟨b2,0,none⟩=some (.int .i64 i)) (hx:BX w bu 94 (bz r A))
    (PR:Hid (∀(W:World),Below w.heap.size w W->Calls Tryz.prog 100 #[.agg (oz r.s A.sa).toArray,.int .i64 lo,.int .i64 hi] W (sZ W L (.int .i64 0)))):
    Iter Tryz.prog 109 #[.pointer (some ⟨b1,0,none⟩),.pointer (some ⟨b2,0,none⟩)] (sD L) F6 w:=by
 intro l J Jx W hW hJ hJx hY h0;have HX:Hid (lm W [(bu,94,bz r A)]):=hid ⟨jr hW hx (aY hx),trivial⟩;have q1:=(hW.cell (World.block_lt_of_cell? _ _ c1)).trans c1;have q2:=(hW.cell (World.block_lt_of_cell? _ _ c2)).trans c2;have HB0:=hid hW;have HY:=hid hY;have HJ:=hid hJ;have HH0:=hid h0;have XE:=hid (ny L);have HGT:=hid (fun k (h:k<L.length)=>yU L h);have m1:IntKind.i64.wrap ((i:Int)*sg)=lo:=by rw [hlo];exact IntWalk.i64_in _ xo
 have m2:IntKind.i64.wrap ((i:Int)+1)=(i:Int)+1:=IntWalk.i64_in _ xo;have m3:IntKind.i64.wrap (((i:Int)+1)*sg)=hi:=by rw [hhi];exact IntWalk.i64_in _ xo
 clear hW hJ hJx hY h0 c1 c2 hx hlo hhi;generalize sD L=xs at *;refine callsIn_of_wp Tryz.func109 rfl trivial ?_ rfl;simp only [Tryz.ntmps109,List.size_toArray,List.length_cons,List.length_nil,Nat.reduceAdd,Nat.reduceSub,Array.replicate_succ,Array.replicate_zero,List.push_toArray,List.append_toArray,List.nil_append,List.cons_append];refine wpIn_wide.2 ?_;have HB:=hid (Below.refl W.heap.size W);go_upto_region 1 with (first|(refine cu 29 (.tmp 13) (bu) 9 (oz r.s A.sa) xk rfl rfl Tryz.underlying29 rfl xk (fP (HX.out.at 0 rfl) 9 rfl) ?_)|(refine bI 29 (.tmp 4) (.tmp 14) (afi).toArray (oz r.s A.sa).toArray rfl rfl rfl rfl xk rfl (Yb _ _) ?_))
 have hx:=dR W (oz r.s A.sa) 29;have hb:=(Below.refl W.heap.size W).alloc (Nat.le_refl _) (.cells (oz r.s A.sa).toArray 29);generalize W.alloc _=w1 at *;replace HX:=hid (HX.out.below hb);replace HB:=xv hb HB;have hz1:=hb.size;have ajm:=aY hx;replace HX:=hid (HX.out.cons' hx);clear hx hb;have e1:w1.cell? ⟨W.heap.size,0,none⟩=some (.int .i64 sg):=hsg ▸ aI (HX.out.at 0 rfl) 0 _ rfl;replace q2:=(HB.out.cell (World.block_lt_of_cell? _ _ q2)).trans q2;clear q1;go_wp2_with (first|(refine aJ 29 (.tmp 4) (W.heap.size) (oz r.s A.sa) xk rfl rfl Tryz.underlying29 rfl xk (aI (HX.out.at 0 rfl)) ?_))
 refine (PR.out _ (aj HB.out HB0.out HB0.out.size)).mono ?_;rintro e w2 ⟨v,rfl,ho,hb⟩;replace HX:=hid (HX.out.below hb);replace HB:=xv hb HB;have hz2:=hb.size;obtain ⟨la,pl,rfl,hla,-⟩:=ak ho;have HR:=hid hla;clear e1 q2 ho hla hb HX m1 m2 m3;have HJ2:=hid (HJ.out _ _ _ HH0.out HB.out);go_wp2
 refine wpIn_wide (n:=0).1 ?_;gi_loopg [31] L.length (fun g iv wr=>∃k:Nat,k+g=L.length/\iv= .int .i64 k/\Hid (J k wr)/\Hid (aQ .i64 wr la (lC L)))
 case atStart=>exact ⟨0,by omega,rfl,HJ2,HR⟩
 case round=>
  obtain ⟨k,hk,rfl,QG,HRK⟩:=hrel;by_cases hlt:k<L.length
  . obtain ⟨bl,ol,rfl,e0,e1,zl⟩:=wY HRK.out hlt;have hpa:=HGT.out k hlt;generalize (L.getD k (0,0)).1=x at *;generalize (L.getD k (0,0)).2=y at *;have hab:Below wr.heap.size wr (wr.alloc (.cells #[.int .i64 x,.int .i64 y] 60)):=br.alloc (Nat.le_refl _) _;have Lt:=hid hk;have HR2:=hid (HRK.out.below hab);obtain ⟨fn,tmps,assign,body,hy,hR⟩:=HY.out k _ (by rw [XE.out];exact hlt) (HJ.out _ _ _ QG.out hab);rw [hpa] at hy;clear hpa hk hab;gi_wp2
    refine ⟨rfl,hR.mono ?_⟩;rintro e W3 (⟨rfl,hJ3,hk3⟩ | ⟨rfl,hJx3⟩)
    . have AY:=hid hJ3;have HR3:=hid (F6.row hk3 HR2.out);clear hJ3 hk3 hy hR e0 e1;gi_wp2
      gi_roundg (gk-1)
      case measure=>have:=Lt.out;omega
      case rel=>exact ⟨k+1,by have:=Lt.out;omega,by go_num,AY,HR3⟩
    . have AY:=hid hJx3;clear hJx3 hy hR e0 e1;gi_wp2
      exact bodyPost_ret (results_none rfl _ _ _) rfl ⟨⟨_,rfl⟩,.inr ⟨k+1,by rw [XE.out];omega,AY.out⟩⟩
  . obtain rfl:k=L.length:=xo;gi_wp2
    exact bodyPost_end (results_none rfl _ _ _) rfl ⟨⟨_,rfl⟩,.inl (by rw [XE.out];exact QG.out)⟩
theorem FO (p:Option Addr) (i:Int) (w:World):Calls Tryz.prog 60 #[.pointer p,.int .i64 i] w fun e w'=>e= .returned (.func (.func 109) #[] #[.pointer (some ⟨w.heap.size,0,none⟩),.pointer (some ⟨w.heap.size+1,0,none⟩)])/\(w.alloc (.cells #[.pointer p] 92)).alloc (.cells #[.int .i64 i] 3)=w':=by
 go_enter Tryz.func60,Tryz.ntmps60
 go_wp2
 go_ret
 exact ⟨rfl,rfl⟩
end
section
open Go.RowKit
def StT (t:TypeId) (w w':World):Prop:=∃(b:Nat) (cs cs':Array Value),w.heap[b]? =some (Obj.cells cs t (0,0))/\w'.heap[b]? =some (Obj.cells cs' t (0,0))/\cs'.size=cs.size/\w'.heap.size=w.heap.size/\∀q,q≠b->w'.heap[q]? =w.heap[q]?
theorem xQ {t e:TypeId} {w w':World} {B s n:Nat} {v:Value} {xs:List Value} (hs:StT t w w') (hne:e≠t) (h:w.ownsRow B e s v n xs):w'.ownsRow B e s v n xs:=by
 obtain ⟨b,cs,cs',h1,h2,h3,h4,h5⟩:=hs;exact af h fun k hk=>h5 k (Rf h1 h hne k hk)
structure ry (t:TypeId) extends dN RB where
 bears:∀v w w',StT t w w'->holds v w->holds v w'
def ry.any (t:TypeId):ry t:=⟨dN.any RB,fun _ _ _ _ _=>trivial⟩
def ry.is {t:TypeId} (x:Value):ry t:=⟨dN.is x,fun _ _ _ _ h=>h⟩
def ry.sl (base:Nat) (c:aW):ry 33:=
  ⟨dN.sl base c,fun _ _ _ h ⟨v1,v2,v3,v4,e,h1,h2,h3,h4⟩=>⟨v1,v2,v3,v4,e,xQ h au h1,xQ h au h2,xQ h au h3,xQ h au h4⟩⟩
def ry.box (base:Nat) (t:TypeId) (n:Nat):ry t:=
  ⟨dN.box base t n,fun v w w' h ⟨b,cs,e,hb,hh,hn⟩=>by
   obtain ⟨b',c0,c1,h1,h2,h3,h4,h5⟩:=h;by_cases eb:b=b'
   . subst eb;rw [h1] at hh;cases hh;exact ⟨b,c1,e,hb,h2,h3.trans hn⟩
   . exact ⟨b,cs,e,hb,(h5 b eb).trans hh,hn⟩⟩
def Fj {t:TypeId} (m:Nat) (ds:List Nat) (fs:List (ry t)) (X:(Nat->Value)->World->Prop) (k:Nat) (u:Nat->Value) (w:World):Prop:=(fs.getD k (ry.any t)).holds (u (ds.getD k 0)) w/\(k=m->X u w)
def Oo (t:TypeId) (m i:Nat) (w w':World):Prop:=(i≠m->RB w w')/\(i=m->StT t w w')
theorem zZ {t:TypeId} {m:Nat} {ds:List Nat} {fs:List (ry t)} {X:(Nat->Value)->World->Prop} (hX:∀u w w',RB w w'->X u w->X u w'):∀i k u w w',k≠i->Oo t m i w w'->Fj m ds fs X k u w->Fj m ds fs X k u w':=by
 intro i k u w w' hne hE hG;by_cases h:i=m
 . exact ⟨(fs.getD k (ry.any t)).bears _ _ _ (hE.2 h) hG.1,fun e=>absurd (e.trans h.symm) hne⟩
 . exact ⟨(fs.getD k (ry.any t)).stays _ _ _ (hE.1 h) hG.1,fun e=>hX _ _ _ (hE.1 h) (hG.2 e)⟩
theorem Fh {t:TypeId} {l:List Oper} {m n:Nat} {ds:List Nat} {fs:List (ry t)} {X:(Nat->Value)->World->Prop} (dps:List Nat) (hX:∀u u' w,(∀s ∈ dps,u' s=u s)->X u w->X u' w)
    (h:(List.range l.length).all (fun k=>match l[k]? with|some o=>decide (n<=k)||o.dst==some (ds.getD k 0)|none=>true)=true)
    (h7:dps.all (fun s=>(List.range l.length).any fun j=>match l[j]?,l[m]? with|some p,some o=>p.dst==some s&&(o.after.any fun e=>Region.binds .any e&&e.on==j)|_,_=>false)=true) (hfs:fs.length<=n) (hll:n<=l.length):
    ∀(k:Nat) (u u':Nat->Value) (w:World),(∀(j:Nat) (p o:Oper),l[j]? =some p->l[k]? =some o->(j=k\/(o.after.any fun e=>Region.binds .any e&&e.on==j)=true)->valOf u' p=valOf u p)->Fj m ds fs X k u w->Fj m ds fs X k u' w:=by
 intro k u u' w hv hg;refine ⟨?_,?_⟩
 . by_cases hk:n<=k
   . rw [List.getD_eq_getElem?_getD,List.getElem?_eq_none xo];trivial
   . by_cases hl:k<l.length
     . have h1:=List.all_eq_true.1 h k (List.mem_range.2 hl);have ho:l[k]? =some l[k]:=List.getElem?_eq_getElem hl;rw [ho] at h1;simp only [Bool.or_eq_true,decide_eq_true_eq,beq_iff_eq] at h1;have h2:=h1.resolve_left hk;have h3:=hv k _ _ ho ho (.inl rfl);simp only [valOf,h2] at h3;rw [h3];exact hg.1
     . omega
 . rintro rfl;refine hX u u' w (fun s hs=> ?_) (hg.2 rfl);have h1:=List.all_eq_true.1 h7 s hs;obtain ⟨j,hj,h2⟩:=List.any_eq_true.1 h1;cases hp:l[j]? with
   | none=>rw [hp] at h2;cases h2
   | some p=>
    cases ho:l[k]? with
    | none=>rw [hp,ho] at h2;cases h2
    | some o=>
     rw [hp,ho] at h2;simp only [Bool.and_eq_true,beq_iff_eq] at h2;have e1:=hv j p o hp ho (.inr h2.2);simp only [valOf,h2.1] at e1;exact e1
end
section
open Go.RowKit Go.Shelf Go.Sort
attribute [local go_sem] Oper.semAt_some
theorem zT {P:Program} {fn:Func} {p q r:Tmp} {ty tz tx:TypeId} (h:fn.results= #[.cell p ty,.cell q tz,.cell r tx]) {t:Array Value} {w:World} {a b c:Addr} {v u x:Value}
    (hp:t.getD p undef= .pointer (some a)) (hq:t.getD q undef= .pointer (some b)) (hr:t.getD r undef= .pointer (some c)) (hv:(loadVar ty a).run P w= .ok v w) (hu:(loadVar tz b).run P w= .ok u w) (hx:(loadVar tx c).run P w= .ok x w):
    (results fn t).run P w= .ok (.tuple #[v,u,x]) w:=by
 have hp':t[p]?.getD undef= .pointer (some a):=by simpa using hp
 have hq':t[q]?.getD undef= .pointer (some b):=by simpa using hq
 have hr':t[r]?.getD undef= .pointer (some c):=by simpa using hr
 simp [results,h,hp',hq',hr',asAddr,hv,hu,hx]
theorem Vt {α : Type} {cs:Array α} (h:cs.size=1):∃v,cs=[v].toArray:=by
 rcases cs with ⟨l⟩
 match l,h with
 | [v],_=>exact ⟨v,rfl⟩
def KU (base s:Nat) (v:Value) (u:Nat->Value) (w:World):Prop:=∃b,u s= .pointer (some ⟨b,0,none⟩)/\base<=b/\BX w b 3 [v]
theorem DR {base s:Nat} {v:Value}:∀u w w',RB w w'->KU base s v u w->KU base s v u w':=fun u w w' h ⟨b,e,hb,k⟩=>⟨b,e,hb,jr h k (aY k)⟩
theorem KT {base s:Nat} {v:Value}:∀u u' w,(∀t ∈ [s],u' t=u t)->KU base s v u w->KU base s v u' w:=fun u u' w h ⟨b,e,hb,k⟩=>⟨b,(h s (List.mem_singleton.2 rfl)).trans e,hb,k⟩
def dN.B (base:Nat) (t:TypeId) (vs:List Value):dN RB:=⟨fun v w=>∃b,v= .pointer (some ⟨b,0,none⟩)/\base<=b/\BX w b t vs,fun _ _ _ h ⟨b,e,hb,k⟩=>⟨b,e,hb,jr h k (aY k)⟩⟩
def JS (w3:World) (b:Nat) (t:TypeId) (w':World):Prop:=nH b w3 w'/\∃v,BX w' b t [v]
def JS2 (w3:World) (b:Nat) (t:TypeId) (w':World):Prop:=nH b w3 w'/\∃v u,BX w' b t [v,u]
def RK (b:Nat) (t:TypeId) (vs:List Value) (w w':World):Prop:=BX w b t vs->BX w' b t vs
theorem EN (b:Nat) (w:World):nH b w w.drew:=⟨rfl,fun _ _=>rfl,fun B _=>(Below.refl B w).drew⟩
theorem nH.same {b c:Nat} {w w' w'':World} {t:TypeId} {vs:List Value} (h:nH b w w') (k:nH c w' w'') (hx:BX w c t vs) (hy:BX w'' c t vs):nH b w w'':=by
 have ho:∀q,q≠b->w''.heap[q]? =w.heap[q]? :=fun q hq=>by
  by_cases e:q=c
  . subst e;exact hy.trans hx.symm
  . exact (k.other q e).trans (h.other q hq)
 have hs:=k.size.trans h.size;have h0:=h.bel 0 (Nat.zero_le _);have k0:=k.bel 0 (Nat.zero_le _);exact ⟨hs,ho,fun B hB=>⟨k0.os.trans h0.os,k0.tape.trans h0.tape,k0.output.trans h0.output,Nat.le_of_eq hs.symm,fun q hq=>ho q xo⟩⟩
theorem nH.keeps {b:Nat} {w w':World} {t:TypeId} {vs:List Value} (h:nH b w w') (hx:BX w b t vs):KeepsOthers w w':=
  ⟨Nat.le_of_eq h.size.symm,fun k o hk ho=>by
   by_cases e:k=b
   . subst e;have hx':w.heap[k]? =some (.cells vs.toArray t (0,0)):=hx;rw [hx'] at hk;cases hk;cases ho
   . exact (h.other k e).trans hk⟩
theorem S9 (r:bK) (A:dZ) (key:Int) (w:World) (bu:Nat) (hx:BX w bu 94 (bz r A)) (e n:Int) (he:e≠0) (hn:aQ .i64 w A.ca r.cs) (hl:0<r.cs.length) (hc:r.cs.getD 0 0=n)
    (HM:Hid (∀(W:World),Below w.heap.size w W->Calls Tryz.prog 101 #[.agg (vX r A).toArray,.int .i64 key] W (aC W (.tuple #[.int .i64 0,.int .i64 0,.int .i64 e])))):
    Calls Tryz.prog 52 #[.pointer (some ⟨bu,0,none⟩),.int .i64 key] w (aC w (.tuple #[uw (0,0),.int .i64 n,.int .i64 e])):=by
 have ge:(e != 0)=true:=by simpa using he
 clear he;have hlU:=aY hx;obtain ⟨bc,oc,y,hca,hy,hcc,hlc⟩:=hn.get (i:=0) hl;have hyn:y=n:=hy.out.symm.trans hc;subst hyn;have HCC:=hid hcc;have HCA:=hid hca;clear hn hy hcc hca hc;have HU:=hid hx;clear hx;refine dM Tryz.func52 rfl ?_;simp only [Tryz.ntmps52,List.size_toArray,List.length_cons,List.length_nil,Nat.reduceAdd,Nat.reduceSub,Array.replicate_succ,Array.replicate_zero,List.push_toArray,List.append_toArray,List.nil_append,List.cons_append];go_upto_region 1 with (fail)
 generalize hw0:(((w.alloc _).alloc _).alloc _).alloc _=w0;obtain ⟨hb0,hx⟩:=KO (l1:=[.int .i64 key]) (l2:=fO (0,0)) (l3:=[.int .i64 0]) (l4:=[.int .i64 0]) hw0;have HX:Hid (lm w0 [(w.heap.size+1+1+1,38,[.int .i64 0]),(w.heap.size+1+1,3,[.int .i64 0]),(w.heap.size+1,60,fO (0,0)),(w.heap.size,2,[.int .i64 key])]):=hid hx;have HB:=hid hb0;have hz0:=hb0.size;clear hw0 hb0 hx;have Y0:w.heap.size+1+1+1<w0.heap.size:=aY (HX.out.at 0 rfl);have afU:w.heap.size+1+1<w0.heap.size:=aY (HX.out.at 1 rfl);have Ef:w.heap.size+1<w0.heap.size:=aY (HX.out.at 2 rfl);have abP:w.heap.size<w0.heap.size:=aY (HX.out.at 3 rfl);replace HU:=hid (jr HB.out HU.out (aY HU.out));have c_k:=aI (HX.out.at 3 rfl) 0 _ rfl;refine rE 14 xk (N:=50) rfl xk xk au (fun w'=>Below w0.heap.size w0 w') (Oo 3 13) (Fj 13 [13,14,15,16,17,18,19,12,20,21,22,8,7] [.is (.pointer (some ⟨bu,0,none⟩)),.is (.pointer (some ⟨bu,0,none⟩)),.is (.pointer (some ⟨bu,0,none⟩)),.is (.pointer (some ⟨bu,15,none⟩)),.is (.agg (vX r A).toArray),.is (.int .i64 key),.is (.tuple #[.int .i64 0,.int .i64 0,.int .i64 e]),.is (.tuple #[.int .i64 0,.int .i64 0,.int .i64 e]),.is (.int .i64 0),.is (.int .i64 0),.is (.int .i64 e),.box w0.heap.size 3 1,.is (.int .i64 0)] (KU w0.heap.size 8 (.int .i64 0))) (zZ DR) (Fh (n:=13) [8] KT xk xk (Nat.le_refl 13) au) br.drew ?steps ?fin
 case steps=>
  refine ⟨?o0,?o1,?o2,?o3,?o4,?o5,?o6,?o7,?o8,?o9,?o10,?o11,?o12,?o13,trivial⟩<;>intro u a w' ev hJ hd K hK
  case o0=>
   have e0:tg a 0= .pointer (some ⟨bu,0,none⟩):=ev 0 au;have HK:=hid hK;clear hK ev hd;go_simp;exact HK.out _ _ aS hJ ⟨rfl,fun h=>absurd h au⟩ ⟨fun _=>Below.refl _ _,fun h=>absurd h au⟩
  case o1=>
   have e13:tg a 13= .pointer (some ⟨bu,0,none⟩):=(ev 13 au).trans (hd 0 _ xk rfl).1;have HK:=hid hK;clear hK ev hd;go_simp;exact HK.out _ _ aS hJ ⟨rfl,fun h=>absurd h au⟩ ⟨fun _=>Below.refl _ _,fun h=>absurd h au⟩
  case o2=>
   have e14:tg a 14= .pointer (some ⟨bu,0,none⟩):=(ev 14 au).trans (hd 1 _ xk rfl).1;have HK:=hid hK;clear hK ev hd;go_simp;exact HK.out _ _ aS hJ ⟨rfl,fun h=>absurd h au⟩ ⟨fun _=>Below.refl _ _,fun h=>absurd h au⟩
  case o3=>
   have e15:tg a 15= .pointer (some ⟨bu,0,none⟩):=(ev 15 au).trans (hd 2 _ xk rfl).1;have HK:=hid hK;clear hK ev hd;go_simp;exact HK.out _ _ aS hJ ⟨rfl,fun h=>absurd h au⟩ ⟨fun _=>Below.refl _ _,fun h=>absurd h au⟩
  case o4=>
   have e16:tg a 16= .pointer (some ⟨bu,15,none⟩):=(ev 16 au).trans (hd 3 _ xk rfl).1;exact mO 33 (.tmp 16) (bu) 15 (vX r A) rfl e16 Tryz.underlying33 rfl xk (fP (jr hJ HU.out (aY HU.out)) 15 rfl) (hK _ _ aS hJ ⟨rfl,fun h=>absurd h au⟩ ⟨fun _=>Below.refl _ _,fun h=>absurd h au⟩)
  case o5=>
   have e3:tg a 3= .pointer (some ⟨w.heap.size,0,none⟩):=ev 3 au;have g0:=(hJ.cell (p:=⟨w.heap.size,0,none⟩) abP).trans c_k;have HK:=hid hK;clear hK ev hd;go_simp;exact HK.out _ _ aS hJ ⟨rfl,fun h=>absurd h au⟩ ⟨fun _=>Below.refl _ _,fun h=>absurd h au⟩
  case o6=>
   have e17:tg a 17= .agg (vX r A).toArray:=(ev 17 au).trans (hd 4 _ xk rfl).1;have e18:tg a 18= .int .i64 key:=(ev 18 au).trans (hd 5 _ xk rfl).1;have HK:=hid hK;have HC:=hid (HM.out w' (aj hJ HB.out HB.out.size));have lY:=hJ.size;have HJ:=hid hJ;clear hK ev hd hJ;go_simp;refine HC.out.mono ?_;rintro e w'' ⟨rfl,hb⟩;exact HK.out _ _ aS (HJ.out.trans (hb.mono lY)) ⟨rfl,fun h=>absurd h au⟩ ⟨fun _=>hb,fun h=>absurd h au⟩
  case o7=>
   have e19:tg a 19= .tuple #[.int .i64 0,.int .i64 0,.int .i64 e]:=(ev 19 au).trans (hd 6 _ xk rfl).1;have HK:=hid hK;clear hK ev hd;go_simp;exact HK.out _ _ aS hJ ⟨rfl,fun h=>absurd h au⟩ ⟨fun _=>Below.refl _ _,fun h=>absurd h au⟩
  case o8=>
   have e12:tg a 12= .tuple #[.int .i64 0,.int .i64 0,.int .i64 e]:=(ev 12 au).trans (hd 7 _ xk rfl).1;have HK:=hid hK;clear hK ev hd;go_simp;exact HK.out _ _ aS hJ ⟨rfl,fun h=>absurd h au⟩ ⟨fun _=>Below.refl _ _,fun h=>absurd h au⟩
  case o9=>
   have e12:tg a 12= .tuple #[.int .i64 0,.int .i64 0,.int .i64 e]:=(ev 12 au).trans (hd 7 _ xk rfl).1;have HK:=hid hK;clear hK ev hd;go_simp;exact HK.out _ _ aS hJ ⟨rfl,fun h=>absurd h au⟩ ⟨fun _=>Below.refl _ _,fun h=>absurd h au⟩
  case o10=>
   have e12:tg a 12= .tuple #[.int .i64 0,.int .i64 0,.int .i64 e]:=(ev 12 au).trans (hd 7 _ xk rfl).1;have HK:=hid hK;clear hK ev hd;go_simp;exact HK.out _ _ aS hJ ⟨rfl,fun h=>absurd h au⟩ ⟨fun _=>Below.refl _ _,fun h=>absurd h au⟩
  case o11=>
   have HK:=hid hK;have lY:=hJ.size;have HJ:=hid hJ;clear hK ev hd hJ;go_simp;exact HK.out _ _ aS (HJ.out.alloc lY _) ⟨⟨_,_,rfl,lY,dR _ [.int .i64 0] _,rfl⟩,fun h=>absurd h au⟩ ⟨fun _=>br.alloc (Nat.le_refl _) _,fun h=>absurd h au⟩
  case o12=>
   have e20:tg a 20= .int .i64 0:=(ev 20 au).trans (hd 8 _ xk rfl).1;have HK:=hid hK;clear hK ev hd;go_simp;exact HK.out _ _ aS hJ ⟨rfl,fun h=>absurd h au⟩ ⟨fun _=>Below.refl _ _,fun h=>absurd h au⟩
  case o13=>
   obtain ⟨b,cs,e8',hb,hh,hn⟩:(dN.box w0.heap.size 3 1).holds (u 8) w':=(hd 11 _ xk rfl).1;obtain ⟨v,rfl⟩:=Vt hn;have hv:BX w' b 3 [v]:=hh;have e8:=(ev 8 au).trans e8';have e21:tg a 21= .int .i64 0:=(ev 21 au).trans (hd 9 _ xk rfl).1;have c0:=aI hv 0 _ rfl;have f0:=gK hv (i:=0) (by show (0:Nat)<1;decide);have HK:=hid hK;have HV:=hid hv;have HJ:=hid hJ;have HE:=hid e8';clear hK ev hd hv hJ hh e8';go_simp;exact HK.out _ _ (fun _=>rfl) (HJ.out.setCell (show w0.heap.size<=(⟨b,0,none⟩:Addr).block from hb) _) ⟨trivial,fun _=>⟨b,HE.out,hb,iI HV.out 0 _⟩⟩ ⟨fun h=>absurd rfl h,fun _=>⟨b,_,_,HV.out,iI HV.out 0 _,rfl,World.size_setCell _ _ _,fun q hq=>ae _ _ _ hq⟩⟩
 case fin=>
  intro u w3 hJ hG;have h22:u 22= .int .i64 e:=(hG 10 _ rfl).1;have h7:u 7= .int .i64 0:=(hG 12 _ rfl).1;obtain ⟨b8,h8,hb8,hx8⟩:KU w0.heap.size 8 (.int .i64 0) u w3:=(hG 13 _ rfl).2 rfl;replace HX:=hid (HX.out.below hJ);replace HU:=hid (jr hJ HU.out (aY HU.out));replace HB:=xv hJ HB;have hz3:=hJ.size;have hl8:=aY hx8;have HX8:=hid hx8;clear hG hJ c_k hx8;simp only [aX,kR,dstsOf,List.take_succ_cons,List.take_zero,List.filterMap_cons,List.filterMap_nil,List.contains_cons,List.contains_nil,Nat.reduceBEq,Bool.or_false,Bool.false_or,Bool.or_true,Bool.true_or,if_true,if_false,Bool.false_eq_true,Nat.reduceAdd,Nat.zero_add,List.drop_succ_cons,List.drop_zero,h22,h7,h8];go_upto_region 3 with (fail)
  have c17:w3.cell? ⟨bu,17,none⟩=some (.slice (some ⟨bc,oc,none⟩) r.cs.length A.cc):=HCA.out ▸ aI HU.out 17 _ rfl;have ad8:w3.cell? ⟨bc,oc,none⟩=some (.int .i64 y):=(HB.out.cell (p:=⟨bc,oc+0,none⟩) hlc).trans HCC.out;have hdl:decide ((0:Int)<r.cs.length)=true:=by simp;omega
  clear HCA HCC;refine di 12 xk (N:=50) rfl xk xk au (JS w3 (w.heap.size+1+1) 3) (RK (w.heap.size+1+1) 3 [.int .i64 y]) (gU [.is (.agg (fO (0,0)).toArray),.is (.pointer (some ⟨bu,0,none⟩)),.is (.pointer (some ⟨bu,0,none⟩)),.is (.pointer (some ⟨bu,0,none⟩)),.is (.pointer (some ⟨bu,15,none⟩)),.is (.pointer (some ⟨bu,17,none⟩)),.is (.slice (some ⟨bc,oc,none⟩) r.cs.length A.cc),.is (.pointer (some ⟨bc,oc,none⟩)),.is (.int .i64 y),.is (.int .i64 e),.any _,.now (fun v9=>BX v9 (w.heap.size+1+1) 3 [.int .i64 y]) (fun _ _ hr h1=>hr h1)]) (dA _) ⟨EN _ _,_,HX.out.at 1 rfl⟩ ?steps ?fin
  case steps=>
   refine ⟨?o0,?o1,?o2,?o3,?o4,?o5,?o6,?o7,?o8,?o9,?o10,?o11,trivial⟩<;>intro u a w' ev hJ hd K hK
   case o0=>
    have HK:=hid hK;clear hK ev hd;go_simp;exact HK.out _ _ aS hJ rfl (fun h=>h)
   case o1=>
    have e0:tg a 0= .pointer (some ⟨bu,0,none⟩):=ev 0 au;have HK:=hid hK;clear hK ev hd;go_simp;exact HK.out _ _ aS hJ rfl (fun h=>h)
   case o2=>
    have e26:tg a 26= .pointer (some ⟨bu,0,none⟩):=(ev 26 au).trans (hd 1 _ xk rfl);have HK:=hid hK;clear hK ev hd;go_simp;exact HK.out _ _ aS hJ rfl (fun h=>h)
   case o3=>
    have e27:tg a 27= .pointer (some ⟨bu,0,none⟩):=(ev 27 au).trans (hd 2 _ xk rfl);have HK:=hid hK;clear hK ev hd;go_simp;exact HK.out _ _ aS hJ rfl (fun h=>h)
   case o4=>
    have e28:tg a 28= .pointer (some ⟨bu,0,none⟩):=(ev 28 au).trans (hd 3 _ xk rfl);have HK:=hid hK;clear hK ev hd;go_simp;exact HK.out _ _ aS hJ rfl (fun h=>h)
   case o5=>
    have e29:tg a 29= .pointer (some ⟨bu,15,none⟩):=(ev 29 au).trans (hd 4 _ xk rfl);have HK:=hid hK;clear hK ev hd;go_simp;exact HK.out _ _ aS hJ rfl (fun h=>h)
   case o6=>
    have e30:tg a 30= .pointer (some ⟨bu,17,none⟩):=(ev 30 au).trans (hd 5 _ xk rfl);have g0:=fF c17 (hJ.1.other bu xo);have HK:=hid hK;clear hK ev hd;go_simp;exact HK.out _ _ aS hJ rfl (fun h=>h)
   case o7=>
    have e31:tg a 31= .slice (some ⟨bc,oc,none⟩) r.cs.length A.cc:=(ev 31 au).trans (hd 6 _ xk rfl);have HK:=hid hK;clear hK ev hd;go_simp;exact HK.out _ _ aS hJ rfl (fun h=>h)
   case o8=>
    have e32:tg a 32= .pointer (some ⟨bc,oc,none⟩):=(ev 32 au).trans (hd 7 _ xk rfl);have g0:=fF ad8 (hJ.1.other bc xo);have HK:=hid hK;clear hK ev hd;go_simp;exact HK.out _ _ aS hJ rfl (fun h=>h)
   case o9=>
    have e9:tg a 9= .int .i64 e:=ev 9 au;have HK:=hid hK;clear hK ev hd;go_simp;exact HK.out _ _ aS hJ rfl (fun h=>h)
   case o10=>
    have e4:tg a 4= .pointer (some ⟨w.heap.size+1,0,none⟩):=ev 4 au;have e25:tg a 25= .agg (fO (0,0)).toArray:=(ev 25 au).trans (hd 0 _ xk rfl);have h0:=hJ.1.bx (HX.out.at 2 rfl) xo;have hb:=zN w' (w.heap.size+1) (fO (0,0)).toArray;have hq:BX (w'.setRow (w.heap.size+1) (fO (0,0)).toArray) (w.heap.size+1) 60 (fO (0,0)):=setRow_heap w' _ _ _ _ (0,0) h0;exact wp_store_row 60 (.tmp 4) (.tmp 25) rfl (w.heap.size+1) (fO (0,0)).toArray e4 e25 60 (fO (0,0)).toArray h0 xk rfl (f_ _) (hK _ _ (fun _=>rfl) ⟨hJ.1.same hb (HX.out.at 2 rfl) hq,hJ.2.elim fun v hv=>⟨v,hb.bx hv xo⟩⟩ trivial (fun h=>hb.bx h xo))
   case o11=>
    have e5:tg a 5= .pointer (some ⟨w.heap.size+1+1,0,none⟩):=ev 5 au;have e33:tg a 33= .int .i64 y:=(ev 33 au).trans (hd 8 _ xk rfl);obtain ⟨hj1,v,hv⟩:=hJ;have c0:=aI hv 0 _ rfl;have f0:=gK hv (i:=0) (by show (0:Nat)<1;decide);have HK:=hid hK;have HV:=hid hv;have HJ:=hid hj1;clear hK ev hd hv hj1;go_simp;exact HK.out _ _ (fun _=>rfl) ⟨HJ.out.trans (iD _ _ _ _),_,iI HV.out 0 _⟩ (iI HV.out 0 _) (fun _=>iI HV.out 0 _)
  case fin=>
   intro u w4 hJ hG;have h34:u 34= .int .i64 e:=hG 9 _ rfl;have hn4:BX w4 (w.heap.size+1+1) 3 [.int .i64 y]:=hG 11 _ rfl;have YW:=hJ.1.bx (HX.out.at 2 rfl) xo;have he4:=hJ.1.bx (HX.out.at 0 rfl) xo;have hb4:=HB.out.trans (hJ.1.bel _ xo);have c6:=aI he4 0 _ rfl;have f6:=gK he4 (i:=0) (by show (0:Nat)<1;decide);have H4:=hid (And.intro YW (And.intro hn4 (And.intro he4 hb4)));clear hG hJ c17 ad8 hn4 YW he4 hb4;simp only [aX,kR,dstsOf,List.take_succ_cons,List.take_zero,List.filterMap_cons,List.filterMap_nil,List.contains_cons,List.contains_nil,Nat.reduceBEq,Bool.or_false,Bool.false_or,Bool.or_true,Bool.true_or,if_true,if_false,Bool.false_eq_true,Nat.reduceAdd,Nat.zero_add,List.drop_succ_cons,List.drop_zero,h34];go_wp2
   obtain ⟨YW,hn4,he4,hb4⟩:=H4.out;have hr:=iD w4 (w.heap.size+1+1+1) 0 (.int .i64 e);exact qp (zT rfl rfl rfl rfl (ag _ Tryz.underlying60 rfl xk (aI (hr.bx YW xo))) (bJ Tryz.underlying3 rfl (aI (hr.bx hn4 xo) 0 _ rfl)) (bJ Tryz.underlying38 rfl (aI (iI he4 0 _) 0 _ rfl))) ⟨rfl,hb4.trans (hr.bel _ xo)⟩
theorem Zg (r:bK) (A:dZ) (key:Int) (w:World) (bu:Nat) (hx:BX w bu 94 (bz r A)) (i:Nat) (s:Int) (L:List (Int×Int)) (Pp:Int×Int) (N:Int) (hL:L.length<=65536) (hs0:0<=s) (hs1:s<=65536)
    (hit:∀k,k<L.length->(∀j,j<k->(L.getD j (0,0)).1<key)->key<=(L.getD k (0,0)).1->L.getD k (0,0)=Pp/\s+(k:Int)=N) (hex:¬ ∀j,j<L.length->(L.getD j (0,0)).1<key)
    (HM:Hid (∀(W:World),Below w.heap.size w W->Calls Tryz.prog 101 #[.agg (vX r A).toArray,.int .i64 key] W (aC W (.tuple #[.int .i64 i,.int .i64 s,.int .i64 0]))))
    (IT:Hid (∀(W:World) (b1 b2:Nat),Below w.heap.size w W->W.cell? ⟨b1,0,none⟩=some (.pointer (some ⟨bu,0,none⟩))->W.cell? ⟨b2,0,none⟩=some (.int .i64 i)->BX W bu 94 (bz r A)->Iter Tryz.prog 109 #[.pointer (some ⟨b1,0,none⟩),.pointer (some ⟨b2,0,none⟩)] (sD L) F6 W)):
    Calls Tryz.prog 52 #[.pointer (some ⟨bu,0,none⟩),.int .i64 key] w (aC w (.tuple #[uw Pp,.int .i64 N,.int .i64 0])):=by
 have hlU:=aY hx;have HIT:=hid hit;have HEX:=hid hex;clear hit hex;have HU:=hid hx;clear hx;refine dM Tryz.func52 rfl ?_;simp only [Tryz.ntmps52,List.size_toArray,List.length_cons,List.length_nil,Nat.reduceAdd,Nat.reduceSub,Array.replicate_succ,Array.replicate_zero,List.push_toArray,List.append_toArray,List.nil_append,List.cons_append];go_upto_region 1 with (fail)
 generalize hw0:(((w.alloc _).alloc _).alloc _).alloc _=w0;obtain ⟨hb0,hx⟩:=KO (l1:=[.int .i64 key]) (l2:=fO (0,0)) (l3:=[.int .i64 0]) (l4:=[.int .i64 0]) hw0;have HX:Hid (lm w0 [(w.heap.size+1+1+1,38,[.int .i64 0]),(w.heap.size+1+1,3,[.int .i64 0]),(w.heap.size+1,60,fO (0,0)),(w.heap.size,2,[.int .i64 key])]):=hid hx;have HB:=hid hb0;have hz0:=hb0.size;clear hw0 hb0 hx;have Y0:w.heap.size+1+1+1<w0.heap.size:=aY (HX.out.at 0 rfl);have afU:w.heap.size+1+1<w0.heap.size:=aY (HX.out.at 1 rfl);have Ef:w.heap.size+1<w0.heap.size:=aY (HX.out.at 2 rfl);have abP:w.heap.size<w0.heap.size:=aY (HX.out.at 3 rfl);replace HU:=hid (jr HB.out HU.out (aY HU.out));have c_k:=aI (HX.out.at 3 rfl) 0 _ rfl;refine rE 14 xk (N:=50) rfl xk xk au (fun w'=>Below w0.heap.size w0 w') (Oo 3 13) (Fj 13 [13,14,15,16,17,18,19,12,20,21,22,8,7] [.is (.pointer (some ⟨bu,0,none⟩)),.is (.pointer (some ⟨bu,0,none⟩)),.is (.pointer (some ⟨bu,0,none⟩)),.is (.pointer (some ⟨bu,15,none⟩)),.is (.agg (vX r A).toArray),.is (.int .i64 key),.is (.tuple #[.int .i64 i,.int .i64 s,.int .i64 0]),.is (.tuple #[.int .i64 i,.int .i64 s,.int .i64 0]),.is (.int .i64 i),.is (.int .i64 s),.is (.int .i64 0),.box w0.heap.size 3 1,.is (.int .i64 i)] (KU w0.heap.size 8 (.int .i64 s))) (zZ DR) (Fh (n:=13) [8] KT xk xk (Nat.le_refl 13) au) br.drew ?steps ?fin
 case steps=>
  refine ⟨?o0,?o1,?o2,?o3,?o4,?o5,?o6,?o7,?o8,?o9,?o10,?o11,?o12,?o13,trivial⟩<;>intro u a w' ev hJ hd K hK
  case o0=>
   have e0:tg a 0= .pointer (some ⟨bu,0,none⟩):=ev 0 au;have HK:=hid hK;clear hK ev hd;go_simp;exact HK.out _ _ aS hJ ⟨rfl,fun h=>absurd h au⟩ ⟨fun _=>Below.refl _ _,fun h=>absurd h au⟩
  case o1=>
   have e13:tg a 13= .pointer (some ⟨bu,0,none⟩):=(ev 13 au).trans (hd 0 _ xk rfl).1;have HK:=hid hK;clear hK ev hd;go_simp;exact HK.out _ _ aS hJ ⟨rfl,fun h=>absurd h au⟩ ⟨fun _=>Below.refl _ _,fun h=>absurd h au⟩
  case o2=>
   have e14:tg a 14= .pointer (some ⟨bu,0,none⟩):=(ev 14 au).trans (hd 1 _ xk rfl).1;have HK:=hid hK;clear hK ev hd;go_simp;exact HK.out _ _ aS hJ ⟨rfl,fun h=>absurd h au⟩ ⟨fun _=>Below.refl _ _,fun h=>absurd h au⟩
  case o3=>
   have e15:tg a 15= .pointer (some ⟨bu,0,none⟩):=(ev 15 au).trans (hd 2 _ xk rfl).1;have HK:=hid hK;clear hK ev hd;go_simp;exact HK.out _ _ aS hJ ⟨rfl,fun h=>absurd h au⟩ ⟨fun _=>Below.refl _ _,fun h=>absurd h au⟩
  case o4=>
   have e16:tg a 16= .pointer (some ⟨bu,15,none⟩):=(ev 16 au).trans (hd 3 _ xk rfl).1;exact mO 33 (.tmp 16) (bu) 15 (vX r A) rfl e16 Tryz.underlying33 rfl xk (fP (jr hJ HU.out (aY HU.out)) 15 rfl) (hK _ _ aS hJ ⟨rfl,fun h=>absurd h au⟩ ⟨fun _=>Below.refl _ _,fun h=>absurd h au⟩)
  case o5=>
   have e3:tg a 3= .pointer (some ⟨w.heap.size,0,none⟩):=ev 3 au;have g0:=(hJ.cell (p:=⟨w.heap.size,0,none⟩) abP).trans c_k;have HK:=hid hK;clear hK ev hd;go_simp;exact HK.out _ _ aS hJ ⟨rfl,fun h=>absurd h au⟩ ⟨fun _=>Below.refl _ _,fun h=>absurd h au⟩
  case o6=>
   have e17:tg a 17= .agg (vX r A).toArray:=(ev 17 au).trans (hd 4 _ xk rfl).1;have e18:tg a 18= .int .i64 key:=(ev 18 au).trans (hd 5 _ xk rfl).1;have HK:=hid hK;have HC:=hid (HM.out w' (aj hJ HB.out HB.out.size));have lY:=hJ.size;have HJ:=hid hJ;clear hK ev hd hJ;go_simp;refine HC.out.mono ?_;rintro e w'' ⟨rfl,hb⟩;exact HK.out _ _ aS (HJ.out.trans (hb.mono lY)) ⟨rfl,fun h=>absurd h au⟩ ⟨fun _=>hb,fun h=>absurd h au⟩
  case o7=>
   have e19:tg a 19= .tuple #[.int .i64 i,.int .i64 s,.int .i64 0]:=(ev 19 au).trans (hd 6 _ xk rfl).1;have HK:=hid hK;clear hK ev hd;go_simp;exact HK.out _ _ aS hJ ⟨rfl,fun h=>absurd h au⟩ ⟨fun _=>Below.refl _ _,fun h=>absurd h au⟩
  case o8=>
   have e12:tg a 12= .tuple #[.int .i64 i,.int .i64 s,.int .i64 0]:=(ev 12 au).trans (hd 7 _ xk rfl).1;have HK:=hid hK;clear hK ev hd;go_simp;exact HK.out _ _ aS hJ ⟨rfl,fun h=>absurd h au⟩ ⟨fun _=>Below.refl _ _,fun h=>absurd h au⟩
  case o9=>
   have e12:tg a 12= .tuple #[.int .i64 i,.int .i64 s,.int .i64 0]:=(ev 12 au).trans (hd 7 _ xk rfl).1;have HK:=hid hK;clear hK ev hd;go_simp;exact HK.out _ _ aS hJ ⟨rfl,fun h=>absurd h au⟩ ⟨fun _=>Below.refl _ _,fun h=>absurd h au⟩
  case o10=>
   have e12:tg a 12= .tuple #[.int .i64 i,.int .i64 s,.int .i64 0]:=(ev 12 au).trans (hd 7 _ xk rfl).1;have HK:=hid hK;clear hK ev hd;go_simp;exact HK.out _ _ aS hJ ⟨rfl,fun h=>absurd h au⟩ ⟨fun _=>Below.refl _ _,fun h=>absurd h au⟩
  case o11=>
   have HK:=hid hK;have lY:=hJ.size;have HJ:=hid hJ;clear hK ev hd hJ;go_simp;exact HK.out _ _ aS (HJ.out.alloc lY _) ⟨⟨_,_,rfl,lY,dR _ [.int .i64 0] _,rfl⟩,fun h=>absurd h au⟩ ⟨fun _=>br.alloc (Nat.le_refl _) _,fun h=>absurd h au⟩
  case o12=>
   have e20:tg a 20= .int .i64 i:=(ev 20 au).trans (hd 8 _ xk rfl).1;have HK:=hid hK;clear hK ev hd;go_simp;exact HK.out _ _ aS hJ ⟨rfl,fun h=>absurd h au⟩ ⟨fun _=>Below.refl _ _,fun h=>absurd h au⟩
  case o13=>
   obtain ⟨b,cs,e8',hb,hh,hn⟩:(dN.box w0.heap.size 3 1).holds (u 8) w':=(hd 11 _ xk rfl).1;obtain ⟨v,rfl⟩:=Vt hn;have hv:BX w' b 3 [v]:=hh;have e8:=(ev 8 au).trans e8';have e21:tg a 21= .int .i64 s:=(ev 21 au).trans (hd 9 _ xk rfl).1;have c0:=aI hv 0 _ rfl;have f0:=gK hv (i:=0) (by show (0:Nat)<1;decide);have HK:=hid hK;have HV:=hid hv;have HJ:=hid hJ;have HE:=hid e8';clear hK ev hd hv hJ hh e8';go_simp;exact HK.out _ _ (fun _=>rfl) (HJ.out.setCell (show w0.heap.size<=(⟨b,0,none⟩:Addr).block from hb) _) ⟨trivial,fun _=>⟨b,HE.out,hb,iI HV.out 0 _⟩⟩ ⟨fun h=>absurd rfl h,fun _=>⟨b,_,_,HV.out,iI HV.out 0 _,rfl,World.size_setCell _ _ _,fun q hq=>ae _ _ _ hq⟩⟩
 case fin=>
  intro u w3 hJ hG;have h22:u 22= .int .i64 0:=(hG 10 _ rfl).1;have h7:u 7= .int .i64 i:=(hG 12 _ rfl).1;obtain ⟨b8,h8,hb8,hx8⟩:KU w0.heap.size 8 (.int .i64 s) u w3:=(hG 13 _ rfl).2 rfl;replace HX:=hid (HX.out.below hJ);replace HU:=hid (jr hJ HU.out (aY HU.out));replace HB:=xv hJ HB;have hz3:=hJ.size;have hl8:=aY hx8;have HX8:=hid hx8;clear hG hJ c_k hx8;simp only [aX,kR,dstsOf,List.take_succ_cons,List.take_zero,List.filterMap_cons,List.filterMap_nil,List.contains_cons,List.contains_nil,Nat.reduceBEq,Bool.or_false,Bool.false_or,Bool.or_true,Bool.true_or,if_true,if_false,Bool.false_eq_true,Nat.reduceAdd,Nat.zero_add,List.drop_succ_cons,List.drop_zero,h22,h7,h8];go_wp2_with (fail)
  refine (FO _ _ _).mono ?_;rintro e w4 ⟨rfl,hw4⟩;obtain ⟨hb4,hx4⟩:=iY (l1:=[.pointer (some ⟨bu,0,none⟩)]) (l2:=[.int .i64 i]) hw4;have q1:=aI (hx4.at 1 rfl) 0 _ rfl;have q2:=aI (hx4.at 0 rfl) 0 _ rfl;have HL4:Hid (lm w4 [(b8,3,[.int .i64 s]),(w.heap.size+1+1+1,38,[.int .i64 0]),(w.heap.size+1+1,3,[.int .i64 0]),(w.heap.size+1,60,fO (0,0)),(w.heap.size,2,[.int .i64 key])]):=hid ((HX.out.cons' HX8.out).below hb4);have IT4:=hid (IT.out w4 _ _ (aj hb4 HB.out HB.out.size) q1 q2 (jr hb4 HU.out (aY HU.out)));have HB4:=xv hb4 HB;have NR:=hb4.size;clear hw4 hx4 q1 q2 hb4 HX HX8 HU HB;go_wp2
  refine qj (xs:=sD L) (Kp:=F6) rfl (enters_of Tryz.func109 xk rfl) IT4.out br (fun h k=>h.trans k) ?kb ?ps
    (fun k W=>lm W [(b8,3,[.int .i64 s]),(w.heap.size+1+1+1,38,[.int .i64 0]),(w.heap.size+1+1,3,[.int .i64 0]),(w.heap.size+1,60,fO (0,0)),(w.heap.size,2,[.int .i64 key])]/\Below w.heap.size w W/\w4.heap.size<=W.heap.size/\∀j,j<k->(L.getD j (0,0)).1<key)
    (fun c W=>c= .ret/\BX W (w.heap.size+1) 60 (fO Pp)/\BX W (w.heap.size+1+1) 3 [.int .i64 N]/\BX W (w.heap.size+1+1+1) 38 [.int .i64 0]/\Below w.heap.size w W) ?hI ?hX ?h0 ?round ?done ?stop
  case kb=>
   intro W q o o' hl hq ho k o2 hk ho2;exact (Calm.putObj (B:=0) o' (Nat.zero_le _) hq ho).cells k o2 hk ho2
  case ps=>
   intro x hx;simp only [sD,List.mem_map] at hx;obtain ⟨k,_,rfl⟩:=hx;rfl
  case hI=>
   rintro k W W' ⟨h1,h2,h3,h4⟩ hc;exact ⟨h1.calm hc,hc.below HB4.out.size h2,Nat.le_trans h3 hc.size,h4⟩
  case hX=>
   rintro c W W' ⟨h0,h1,h2,h3,h4⟩ hc;exact ⟨h0,hc.cells _ _ h1 rfl,hc.cells _ _ h2 rfl,hc.cells _ _ h3 rfl,hc.below HB4.out.size h4⟩
  case h0=>exact ⟨HL4.out,HB4.out,Nat.le_refl _,fun j hj=>absurd hj (Nat.not_lt_zero _)⟩
  case done=>
   intro D W hD hi hK;exact absurd (fun j hj=>hi.2.2.2 j (by rw [ny];exact hj)) HEX.out
  case stop=>
   intro D c W hD hX hK;obtain ⟨rfl,hp,hn,he,hbel⟩:=hX;have hcalm:Calm w4.heap.size W (W.putObj D (.deferred none)):=Calm.putObj _ hD hK rfl;have H4:=hid (And.intro hp (And.intro hn (And.intro he hbel)));clear hp hn he hbel HL4 IT4;go_wp2
   exact jo hK (zT rfl rfl rfl rfl (ag _ Tryz.underlying60 rfl xk (aI (hcalm.cells _ _ H4.out.1 rfl))) (bJ Tryz.underlying3 rfl (aI (hcalm.cells _ _ H4.out.2.1 rfl) 0 _ rfl)) (bJ Tryz.underlying38 rfl (aI (hcalm.cells _ _ H4.out.2.2.1 rfl) 0 _ rfl))) ⟨rfl,hcalm.below HB4.out.size H4.out.2.2.2⟩
  case round=>
   intro q k W hq hk hi;rw [ny] at hk;rw [yU L hk];obtain ⟨hbx,hbel,hzW,hlow⟩:=hi;have HV:Hid (key<=(L.getD k (0,0)).1->fO Pp=[.int .i64 (L.getD k (0,0)).1,.int .i64 (L.getD k (0,0)).2]/\N=s+(k:Int)):=hid fun h=>by
    obtain ⟨h1,h2⟩:=HIT.out k hk hlow h;exact ⟨by rw [<-h1];rfl,h2.symm⟩
   have HW:Hid ((L.getD k (0,0)).1<key->∀j,j<k+1->(L.getD j (0,0)).1<key):=hid fun h j hj=>by
    rcases Nat.lt_or_ge j k with q|q
    . exact hlow j q
    . rw [show j=k by omega];exact h
   generalize (L.getD k (0,0)).1=x at *;generalize (L.getD k (0,0)).2=y at *;have F7:=hid hbx;have ru:=hid hbel;have hwr:IntKind.i64.wrap (s+(k:Int))=s+(k:Int):=IntWalk.i64_in _ xo;clear hbx hbel hlow HIT HEX HL4 IT4;gi_wp2
   have hab:Below W.heap.size W (W.alloc (.cells #[.int .i64 x,.int .i64 y] 60)):=br.alloc (Nat.le_refl _) _;refine ⟨jC hab,F6.below hab,?_⟩;intro W2 hc;have BB:Hid (lm W2 ((W.heap.size,60,[.int .i64 x,.int .i64 y])::[(b8,3,[.int .i64 s]),(w.heap.size+1+1+1,38,[.int .i64 0]),(w.heap.size+1+1,3,[.int .i64 0]),(w.heap.size+1,60,fO (0,0)),(w.heap.size,2,[.int .i64 key])])):=hid ((oU F7.out [.int .i64 x,.int .i64 y] _).calm hc);have HB2:=hid (hc.below (by first|exact HB4.out.size|omega) (aj hab ru.out ru.out.size));have Um:W.heap.size<W2.heap.size:=aY (BB.out.at 0 rfl);have q0:=aI (BB.out.at 0 rfl) 0 _ rfl;have ck:=aI (BB.out.at 5 rfl) 0 _ rfl;clear hab hc F7 ru;by_cases hkey:key<=x
   . have he:decide (key<=x)=true:=by simpa using hkey
     obtain ⟨hpp,hN⟩:=HV.out hkey;have HPP:=hid hpp;have HN:=hid hN;have g0:=aI (BB.out.at 0 rfl) 1 _ rfl;have c8:=aI (BB.out.at 1 rfl) 0 _ rfl;clear hkey hpp hN HV HW;gi_wp2
     refine gX 5 xk (N:=50) rfl xk xk au (JS2 W2 (w.heap.size+1) 60) (RK (w.heap.size+1) 60 [.int .i64 x,.int .i64 y]) (gU [.is (.agg #[.int .i64 x,.int .i64 y]),.is (.int .i64 s),.is (.int .i64 k),.is (.int .i64 (s+k)),.now (fun v9=>BX v9 (w.heap.size+1) 60 [.int .i64 x,.int .i64 y]) (fun _ _ hr h1=>hr h1)]) (dA _) ⟨EN _ _,_,_,BB.out.at 4 rfl⟩ ?steps ?fin
     case steps=>
      refine ⟨?o0,?o1,?o2,?o3,?o4,trivial⟩<;>intro u a w' ev hJ hd K hK
      case o0=>
       rw [if_pos (bg rfl)];have e11:tg a 11= .pointer (some ⟨W.heap.size,0,none⟩):=ev 11 au;have y0:=(World.cell?_of_block (a:=⟨W.heap.size,0,none⟩) (hJ.1.other (W.heap.size) xo)).trans q0;have y1:=(World.cell?_of_block (a:=⟨W.heap.size,1,none⟩) (hJ.1.other (W.heap.size) xo)).trans g0;have HK:=hid hK;clear hK ev hd;go_simp;exact HK.out _ _ aS hJ rfl (fun h=>h)
      case o1=>
       rw [if_pos (bg rfl)];have e8:tg a 8= .pointer (some ⟨b8,0,none⟩):=ev 8 au;have g0:=(World.cell?_of_block (a:=⟨b8,0,none⟩) (hJ.1.other (b8) xo)).trans c8;have HK:=hid hK;clear hK ev hd;go_simp;exact HK.out _ _ aS hJ rfl (fun h=>h)
      case o2=>
       rw [if_pos (bg rfl)];have e10:tg a 10= .int .i64 k:=ev 10 au;have HK:=hid hK;clear hK ev hd;go_simp;exact HK.out _ _ aS hJ rfl (fun h=>h)
      case o3=>
       rw [if_pos (bg rfl)];have e45:tg a 45= .int .i64 s:=(ev 45 au).trans (hd 1 _ xk rfl);have e46:tg a 46= .int .i64 k:=(ev 46 au).trans (hd 2 _ xk rfl);have HK:=hid hK;clear hK ev hd;go_simp;exact HK.out _ _ aS hJ rfl (fun h=>h)
      case o4=>
       rw [if_pos (bg rfl)];have e4:tg a 4= .pointer (some ⟨w.heap.size+1,0,none⟩):=ev 4 au;have e44:tg a 44= .agg #[.int .i64 x,.int .i64 y]:=(ev 44 au).trans (hd 0 _ xk rfl);obtain ⟨hj1,v,v',hv⟩:=hJ;have y0:=aI hv 0 _ rfl;have y1:=aI hv 1 _ rfl;have f0:=gK hv (i:=0) (by show (0:Nat)<2;decide);have f1:=gK hv (i:=1) (by show (1:Nat)<2;decide);have HK:=hid hK;have HV:=hid hv;have HJ:=hid hj1;clear hK ev hd hv hj1;go_simp;exact HK.out _ _ (fun _=>rfl) ⟨HJ.out.trans ((iD _ _ _ _).trans (iD _ _ _ _)),_,_,iI (iI HV.out 0 _) 1 _⟩ (iI (iI HV.out 0 _) 1 _) (fun _=>iI (iI HV.out 0 _) 1 _)
     case fin=>
      intro u W4 hJ hG;have h47:u 47= .int .i64 (s+k):=hG 3 _ rfl;have YW:BX W4 (w.heap.size+1) 60 [.int .i64 x,.int .i64 y]:=hG 4 _ rfl;have hn4:=hJ.1.bx (BB.out.at 3 rfl) xo;have he4:=hJ.1.bx (BB.out.at 2 rfl) xo;have hb4:=HB2.out.trans (hJ.1.bel _ xo);have hk4:=hJ.1.keeps (BB.out.at 4 rfl);have c5:=aI hn4 0 _ rfl;have f5:=gK hn4 (i:=0) (by show (0:Nat)<1;decide);have c6:=aI he4 0 _ rfl;have f6:=gK he4 (i:=0) (by show (0:Nat)<1;decide);have H4:=hid (And.intro YW (And.intro hn4 (And.intro he4 (And.intro hb4 hk4))));clear hG hJ hn4 YW he4 hb4 hk4 q0 g0 ck c8;simp only [aX,kR,dstsOf,List.take_succ_cons,List.take_zero,List.filterMap_cons,List.filterMap_nil,List.contains_cons,List.contains_nil,Nat.reduceBEq,Bool.or_false,Bool.false_or,Bool.or_true,Bool.true_or,if_true,if_false,Bool.false_eq_true,Nat.reduceAdd,Nat.zero_add,List.drop_succ_cons,List.drop_zero,h47];gi_wp2
      obtain ⟨YW,hn4,he4,hb4,hk4⟩:=H4.out;have r5:=iD W4 (w.heap.size+1+1) 0 (.int .i64 (s+k));have r6:=iD (W4.setCell ⟨w.heap.size+1+1,0,none⟩ (.int .i64 (s+k))) (w.heap.size+1+1+1) 0 (.int .i64 0);refine ⟨(hk4.trans (KeepsOthers.setCell _ _ _)).trans (KeepsOthers.setCell _ _ _),rfl,?_,?_,iI (r5.bx he4 xo) 0 _,(hb4.trans (r5.bel _ xo)).trans (r6.bel _ xo)⟩
      . rw [HPP.out];exact r6.bx (r5.bx YW xo) xo
      . rw [HN.out];exact r6.bx (iI hn4 0 _) xo
   . have he:decide (key<=x)=false:=by simpa using hkey
     have hlow:=HW.out xo;have HLW:=hid hlow;clear hkey hlow HV HW;gi_wp2
     exact ⟨⟨Nat.le_refl _,fun _ _ h _=>h⟩,fun _ _ h _=>h,BB.out.2,HB2.out,by omega,HLW.out⟩
end
section
open Go.RowKit Go.Shelf Go.Sort
end
end Go.Proofs.YtbedhbpgnfffmaaGreatDoor

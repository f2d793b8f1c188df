/- Merged: DenW, GapRes, PmGtPl, PmGtWalk, Open, OpenIx, OpenSl, OpenCf, OpenSlc. -/
import Derived.Test.YtmnlagmmbfjbeaaDoorPmaGetsP31
import Derived.Test.YtmnlagmmbfjbeaaDoorPmaGetsP22
import Derived.Test.YtmnlagmmbfjbeaaDoorPmaGetsP33
import Derived.Test.YtmnlagmmbfjbeaaDoorPmaGetsP34
import Derived.Test.YtmnlagmmbfjbeaaDoorPmaGetsP1
import Derived.ProofKit
import Derived.OpenShut
import Derived.ShutString
import Derived.ChangeOld
import Derived.Below
import Derived.Lib.SmallJoins
import Derived.Test.YtmnlagmmbfjbeaaDoorPmaGetsP12
import Derived.Test.YtmnlagmmbfjbeaaDoorPmaGetsP2
import Derived.Test.YtmnlagmmbfjbeaaDoorPmaGetsP3
import Derived.Test.YtmnlagmmbfjbeaaDoorPmaGetsP10
import Derived.Deep.SlicePairs
namespace Go.Proofs.YtmnlagmmbfjbeaaDoor
set_option maxRecDepth 100000
set_option maxHeartbeats 40000000
set_option linter.unusedVariables false
set_option linter.unusedSimpArgs false
section
open Go.RowKit
theorem wide_den {c:Cfg} {n a H:Nat} (k:CapC c n a H) (laid:Int) {L:List (Int×Int)} (hL:L.length≤n) (hmost:(L.length:Int)≤c.most) (ok:okW c n H H (L.length:Int)):gapE c (wideC (2^a) (2^H) laid L)=0:=by
 unfold wideC;have hn:n=2^a*2^H:=by have:=k.all;omega
 have ha4:2^2≤2^a:=Nat.pow_le_pow_right xo k.a2;have ha6:2^a≤2^6:=Nat.pow_le_pow_right xo k.a6;have g:=emptyL_gd (S:=2^a) (M:=2^H) xo xo (Nat.two_pow_pos H) k.big laid;subst hn;have hall:=cnt_all g (Nat.zero_le _) (Nat.le_refl _) (L:=L) xo;refine gapE_den k (g.sp (Nat.zero_le _) (Nat.le_refl _) xo) ?_ fun j hj i hi=> ?_
 · rw [hall];exact hmost
 · unfold cntH;have e:2^a*2^H=2^(H-j)*2^(a+j):=by rw [←Nat.pow_add,←Nat.pow_add];congr 1;omega
   rcases Nat.eq_or_lt_of_le hj with q|q
   · subst q;have:i=0:=by rw [Nat.sub_self] at hi;simpa using hi
     subst this;rw [Nat.zero_mul,Nat.zero_add,Nat.one_mul,Nat.pow_add];rw [hall];exact ok
   · obtain ⟨x,ex,x1,x2⟩:=cnt_part (lo:=0) (w:=2^(a+j)) (P:=2^(H-j)) (q:=i) g (by rw [Nat.zero_add,←e];exact Nat.le_refl _) (by rw [←e];exact hL) (Nat.two_pow_pos _) (Nat.two_pow_pos _) hi;simp only [Nat.zero_add] at ex;rw [←e] at ex;rw [ex];exact ok_share k q (Nat.le_refl _) ok x1 x2
theorem CapC.wtop {c:Cfg} {size:Int} {a H:Nat} (k:CapC c size a H):wdC c H=size:=by rw [wdC,k.seg,k.all];push_cast;rfl
theorem ful_top {c:Cfg} {size:Int} {a H:Nat} (k:CapC c size a H) {m:Int} (h:m*c.den≤c.rh*size):fulB c H H m=true:=by
 unfold fulB;rw [k.wtop];split
 · rw [decide_eq_true_eq,Int.mul_comm size];exact h
 · rw [decide_eq_true_eq,Int.sub_self,Int.mul_zero,Int.zero_add,Int.mul_right_comm,←Int.mul_assoc,Int.mul_comm size];exact Int.mul_le_mul_of_nonneg_right h xo
theorem spr_top {c:Cfg} {size:Int} {a H:Nat} (k:CapC c size a H) {m:Int} (h:size=c.least∨size*c.rl≤(m+1)*c.den):sprB c size H H m=true:=by
 rw [sprB_or];rcases h with h|h
 · exact .inl h
 · right;unfold sprN;rw [k.wtop,Int.sub_self,Int.mul_zero,Int.zero_add,Int.mul_right_comm,←Int.mul_assoc];exact Int.mul_le_mul_of_nonneg_right h xo
theorem takF_min (c:Cfg) (n:Int):∀(k:Nat) (size:Int),0≤size→takF c n k size=size∨∃t,takF c n k size=2*t∧0≤t∧c.rh*t<n*c.den
  | 0,size,_=> .inl rfl
  | k+1,size,h0=>by
   rw [takF];split
   · rename_i h
     rcases takF_min c n k (2*size) xo with e | ⟨t,e,h1,h2⟩
     · exact .inr ⟨size,e,h0,h⟩
     · exact .inr ⟨t,e,h1,h2⟩
   · exact .inl rfl
theorem takF_mono {c:Cfg} {n m:Int} (hd:0≤c.den) (hnm:n≤m):∀(k:Nat) (size:Int),0≤size→takF c n k size≤takF c m k size
  | 0,size,_=>Int.le_refl _
  | k+1,size,h0=>by
   have h1:=Int.mul_le_mul_of_nonneg_right hnm hd;have hb:=(takF_bd (c:=c) (n:=m) (k+1) size h0).1;rw [takF];split
   · rename_i h
     rw [takF,if_pos xo];exact takF_mono hd hnm k (2*size) xo
   · exact hb
theorem cap_taks {c:Cfg} {a:Nat} (hm:cfMay c=true) (hs:c.seg=((2^a:Nat):Int)) {n:Nat} (hn:(n:Int)≤c.most):∃H,CapC c (taks c n) a H∧okW c (taks c n) H H n∧(n:Int)≤taks c n:=by
 have hd:=cfMay_head hm;obtain ⟨d0,d1,d2,d3,d4,d5,d6,d7,d8,d9,d10,d11,d12,d13,d14,d15,d16,d17⟩:=cfHead_num hd;obtain ⟨H',e,hb,hle⟩:=cap_nat hd hs (n:=(n:Int)) xo xo;have tb:=taks_bd hd (n:=(n:Int)) xo xo;have hp:powB (taks c n) c.least (taks c c.most)=true:=by
  refine powB_iff.2 ⟨tb.2.2,takF_mono xo hn 20 c.least xo,?_⟩;rw [e,←Nat.pow_add];exact pwB_two _
 obtain ⟨a',H,k⟩:=capC_of hm hp;have haa:a'=a:=by
  have h1:=k.seg;rw [hs] at h1;have h2:2^a=2^a':=xo;exact Nat.le_antisymm ((Nat.pow_le_pow_iff_right (a:=2) xo).1 xo) ((Nat.pow_le_pow_iff_right (a:=2) xo).1 xo)
 subst haa;refine ⟨H,k,⟨ful_top k ?_,spr_top k ?_⟩,hle⟩
 · exact takF_takes (c:=c) (n:=(n:Int)) xo 20 c.least xo (tak_start xo xo xo d8 d9).1
 · rcases takF_min c n 20 c.least xo with q | ⟨t,q,h1,h2⟩
   · exact .inl q
   · right;have e1:taks c n=2*t:=q;rw [e1];have h3:4*c.rl≤c.rh:=xo;have h4:=Int.mul_le_mul_of_nonneg_right h3 h1;have h5:2*t*c.rl≤4*c.rl*t:=by
      have:0≤c.rl*t:=Int.mul_nonneg xo h1;have e2:2*t*c.rl=2*(c.rl*t):=by rw [Int.mul_assoc,Int.mul_comm t]
      have e3:4*c.rl*t=4*(c.rl*t):=Int.mul_assoc ..;omega
     have h6:(n:Int)*c.den≤((n:Int)+1)*c.den:=Int.mul_le_mul_of_nonneg_right xo xo;omega
theorem capM_pow {c:Cfg} {a H:Nat} {n:Nat} (k:CapC c (taks c n) a H):capM c n=2^H:=by
 rw [capM,k.all,k.seg,Int.toNat_natCast,Int.toNat_natCast,Nat.mul_div_cancel_left _ (Nat.two_pow_pos a)]
theorem cap_den {c:Cfg} {a:Nat} (hm:cfMay c=true) (hs:c.seg=((2^a:Nat):Int)) (laid:Int) {L:List (Int×Int)} (hn:(L.length:Int)≤c.most):gapE c (wideC (2^a) (capM c L.length) laid L)=0:=by
 obtain ⟨H,k,ok,hle⟩:=cap_taks hm hs hn;rw [capM_pow k];have e:=k.all;generalize taks c L.length=size at *;subst e;exact wide_den k laid xo hn ok
theorem nar_den {c:Cfg} {m:Nat}:∀(f:Nat) (size:Int) (a H:Nat),CapC c size a H→H<f→(m:Int)≤size→(m:Int)*c.den≤c.rh*size→∃H',H'≤H∧CapC c (narF c m f size) a H'∧(m:Int)≤narF c m f size∧okW c (narF c m f size) H' H' m
  | 0,_,_,_,_,h,_,_=>by omega
  | f+1,size,a,H,k,h,hm,hf=>by
   rw [narF,k.hgt];cases hs:sprB c size H H m with
   | true=>rw [if_pos rfl];exact ⟨H,Nat.le_refl _,k,hm,ful_top k hf,hs⟩
   | false=>
    rw [if_neg xdd];obtain ⟨H',rfl,k',h8⟩:=nar_step k hs;obtain ⟨d0,d1,d2,d3,d4,d5,d6,d7,d8,d9,d10,d11,d12,d13,d14,d15,d16,d17⟩:=cfHead_num (cfMay_head k.may);obtain ⟨H2,q1,q2,q3,q4⟩:=nar_den (m:=m) f (size/2) a H' k' xo xo (by
     have h1:(m:Int)*c.den≤(m:Int)*(2*c.rh):=Int.mul_le_mul_of_nonneg_left xo xo;have h2:c.rh*(2*(m:Int))≤c.rh*(size/2):=Int.mul_le_mul_of_nonneg_left xo xo;have e:(m:Int)*(2*c.rh)=c.rh*(2*(m:Int)):=by rw [Int.mul_comm,Int.mul_comm 2,Int.mul_assoc]
     omega)
    exact ⟨H2,by omega,q2,q3,q4⟩
end
section
open Go.RowKit
def delL (l:List (Int×Int)) (k:Nat):List (Int×Int):=l.take k++l.drop (k+1)
theorem del_mid (A B:List (Int×Int)) (x:Int×Int):delL (A++x::B) A.length=A++B:=by
 unfold delL;rw [List.take_left,show A++x::B=(A++[x])++B by simp,show A.length+1=(A++[x]).length by simp,List.drop_left]
theorem ful_low {c:Cfg} {size:Int} {a H:Nat} (k:CapC c size a H) {m:Int} (h:fulB c H H m=true):m*c.den≤c.rh*size:=by
 unfold fulB at h;rw [k.wtop] at h;rw [Int.mul_comm c.rh];split at h
 · rw [decide_eq_true_eq] at h;exact h
 · rename_i hH
   rw [decide_eq_true_eq,Int.sub_self,Int.mul_zero,Int.zero_add,Int.mul_right_comm,←Int.mul_assoc] at h;exact Int.le_of_mul_le_mul_right h xo
theorem wide_prs {S M:Nat} (h4:4≤S) (h6:S≤64) (hM:1≤M) (hm:S*M≤65536) (laid:Int) {L:List (Int×Int)} (hL:L.length≤S*M):(wideC S M laid L).ks.length=S*M∧prs (wideC S M laid L) 0 (S*M)=L:=by
 have g:=emptyL_gd h4 h6 hM hm laid;exact ⟨(g.sp (Nat.zero_le _) (Nat.le_refl _) xo).elk,sp_in g (Nat.zero_le _) (Nat.le_refl _) xo⟩
theorem put_res {c:Cfg} {s:SlC} (hu:U64s s.ws) {k:Int} (p:Int×Int) (h:putE c s k=0):
    gapE c (putC c s k p)=0∧prs (putC c s k p) 0 (putC c s k p).ks.length=insL (prs s 0 s.ks.length) k.toNat p:=by
 obtain ⟨h0,k0,k1,k2⟩:=put_zero h;obtain ⟨hc,a,H,kn,hs,hmost,hden⟩:=gap_zero h0;rw [sum_many kn hu] at hmost;have hlt:(manyC s:Int)<c.most:=xo;obtain ⟨g,hlw⟩:=gapN_gd kn hu;obtain ⟨p1,p2,p3,p4,p5,p6⟩:=kn.pows;obtain ⟨n,rfl⟩:∃n:Nat,k=n:=⟨k.toNat,by omega⟩
 have hn:n≤manyC s:=xo;have hat:=homeC_lt p5 n;rw [putC,if_pos h,sgL_eq kn.cap.seg,kn.cap.hgt,Int.toNat_natCast];unfold putN;by_cases ht:topI (ovB c s a H (homeC s n)) (H+1)=H
 · rw [if_pos ht];have hLn:(prs s 0 s.ks.length).length=manyC s:=prs_length _ _ _;have hil:(insL (prs s 0 s.ks.length) n p).length=manyC s+1:=by rw [insL_length (by rw [hLn];exact hn),hLn]
   have hcap:=cap_facts kn (n:=manyC s+1) xo;have hd:=cap_den hc kn.cap.seg s.laid (L:=insL (prs s 0 s.ks.length) n p) (by rw [hil];omega);rw [hil] at hd;obtain ⟨w1,w2⟩:=wide_prs p1 p2 hcap.2.2.1 hcap.2.2.2.1 s.laid (L:=insL (prs s 0 s.ks.length) n p) (by rw [hil];exact hcap.2.2.2.2.1);exact ⟨hd,by rw [w1];exact w2⟩
 · rw [if_neg ht];obtain ⟨h',eh,hh,hroom⟩:=put_room kn hu hat ht;have hht:(topI (ovB c s a H (homeC s n)) (H+1)+1).toNat=h':=xo;simp only [hht];have b:=wnd_bd (a:=a) (at_:=homeC s n) hh (by rw [←kn.nk];exact hat);have hhi:(wnd a h' (homeC s n)+1)*2^(a+h')≤s.ks.length:=by rw [kn.nk];exact b.2.2.2
   obtain ⟨q1,q2⟩:=home_in p5 hn b.2.1 b.2.2.1 hhi;have hil:=insL_length q2 p;have hpl:=prs_length s (wnd a h' (homeC s n)*2^(a+h')) ((wnd a h' (homeC s n)+1)*2^(a+h'));have eww:(wnd a h' (homeC s n)+1)*2^(a+h')=wnd a h' (homeC s n)*2^(a+h')+2^(a+h'):=Nat.succ_mul _ _;have hlh:wnd a h' (homeC s n)*2^(a+h')≤(wnd a h' (homeC s n)+1)*2^(a+h'):=xo;have hd:=put_den kn hu hden hlt hat eh hh (L:=insL (prs s (wnd a h' (homeC s n)*2^(a+h')) ((wnd a h' (homeC s n)+1)*2^(a+h'))) (n-cntW s.ws 0 (wnd a h' (homeC s n)*2^(a+h'))) p) (by rw [hil,hpl];rfl) (by rw [hil,hpl];exact hroom);refine ⟨hd,?_⟩;generalize wnd a h' (homeC s n)*2^(a+h')=lo at *;generalize (wnd a h' (homeC s n)+1)*2^(a+h')=hi at *;have hL:(insL (prs s lo hi) (n-cntW s.ws 0 lo) p).length≤hi-lo:=by rw [hil,hpl];omega
   rw [(g.sp hlh hhi hL).elk,prs_sp g hlh hhi hL,prs_app s (Nat.zero_le lo) (Nat.le_trans hlh hhi),prs_app s hlh hhi,←List.append_assoc];have e0:=prs_length s 0 lo;rw [insL_mid (A:=prs s 0 lo) (B:=prs s lo hi) (C:=prs s hi s.ks.length) (by rw [e0];exact q1) (by rw [e0];exact q2),e0]
theorem take_res {c:Cfg} {s:SlC} (hu:U64s s.ws) {k:Int} (h:takE c s k=0):
    gapE c (takC c s k)=0∧prs (takC c s k) 0 (takC c s k).ks.length=delL (prs s 0 s.ks.length) k.toNat:=by
 obtain ⟨h0,k0,k1⟩:=take_zero h;obtain ⟨hc,a,H,kn,hs,hmost,hden⟩:=gap_zero h0;rw [sum_many kn hu] at hmost;obtain ⟨g,hlw⟩:=gapN_gd kn hu;obtain ⟨p1,p2,p3,p4,p5,p6⟩:=kn.pows;obtain ⟨n,rfl⟩:∃n:Nat,k=n:=⟨k.toNat,by omega⟩
 have hn:n<(plsW s.ws 0 s.ks.length).length:=by rw [plsW_length];unfold manyC at k1;omega
 obtain ⟨hr,hbit,hat⟩:=pls_rank hn;rw [takC,if_pos h,sgL_eq kn.cap.seg,kn.cap.hgt,Int.toNat_natCast];unfold takN;generalize (plsW s.ws 0 s.ks.length).getD n 0=at_ at *;obtain ⟨kz,gz,zl,t1,t2,hzm⟩:=take_in kn hu hat hbit;obtain ⟨d1,d2⟩:=take_den kn hu hden hmost hat hbit;obtain ⟨r1,r2⟩:=prs_tk_all g hat hbit;have e0:=prs_length s 0 at_;have hdel:delL (prs s 0 s.ks.length) n=prs (tkC s at_) 0 s.ks.length:=by
  rw [r1,r2,←hr,←e0];exact del_mid _ _ _
 have hfz:(manyC (tkC s at_):Int)*c.den≤c.rh*(s.ks.length:Int):=by
  have htop:=((denB_iff g).1 hden H (Nat.le_refl _) 0 (by rw [Nat.sub_self];exact Nat.one_pos)).1;have e:cntH s.ws a H 0=manyC s:=by
   rw [cntH,manyC,Nat.zero_mul,Nat.zero_add,Nat.one_mul,Nat.pow_add,kn.nk]
  rw [e] at htop;have hf:=ful_low kn.cap htop;have d0:=cfHead_num (cfMay_head hc);have:(manyC (tkC s at_):Int)*c.den≤(manyC s:Int)*c.den:=Int.mul_le_mul_of_nonneg_right xo xo;omega
 dsimp only;generalize tkC s at_=z at *;obtain ⟨z1,z2,z3,z4,z5,z6⟩:=kz.pows;rw [←zl] at hfz gz;rw [hdel,←zl];by_cases ht1:topI (unfB c z a H at_) (H+1)= -1
 · rw [if_pos ht1];exact ⟨d1 ht1,rfl⟩
 · rw [if_neg ht1];by_cases ht:topI (unfB c z a H at_) (H+1)=H
   · rw [if_pos ht];have hLn:(prs z 0 z.ks.length).length=manyC z:=prs_length _ _ _;have hcn:manyC z≤z.ks.length:=by have:=cntW_le z.ws 0 z.ks.length;unfold manyC;omega
     obtain ⟨H',n1,n2,n3,n4⟩:=nar_den (m:=manyC z) 20 z.ks.length a H kz.cap xo xo hfz;have hnar:narF c (manyC z) 20 z.ks.length=((2^a*2^H':Nat):Int):=n2.all;have hbig:=n2.big;have hdiv:(narF c (manyC z) 20 z.ks.length).toNat/2^a=2^H':=by rw [hnar,Int.toNat_natCast,Nat.mul_div_cancel_left _ xo]
     rw [hdiv];rw [hnar] at n2 n3 n4;have hle:manyC z≤2^a*2^H':=xo;obtain ⟨w1,w2⟩:=wide_prs p1 p2 (Nat.two_pow_pos H') hbig z.laid (L:=prs z 0 z.ks.length) (by rw [hLn];exact hle);refine ⟨wide_den n2 z.laid (by rw [hLn];exact hle) (by rw [hLn];omega) (by rw [hLn];exact n4),by rw [w1];exact w2⟩
   · rw [if_neg ht];obtain ⟨h',eh,hh⟩:∃h':Nat,topI (unfB c z a H at_) (H+1)+1=h'∧h'≤H:=by
      have:=topI_bd (unfB c z a H at_) (H+1);exact ⟨(topI (unfB c z a H at_) (H+1)+1).toNat,by omega,by omega⟩
     have hht:(topI (unfB c z a H at_) (H+1)+1).toNat=h':=xo;simp only [hht];have b:=wnd_bd (a:=a) (at_:=at_) hh (by rw [←kz.nk];omega);have hhi:(wnd a h' at_+1)*2^(a+h')≤z.ks.length:=by rw [kz.nk];exact b.2.2.2
     have eww:(wnd a h' at_+1)*2^(a+h')=wnd a h' at_*2^(a+h')+2^(a+h'):=Nat.succ_mul _ _;have hlh:wnd a h' at_*2^(a+h')≤(wnd a h' at_+1)*2^(a+h'):=xo;have hpl:=prs_length z (wnd a h' at_*2^(a+h')) ((wnd a h' at_+1)*2^(a+h'));have hc2:=cntW_le z.ws (wnd a h' at_*2^(a+h')) ((wnd a h' at_+1)*2^(a+h'));have hd:=d2 h' eh hh (prs z (wnd a h' at_*2^(a+h')) ((wnd a h' at_+1)*2^(a+h'))) (by rw [hpl];rfl) (by rw [hpl];omega);refine ⟨hd,?_⟩;generalize wnd a h' at_*2^(a+h')=lo at *;generalize (wnd a h' at_+1)*2^(a+h')=hi at *;have hL:(prs z lo hi).length≤hi-lo:=by rw [hpl];exact hc2
     rw [(gz.sp hlh hhi hL).elk,prs_sp gz hlh hhi hL,prs_app z (Nat.zero_le lo) (Nat.le_trans hlh hhi),prs_app z hlh hhi,←List.append_assoc]
end
section
open Go.RowKit
theorem ris_split {l:List (Int×Int)} (h:Ris l) (key:Int):(∀p ∈ l.take (belL l key),p.1<key)∧∀p ∈ l.drop (belL l key),key≤p.1:=by
 induction l with
 | nil=>exact ⟨fun p hp=>by simp at hp,fun p hp=>by simp at hp⟩
 | cons q t ih=>
  obtain ⟨h1,h2⟩:=List.pairwise_cons.1 h;obtain ⟨a,b⟩:=ih h2;by_cases hq:q.1<key
  · have e:belL (q::t) key=belL t key+1:=by rw [belL,List.countP_cons_of_pos (by simpa using hq)];rfl
    rw [e,List.take_succ_cons,List.drop_succ_cons];refine ⟨fun p hp=> ?_,b⟩;rcases List.mem_cons.1 hp with rfl|hp
    · exact hq
    · exact a p hp
  · have e:belL (q::t) key=0:=by
      rw [belL,List.countP_eq_zero];intro p hp;rcases List.mem_cons.1 hp with rfl|hp
      · simpa using hq
      · have:=h1 p hp;simp;omega
    rw [e,List.take_zero,List.drop_zero];refine ⟨fun p hp=>by simp at hp,fun p hp=> ?_⟩;rcases List.mem_cons.1 hp with rfl|hp
    · omega
    · have:=h1 p hp;omega
theorem fnd_none {l:List (Int×Int)} {key:Int} (h:∀p ∈ l,p.1≠key):fndL l key=none:=by
 rw [fndL,List.find?_eq_none];intro p hp;simpa using h p hp
theorem fnd_none_iff {l:List (Int×Int)} {key:Int} (h:fndL l key=none):∀p ∈ l,p.1≠key:=by
 rw [fndL,List.find?_eq_none] at h;intro p hp;simpa using h p hp
theorem mid_res {A B:List (Int×Int)} {key val:Int} (hr:Ris (A++B)) (ha:∀p ∈ A,p.1<key) (hb:∀p ∈ B,key<p.1):
    Ris (A++(key,val)::B)∧fndL (A++(key,val)::B) key=some (key,val)∧fndL (A++B) key=none∧∀o,o≠key→fndL (A++(key,val)::B) o=fndL (A++B) o:=by
 obtain ⟨r1,r2,r3⟩:=Ris.apart hr;have hA:fndL A key=none:=fnd_none fun p hp e=>by have:=ha p hp;omega
 have hB:fndL B key=none:=fnd_none fun p hp e=>by have:=hb p hp;omega
 refine ⟨List.pairwise_append.2 ⟨r1,List.pairwise_cons.2 ⟨fun q hq=>hb q hq,r2⟩,fun p hp q hq=> ?_⟩,?_,?_,fun o ho=> ?_⟩
 · rcases List.mem_cons.1 hq with rfl|hq
   · exact ha p hp
   · exact r3 p hp q hq
 · rw [fndL] at hA ⊢;rw [List.find?_append,hA];simp
 · rw [fndL] at hA hB ⊢;rw [List.find?_append,hA,hB];rfl
 · rw [fndL,List.find?_append,List.find?_cons_of_neg (by simpa using fun e=>ho e.symm),fndL,List.find?_append]
theorem ris_B {l:List (Int×Int)} (h:Ris l):risB l=true:=by
 rw [risB,List.all_eq_true];intro i hi;rw [List.mem_range] at hi;rw [risAt];rcases Nat.eq_zero_or_pos i with rfl|h0
 · simp
 · have:=List.pairwise_iff_getElem.1 h (i-1) i xo hi xo;simp [List.getD_eq_getElem?_getD,List.getElem?_eq_getElem hi,List.getElem?_eq_getElem (show i-1<l.length by omega),this]
theorem pmE_mk {c:Cfg} {d:SlC} (h:gapE c d=0) (hr:Ris (prs d 0 d.ks.length)):pmE c d=0:=by
 obtain ⟨hc,a,H,kn,hs,hmost,hden⟩:=gap_zero h;rw [pmE,if_pos h,seekE,if_pos kn.may,if_pos (ris_B hr)]
theorem prs_rank {s:SlC} {key:Int} (h:seekE s=0):∃A B,prs s 0 s.ks.length=A++B∧A.length=rnkC s key∧(∀p ∈ A,p.1<key)∧∀p ∈ B,key≤p.1:=by
 have hb:=bel_rank h key;obtain ⟨h1,h2⟩:=ris_split (seek_ris h) key;refine ⟨(prs s 0 s.ks.length).take (rnkC s key),(prs s 0 s.ks.length).drop (rnkC s key),(List.take_append_drop _ _).symm,?_,by rw [←hb];exact h1,by rw [←hb];exact h2⟩;have:=rnk_le s key;have e:=prs_length s 0 s.ks.length;unfold manyC at this;rw [List.length_take];omega
theorem lay_gap {c:Cfg} {s:SlC} {i:Nat} (hu:U64s s.ws) (h:gapE c s=0) (hi:i<s.ks.length) (hb:bitW s.ws i=true) (x y:Int):gapE c (lyC s i x y)=0∧(lyC s i x y).ks.length=s.ks.length∧U64s (lyC s i x y).ws∧prs (lyC s i x y) 0 s.ks.length=prs s 0 i++(x,y)::prs s (i+1) s.ks.length∧prs s 0 s.ks.length=prs s 0 i++(s.ks.getD i 0,s.vs.getD i 0)::prs s (i+1) s.ks.length:=by
 obtain ⟨hc,a,H,kn,hs,hmost,hden⟩:=gap_zero h;rw [sum_many kn hu] at hmost;obtain ⟨g,hlw⟩:=gapN_gd kn hu;have g2:=g.ly hi x y;have hbit:∀j,bitW (lyC s i x y).ws j=bitW s.ws j:=fun j=>by
  rw [ly_bit g hi];by_cases hj:j=i
  · rw [hj,hb];rfl
  · simp [hj]
 have hcw:∀u v,cntW (lyC s i x y).ws u v=cntW s.ws u v:=fun u v=>cntW_congr fun j _ _=>hbit j
 have hg:gapE c (lyC s i x y)=0:=by
  refine gapE_den kn.cap g2 (by rw [hcw];exact hmost) fun h hh j hj=> ?_
  have:=(denB_iff g).1 hden h hh j hj;unfold cntH at this ⊢;rw [hcw];exact this
 have hp:=(prs_tk_all g hi hb).2;refine ⟨hg,g2.elk,g2.u,?_,hp⟩;have out:∀j,j≠i→bitW (lyC s i x y).ws j=bitW s.ws j∧(lyC s i x y).ks.getD j 0=s.ks.getD j 0∧(lyC s i x y).vs.getD j 0=s.vs.getD j 0:=fun j hj=>⟨hbit j,(ly_out (fun e=>hj e.symm) x y).1,(ly_out (fun e=>hj e.symm) x y).2⟩
 obtain ⟨a1,a2⟩:=ly_at (c:=s) hi (by rw [kn.nv,←kn.nk];exact hi) x y;rw [prs_app _ (Nat.zero_le i) (Nat.le_of_lt hi),prs_app _ (Nat.le_succ i) hi,prs_one,if_pos (by rw [hbit];exact hb),a1,a2,prs_same (d:=s) (a:=0) (b:=i) fun j _ hj=>out j xo,prs_same (d:=s) (a:=i+1) fun j hj _=>out j xo];rfl
theorem pput_res {c:Cfg} {s:SlC} {key val:Int} (hu:U64s s.ws) (h:pPutE c s key=0):
    pmE c (pPutC c s key val)=0∧fndL (prs (pPutC c s key val) 0 (pPutC c s key val).ks.length) key=some (key,val)∧(∀o,o≠key→fndL (prs (pPutC c s key val) 0 (pPutC c s key val).ks.length) o=fndL (prs s 0 s.ks.length) o)∧(prs (pPutC c s key val) 0 (pPutC c s key val).ks.length).length=(prs s 0 s.ks.length).length+if hasB s key=true then 0 else 1:=by
 have h0:pmE c s=0:=by
  unfold pPutE at h;split at h
  · assumption
  · exact absurd h (by assumption)
 obtain ⟨hg,hs⟩:=pm_zero h0;have hr:=seek_ris hs;rw [pPutC,if_pos h];cases hb:hasB s key with
 | true=>
  obtain ⟨-,h1,h2,h3,-⟩:=has_yes hs hb;obtain ⟨e1,e2,-,e3,e4⟩:=lay_gap hu hg h1 h2 key val;rw [h3] at e4;rw [e4] at hr;obtain ⟨r1,r2,r3⟩:=Ris.apart hr;obtain ⟨r4,r5⟩:=List.pairwise_cons.1 r2;have hAB:Ris (prs s 0 (posC s key)++prs s (posC s key+1) s.ks.length):=List.pairwise_append.2 ⟨r1,r5,fun p hp q hq=>r3 p hp q (List.mem_cons_of_mem _ hq)⟩;have ha:∀p ∈ prs s 0 (posC s key),p.1<key:=fun p hp=>r3 p hp _ (List.mem_cons_self ..)
  obtain ⟨m1,m2,-,m4⟩:=mid_res (val:=val) hAB ha r4;obtain ⟨-,-,-,n4⟩:=mid_res (val:=s.vs.getD (posC s key) 0) hAB ha r4;rw [if_pos rfl,e2,e3];refine ⟨pmE_mk e1 (by rw [e2,e3];exact m1),m2,fun o ho=>by rw [m4 o ho,e4,n4 o ho],by rw [e4];simp⟩
 | false=>
  have hp0:putE c s (rnkC s key)=0:=by
   rw [pmput_e h0];unfold pPutE at h;rw [if_pos h0,hb] at h;simpa using h
  obtain ⟨e1,e2⟩:=put_res hu (key,val) hp0;obtain ⟨A,B,q1,q2,q3,q4⟩:=prs_rank (key:=key) hs;have hn:=fnd_none_iff (has_no hs hb).2;rw [q1] at hr hn;obtain ⟨m1,m2,-,m4⟩:=mid_res (val:=val) hr q3 fun p hp=>by
   have:=q4 p hp;have:=hn p (List.mem_append_right _ hp);omega
  have e3:insL (prs s 0 s.ks.length) (rnkC s key) (key,val)=A++(key,val)::B:=by
   rw [q1,insL,←q2,List.take_left,List.drop_left]
  rw [Int.toNat_natCast,e3] at e2;rw [if_neg xsi,e2];exact ⟨pmE_mk e1 (by rw [e2];exact m1),m2,fun o ho=>by rw [m4 o ho,q1],by rw [q1];simp;omega⟩
theorem pdel_res {c:Cfg} {s:SlC} {key:Int} (hu:U64s s.ws) (h:pDelE c s key=0):
    pmE c (pDelC c s key)=0∧fndL (prs (pDelC c s key) 0 (pDelC c s key).ks.length) key=none∧(∀o,o≠key→fndL (prs (pDelC c s key) 0 (pDelC c s key).ks.length) o=fndL (prs s 0 s.ks.length) o)∧(prs (pDelC c s key) 0 (pDelC c s key).ks.length).length+1=(prs s 0 s.ks.length).length:=by
 have h0:pmE c s=0:=by
  unfold pDelE at h;split at h
  · assumption
  · exact absurd h (by assumption)
 obtain ⟨hg,hs⟩:=pm_zero h0;have hb:hasB s key=true:=by
  unfold pDelE at h;rw [if_pos h0] at h;split at h
  · assumption
  · cases h
 have hr:=seek_ris hs;rw [pDelC,if_pos h];obtain ⟨-,h1,h2,h3,-⟩:=has_yes hs hb;obtain ⟨-,-,-,-,e4⟩:=lay_gap hu hg h1 h2 key 0;obtain ⟨t1,t2⟩:=take_res hu (pmtak_e h0 hb);rw [h3] at e4;have e5:delL (prs s 0 s.ks.length) ((rnkC s key:Int)).toNat=prs s 0 (posC s key)++prs s (posC s key+1) s.ks.length:=by
  rw [Int.toNat_natCast,e4,show rnkC s key=(prs s 0 (posC s key)).length from (prs_length ..).symm,del_mid]
 rw [e5] at t2;rw [e4] at hr;obtain ⟨r1,r2,r3⟩:=Ris.apart hr;obtain ⟨r4,r5⟩:=List.pairwise_cons.1 r2;have hAB:Ris (prs s 0 (posC s key)++prs s (posC s key+1) s.ks.length):=List.pairwise_append.2 ⟨r1,r5,fun p hp q hq=>r3 p hp q (List.mem_cons_of_mem _ hq)⟩;have ha:∀p ∈ prs s 0 (posC s key),p.1<key:=fun p hp=>r3 p hp _ (List.mem_cons_self ..)
 obtain ⟨-,-,m3,m4⟩:=mid_res (val:=s.vs.getD (posC s key) 0) hAB ha r4;rw [t2];exact ⟨pmE_mk t1 (by rw [t2];exact hAB),m3,fun o ho=>by rw [e4,m4 o ho],by rw [e4];simp;omega⟩
end
section
open Go.RowKit
theorem getPV_same {c d:Cfg} {s t:SlC} {o:Int} (h1:pmE c s=0) (h2:pmE d t=0) (h:fndL (prs s 0 s.ks.length) o=fndL (prs t 0 t.ks.length) o):getPV c s o=getPV d t o:=by
 unfold getPV;rw [if_pos h1,if_pos h2,h]
theorem gets_x {c:Cfg} {s:SlC} {key val:Int} (hu:U64s s.ws) (h0:pmE c s=0) (e1:pPutE c s key=0) (oth more:Int) (hm:more=(szV c s).1+if hasB s key=true then 0 else 1):
    pmE (pPutF c s key) (pPutC c s key val)=0∧ansB (getPV (pPutF c s key) (pPutC c s key val) key) 0 val=true∧ansB (szV (pPutF c s key) (pPutC c s key val)) 0 more=true∧(oth≠key→(getPV (pPutF c s key) (pPutC c s key val) oth).1=(getPV c s oth).1∧(getPV (pPutF c s key) (pPutC c s key val) oth).2=(getPV c s oth).2):=by
 have ef:pPutF c s key=c:=if_pos e1;obtain ⟨p1,p2,p3,p4⟩:=pput_res (val:=val) hu e1;rw [ef];refine ⟨p1,ansB_yes (getPV_some p1 p2),ansB_yes ?_,fun ho=> ?_⟩
 · rw [szV_ok p1,hm,szV_ok h0,p4];split<;>simp
 · rw [getPV_same p1 h0 (p3 oth ho)];exact ⟨rfl,rfl⟩
theorem gets_y {c:Cfg} {s:SlC} {key:Int} (hu:U64s s.ws) (h0:pmE c s=0) (e1:pDelE c s key=0) (oth:Int):
    pmE (pDelF c s key) (pDelC c s key)=0∧ansB (getPV (pDelF c s key) (pDelC c s key) key) 6 0=true∧ansB (szV (pDelF c s key) (pDelC c s key)) 0 ((szV c s).1-1)=true∧(oth≠key→(getPV (pDelF c s key) (pDelC c s key) oth).1=(getPV c s oth).1∧(getPV (pDelF c s key) (pDelC c s key) oth).2=(getPV c s oth).2):=by
 have ef:pDelF c s key=c:=if_pos e1;obtain ⟨p1,p2,p3,p4⟩:=pdel_res hu e1;rw [ef];refine ⟨p1,ansB_yes (getPV_none p1 p2),ansB_yes ?_,fun ho=> ?_⟩
 · rw [szV_ok p1,szV_ok h0];simp only [Prod.mk.injEq,and_true];omega
 · rw [getPV_same p1 h0 (p3 oth ho)];exact ⟨rfl,rfl⟩
theorem PmaGets_walk (w:World) (c:Cfg) (s:SlC) (sa:SlA) (hin:SlIn w s sa) (z1:sa.wa=none→sa.wc=0) (z2:sa.ka=none→sa.kc=0) (z3:sa.va=none→sa.vc=0) (z4:sa.ca=none→sa.cc=0) (hcc:s.cs.length≤sa.cc) (key val oth:Int) (hT:TabAt w):
    Calls Tryd.prog 3 #[pmV c s sa,.int .i64 key,.int .i64 val,.int .i64 oth] w (AnsB w (.bool true)):=by
 cases hgr:gr4 600 s.ks.length s.vs.length s.ws.length s.cs.length with
 | true=>exact PG_great c s _ _ _ _ _ _ _ _ key val oth hgr w (hid fun W hb=>alive11_ok W (hT.below hb))
 | false =>
  have g:=gr4_le hgr;have n2:=pput_nums c s hin.u key val;have n3:=pdel_nums c s hin.u key;have hlen:(prs s 0 s.ks.length).length≤s.ks.length:=by
   rw [prs_length];have:=cntW_le s.ws 0 s.ks.length;omega
  refine PG_in c (pPutF c s key) (pDelF c s key) s (pPutC c s key val) (pDelC c s key) sa.wa sa.ka sa.va sa.ca sa.wc sa.kc sa.vc sa.cc key val oth (szV c s).1 (szV c s).2 (getPV c s oth).1 (getPV c s oth).2 (pPutE c s key) (pDelE c s key)
    (getPV (pPutF c s key) (pPutC c s key val) oth).1 (getPV (pPutF c s key) (pPutC c s key val) oth).2 (getPV (pDelF c s key) (pDelC c s key) oth).1 (getPV (pDelF c s key) (pDelC c s key) oth).2 (pmE (pPutF c s key) (pPutC c s key val)) (pmE (pDelF c s key) (pDelC c s key))
    ((szV c s).1+if hasB s key=true then 0 else 1) (ansB (getPV c s key) 6 0) (ansB (getPV (pPutF c s key) (pPutC c s key val) key) 0 val) (ansB (szV (pPutF c s key) (pPutC c s key val)) 0 ((szV c s).1+if hasB s key=true then 0 else 1)) (ansB (getPV (pDelF c s key) (pDelC c s key) key) 6 0) (ansB (szV (pDelF c s key) (pDelC c s key)) 0 ((szV c s).1-1))
    hgr n2.2.2.2.2 n3.2.2.2.2 ?_ ?_ w
    (hid fun W hb=>alive11_ok W (hT.below hb))
    (hid fun W hb=>pmaSize_ok c s sa xo xo hcc W (hin.below hb))
    (hid fun W hb=>pmaGet_ok c s sa oth xo xo hcc W (hin.below hb) (hT.below hb))
    (hid fun W hb=>pmaPut_ok c s sa key val xo xo hcc W (hin.below hb) (hT.below hb))
    (hid fun W hb=>pmaDel_ok c s sa key xo xo hcc W (hin.below hb) (hT.below hb))
    (hid fun W hb=>lacks11_ok c s sa key xo xo hcc W (hin.below hb) (hT.below hb))
    (hid fun W a2 hb hi hc=>pmaGet_ok _ _ a2 oth xo xo hc W hi (hT.below hb))
    (hid fun W a2 hb hi hc=>pmaCheck_ok _ _ a2 xo xo hc W hi)
    (hid fun W a2 hb hi hc=>got11_ok _ _ a2 key val xo xo hc W hi (hT.below hb))
    (hid fun W a2 hb hi hc=>size11_ok _ _ a2 _ xo xo hc W hi)
    (hid fun W a2 hb hi hc=>pmaGet_ok _ _ a2 oth xo xo hc W hi (hT.below hb))
    (hid fun W a2 hb hi hc=>pmaCheck_ok _ _ a2 xo xo hc W hi)
    (hid fun W a2 hb hi hc=>lacks11_ok _ _ a2 key xo xo hc W hi (hT.below hb))
    (hid fun W a2 hb hi hc=>size11_ok _ _ a2 _ xo xo hc W hi)
  · by_cases h0:pmE c s=0
    · rw [szV_ok h0];dsimp only;omega
    · rw [szV_no h0];dsimp only;omega
  · by_cases h0:pmE c s=0
    · obtain ⟨hg,hs⟩:=pm_zero h0;have ez:(szV c s).2=0:=by rw [szV_ok h0]
      cases hb:hasB s key with
      | true=>
       have e1:pPutE c s key=0:=by rw [pPutE,if_pos h0,if_pos hb]
       have e2:pDelE c s key=0:=by rw [pDelE,if_pos h0,if_pos hb]
       obtain ⟨-,-,-,-,v,hv⟩:=has_yes hs hb;have hx:=gets_x (val:=val) hin.u h0 e1 oth ((szV c s).1+if true=true then 0 else 1) (by rw [hb]);refine .inr (.inl ⟨ez,e1,e2,?_,by simp,hx.1,hx.2.1,hx.2.2.1,hx.2.2.2,gets_y hin.u h0 e2 oth⟩);rw [getPV_some h0 hv];rfl
      | false=>
       obtain ⟨-,hn⟩:=has_no hs hb;have e2:pDelE c s key=6:=by rw [pDelE,if_pos h0,hb,if_neg xdd]
       have hl:ansB (getPV c s key) 6 0=true:=ansB_yes (getPV_none h0 hn);by_cases hm:(manyC s:Int)=c.most
       · have e1:pPutE c s key=9:=by rw [pPutE,if_pos h0,hb,if_neg xdd,if_pos hm]
         refine .inr (.inr (.inl ⟨ez,e1,e2,hl,?_⟩));rw [szV_ok h0];exact (congrArg Nat.cast (prs_length s 0 s.ks.length)).trans hm
       · have e1:pPutE c s key=0:=by rw [pPutE,if_pos h0,hb,if_neg xdd,if_neg hm]
         have hx:=gets_x (val:=val) hin.u h0 e1 oth ((szV c s).1+if false=true then 0 else 1) (by rw [hb]);exact .inr (.inr (.inr ⟨ez,e1,e2,hl,by simp,hx.1,hx.2.1,hx.2.2.1,hx.2.2.2⟩))
    · refine .inl ⟨?_,?_,?_,?_⟩
      · rw [szV_no h0];exact h0
      · rw [szV_no h0,getPV_err h0]
      · rw [szV_no h0,pPutE,if_neg h0]
      · rw [szV_no h0,pDelE,if_neg h0]
end
section
open Go.ChangeShapes Go.WideShapes Go.ChangeAt Go.RowKit Go.Joins
end
section
open Go.ChangeShapes Go.WideShapes Go.ChangeAt Go.RowKit Go.Joins
theorem open_rowK {H:Type} {enc:TypeId×Value→H} {w:World} {fuel:Nat} {base:Nat} {spare:Nat→Bool} {held:Bool} {t e:TypeId} {k:IntKind} {cs:List Value} {x:DataW H×List MemPlace}
    (ht:Tryd.prog.underlying t=some (.slice e)) (he:Tryd.prog.underlying e=some (.int k)) (hc:Tryd.prog.cellsOf e=1) (h:DataW.trod enc Tryd.prog w base spare held fuel t cs=some x):
    ∃(ao:Option Addr) (xs:List Int) (cap:Nat),cs=[.slice ao xs.length cap]∧IsRow k w ao xs∧(ao=none→cap=0)∧xs.length≤maxLen∧(∀n ∈ xs,(Lit.int k n).wf=true):=by
 rcases open_ints ht he hc h with ⟨rfl,rfl⟩ | ⟨a,len,cap,zs,rfl,hb,hl,hm,hz,rfl,hc,hw⟩
 · exact ⟨none,[],0,rfl,fun i hi=>by simp at hi,fun _=>rfl,by simp,by simp⟩
 · have hlen:len≤zs.length:=by rw [hz];split<;>omega
   refine ⟨some a,zs.take len,cap,by simp [hlen],?_,fun h=>(by cases h),by simp;omega,fun n hn=>hw n (List.mem_of_mem_take hn)⟩;intro i hi;have hi':i<len:=by simp at hi;omega
   obtain ⟨b,off,sp⟩:=a;have h0:=hc 0 xo;obtain rfl:sp=none:=by simpa [Addr.add] using World.cell?_spot h0
   refine ⟨b,off,rfl,?_,fun j hj=> ?_⟩
   · have:=World.block_lt_of_cell? w _ h0;simpa [Addr.add] using this
   · have hj':j<len:=by simp at hj;omega
     have:=hc j xo;rw [Addr.add_lit] at this;rw [this];simp [List.getD_eq_getElem?_getD,List.getElem?_take,hj']
end
section
open Go.ChangeShapes Go.WideShapes Go.ChangeAt Go.RowKit Go.Joins Go.Deep Go.WideElems
theorem trod_struct_six {P:Program} {H:Type} {enc:TypeId×Value→H} {w:World} {base:Nat} {spare:Nat→Bool} {held:Bool} {t:TypeId} {f0 f1 f2 f3 f4 f5:Field} {fuel:Nat} {cs:List Value} {x:DataW H×List MemPlace} (ht:P.underlying t=some (.struct #[f0,f1,f2,f3,f4,f5])) (h:DataW.trod enc P w base spare held fuel t cs=some x):
    ∃ y0 y1 y2 y3 y4 y5 n,DataW.trod enc P w base spare held n f0.type ((cs.drop f0.offset).take (P.cellsOf f0.type))=some y0∧DataW.trod enc P w base spare held n f1.type ((cs.drop f1.offset).take (P.cellsOf f1.type))=some y1∧DataW.trod enc P w base spare held n f2.type ((cs.drop f2.offset).take (P.cellsOf f2.type))=some y2∧
      DataW.trod enc P w base spare held n f3.type ((cs.drop f3.offset).take (P.cellsOf f3.type))=some y3∧DataW.trod enc P w base spare held n f4.type ((cs.drop f4.offset).take (P.cellsOf f4.type))=some y4∧DataW.trod enc P w base spare held n f5.type ((cs.drop f5.offset).take (P.cellsOf f5.type))=some y5:=by
 obtain ⟨xs,n,_,rfl,hl,hlen,hf⟩:=DataW.trod_struct ht h;match xs,hlen with
 | [y0,y1,y2,y3,y4,y5],_=>exact ⟨y0,y1,y2,y3,y4,y5,n,by simpa using hf 0 f0 rfl,by simpa using hf 1 f1 rfl,by simpa using hf 2 f2 rfl,by simpa using hf 3 f3 rfl,by simpa using hf 4 f4 rfl,by simpa using hf 5 f5 rfl⟩
theorem u64_wf {n:Int} (h:(Lit.int .u64 n).wf=true):0≤n∧n<18446744073709551616:=by
 simp [Lit.wf,IntKind.min,IntKind.max,IntKind.signed,IntKind.bits] at h;omega
end
section
open Go.ChangeShapes Go.WideShapes Go.ChangeAt Go.RowKit Go.Joins Go.Deep Go.WideElems
theorem trod_struct_nine {P:Program} {H:Type} {enc:TypeId×Value→H} {w:World} {base:Nat} {spare:Nat→Bool} {held:Bool} {t:TypeId} {f0 f1 f2 f3 f4 f5 f6 f7 f8:Field} {fuel:Nat} {cs:List Value} {x:DataW H×List MemPlace} (ht:P.underlying t=some (.struct #[f0,f1,f2,f3,f4,f5,f6,f7,f8])) (h:DataW.trod enc P w base spare held fuel t cs=some x):
    ∃y0 y1 y2 y3 y4 y5 y6 y7 y8 n,DataW.trod enc P w base spare held n f0.type ((cs.drop f0.offset).take (P.cellsOf f0.type))=some y0∧DataW.trod enc P w base spare held n f1.type ((cs.drop f1.offset).take (P.cellsOf f1.type))=some y1∧DataW.trod enc P w base spare held n f2.type ((cs.drop f2.offset).take (P.cellsOf f2.type))=some y2∧DataW.trod enc P w base spare held n f3.type ((cs.drop f3.offset).take (P.cellsOf f3.type))=some y3∧DataW.trod enc P w base spare held n f4.type ((cs.drop f4.offset).take (P.cellsOf f4.type))=some y4∧DataW.trod enc P w base spare held n f5.type ((cs.drop f5.offset).take (P.cellsOf f5.type))=some y5∧DataW.trod enc P w base spare held n f6.type ((cs.drop f6.offset).take (P.cellsOf f6.type))=some y6∧DataW.trod enc P w base spare held n f7.type ((cs.drop f7.offset).take (P.cellsOf f7.type))=some y7∧DataW.trod enc P w base spare held n f8.type ((cs.drop f8.offset).take (P.cellsOf f8.type))=some y8:=by
 obtain ⟨xs,n,_,rfl,hl,hlen,hf⟩:=DataW.trod_struct ht h;match xs,hlen with
 | [y0,y1,y2,y3,y4,y5,y6,y7,y8],_=>exact ⟨y0,y1,y2,y3,y4,y5,y6,y7,y8,n,by simpa using hf 0 f0 rfl,by simpa using hf 1 f1 rfl,by simpa using hf 2 f2 rfl,by simpa using hf 3 f3 rfl,by simpa using hf 4 f4 rfl,by simpa using hf 5 f5 rfl,by simpa using hf 6 f6 rfl,by simpa using hf 7 f7 rfl,by simpa using hf 8 f8 rfl⟩
end
section
open Go.ChangeShapes Go.WideShapes Go.ChangeAt Go.RowKit Go.Joins Go.Deep Go.WideElems
theorem open_rowC {H:Type} {enc:TypeId×Value→H} {w:World} {fuel:Nat} {base:Nat} {spare:Nat→Bool} {held:Bool} {t e:TypeId} {k:IntKind} {cs:List Value} {x:DataW H×List MemPlace} {ao:Option Addr} {n cap:Nat}
    (ht:Tryd.prog.underlying t=some (.slice e)) (he:Tryd.prog.underlying e=some (.int k)) (hc:Tryd.prog.cellsOf e=1) (h:DataW.trod enc Tryd.prog w base spare held fuel t cs=some x) (hcs:cs=[.slice ao n cap]):n≤cap:=by
 rcases open_ints ht he hc h with ⟨rfl,rfl⟩ | ⟨a,len,cap,zs,rfl,hb,hl,hm,hz,rfl,hc,hw⟩
 · cases hcs;exact Nat.le_refl _
 · cases hcs;exact hl
end
end Go.Proofs.YtmnlagmmbfjbeaaDoor

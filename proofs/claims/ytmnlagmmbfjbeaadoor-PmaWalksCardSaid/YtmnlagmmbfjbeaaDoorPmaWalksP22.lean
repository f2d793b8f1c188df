/- Merged: PutPl, TakPl, OrdPl, PmPutPl, Bel10, PmLd, PmTw, PmBc. -/
import Derived.Test.YtmnlagmmbfjbeaaDoorPmaWalksP19
import Derived.Test.YtmnlagmmbfjbeaaDoorPmaWalksP20
import Derived.Test.YtmnlagmmbfjbeaaDoorPmaWalksP21
import Derived.Test.YtmnlagmmbfjbeaaDoorPmaWalksP13
import Derived.Test.YtmnlagmmbfjbeaaDoorPmaWalksP15
import Derived.Test.YtmnlagmmbfjbeaaDoorPmaWalksP2
namespace Go.Proofs.YtmnlagmmbfjbeaaDoor
set_option maxRecDepth 100000
set_option maxHeartbeats 40000000
set_option linter.unusedVariables false
set_option linter.unusedSimpArgs false
section
open Go.RowKit
def inH (s:SlC) (a h at_:Nat):Int:=sumC s.cs (wnd a h at_*2^h) ((wnd a h at_+1)*2^h)
def ovB (c:Cfg) (s:SlC) (a H at_ h:Nat):Bool:= !fulB c H h (inH s a h at_+1)
def unfB (c:Cfg) (s:SlC) (a H at_ h:Nat):Bool:= !sprB c s.ks.length H h (inH s a h at_)
theorem ful_room {c:Cfg} {size:Int} {a H h:Nat} (k:CapC c size a H) (hh:h≤H) {n:Int} (hf:fulB c H h n=true):n≤((2^(a+h):Nat):Int):=by
 obtain ⟨d0,d1,d2,d3,d4,d5,d6,d7,d8,d9,d10,d11,d12,d13,d14,d15,d16,d17⟩:=cfHead_num (cfMay_head k.may);have hw:wdC c h=((2^(a+h):Nat):Int):=by rw [wdC,k.seg,Nat.pow_add];push_cast;rfl
 have hw0:=Nat.two_pow_pos (a+h);unfold fulB at hf;split at hf
 · rw [decide_eq_true_eq,hw] at hf;have:=Int.mul_le_mul_of_nonneg_left (show c.rh≤c.den by omega) (show (0:Int)≤((2^(a+h):Nat):Int) by omega);exact Int.le_of_mul_le_mul_right (Int.le_trans hf this) xo
 · rename_i hH
   rw [decide_eq_true_eq,hw] at hf;have h1:c.lh*((H:Int)-h)≤c.den*((H:Int)-h):=Int.mul_le_mul_of_nonneg_right xo xo;have h2:c.rh*(h:Int)≤c.den*(h:Int):=Int.mul_le_mul_of_nonneg_right xo xo;have h3:c.den*((H:Int)-h)+c.den*(h:Int)=H*c.den:=by rw [←Int.mul_add,Int.mul_comm];congr 1;omega
   have h4:=Int.mul_le_mul_of_nonneg_left (show c.lh*((H:Int)-h)+c.rh*h≤H*c.den by omega) (show (0:Int)≤((2^(a+h):Nat):Int) by omega);rw [Int.mul_assoc] at hf;have h5:(0:Int)<(H:Int)*c.den:=Int.mul_pos xo xo;exact Int.le_of_mul_le_mul_right (Int.le_trans hf h4) h5
def manyC (s:SlC):Nat:=cntW s.ws 0 s.ks.length
def homeC (s:SlC) (k:Nat):Nat:=(plsW s.ws 0 s.ks.length).getD (k-1) 0
theorem homeC_lt {s:SlC} (h:1≤s.ks.length) (k:Nat):homeC s k<s.ks.length:=by
 unfold homeC;rcases Nat.lt_or_ge (k-1) (plsW s.ws 0 s.ks.length).length with q|q
 · exact (plsW_getD q).2
 · rw [List.getD_eq_getElem?_getD,List.getElem?_eq_none q];simpa using Nat.lt_of_lt_of_le Nat.zero_lt_one h
def insL (l:List (Int×Int)) (k:Nat) (p:Int×Int):List (Int×Int):=l.take k++p::l.drop k
theorem insL_length {l:List (Int×Int)} {k:Nat} (h:k≤l.length) (p:Int×Int):(insL l k p).length=l.length+1:=by
 simp [insL];omega
def putN (c:Cfg) (s:SlC) (a H:Nat) (k:Nat) (p:Int×Int):SlC:=
  if topI (ovB c s a H (homeC s k)) (H+1)=H then wideC (2^a) (capM c (manyC s+1)) s.laid (insL (prs s 0 s.ks.length) k p)
  else
   let h:=(topI (ovB c s a H (homeC s k)) (H+1)+1).toNat
   let lo:=wnd a h (homeC s k)*2^(a+h)
   let hi:=(wnd a h (homeC s k)+1)*2^(a+h)
   spC s lo hi (insL (prs s lo hi) (k-cntW s.ws 0 lo) p)
def sgL (c:Cfg):Nat:=c.seg.toNat.log2
def putE (c:Cfg) (s:SlC) (k:Int):Int:=if gapE c s=0 then (if k<0∨(manyC s:Int)<k then 2 else if (manyC s:Int)=c.most then 9 else 0) else gapE c s
def putC (c:Cfg) (s:SlC) (k:Int) (p:Int×Int):SlC:=if putE c s k=0 then putN c s (sgL c) (htC c s.ks.length) k.toNat p else nilC
theorem sum_many {c:Cfg} {s:SlC} {a H:Nat} (k:GapN c s a H) (hu:U64s s.ws):sumC s.cs 0 s.cs.length=manyC s:=by
 obtain ⟨g,-⟩:=gapN_gd k hu;rw [sumC_cnt2 g (Nat.zero_le _) (by rw [k.nc];exact Nat.le_refl _),manyC,Nat.zero_mul,k.nc,k.nk,Nat.mul_comm (2^H)]
theorem in_cnt {c:Cfg} {s:SlC} {a H h at_:Nat} (k:GapN c s a H) (hu:U64s s.ws) (hh:h≤H) (hat:at_<s.ks.length):inH s a h at_=(cntW s.ws (wnd a h at_*2^(a+h)) ((wnd a h at_+1)*2^(a+h)):Nat):=by
 obtain ⟨g,-⟩:=gapN_gd k hu;rw [k.nk] at hat;have b:=wnd_bd hh hat;have e:=wnd_seg a h at_;rw [inH,sumC_cnt2 g (Nat.mul_le_mul_right _ xo) b.1,e.1,e.2.1]
theorem pls_rank {ws:List Int} {n i:Nat} (h:i<(plsW ws 0 n).length):cntW ws 0 ((plsW ws 0 n).getD i 0)=i∧bitW ws ((plsW ws 0 n).getD i 0)=true∧(plsW ws 0 n).getD i 0<n:=by
 induction n with
 | zero=>simp [plsW_nil] at h
 | succ n ih=>
  rw [plsW_succ (Nat.zero_le _)] at h ⊢;rcases Nat.lt_or_ge i (plsW ws 0 n).length with q|q
  · have e:(plsW ws 0 n++if bitW ws n=true then [n] else []).getD i 0=(plsW ws 0 n).getD i 0:=by
      rw [List.getD_eq_getElem?_getD,List.getElem?_append_left q,←List.getD_eq_getElem?_getD]
    rw [e];obtain ⟨h1,h2,h3⟩:=ih q;exact ⟨h1,h2,by omega⟩
  · by_cases hb:bitW ws n=true
    · rw [if_pos hb,List.length_append,List.length_singleton] at h;have hi:i=(plsW ws 0 n).length:=xo;rw [if_pos hb];have e:(plsW ws 0 n++[n]).getD i 0=n:=by
       rw [List.getD_eq_getElem?_getD,hi,List.getElem?_append_right (Nat.le_refl _),Nat.sub_self];rfl
      rw [e];exact ⟨by rw [hi,plsW_length],hb,by omega⟩
    · rw [if_neg hb,List.append_nil] at h;omega
theorem home_in {s:SlC} {k lo hi:Nat} (hn:1≤s.ks.length) (hk:k≤manyC s) (hlo:lo≤homeC s k) (hhi:homeC s k<hi) (hh:hi≤s.ks.length):cntW s.ws 0 lo≤k∧k-cntW s.ws 0 lo≤(prs s lo hi).length:=by
 rw [prs_length];have hadd:=cntW_add s.ws (a:=0) (b:=lo) (d:=hi) xo xo;have hadd2:=cntW_add s.ws (a:=0) (b:=hi) (d:=s.ks.length) xo hh;have hm:manyC s=cntW s.ws 0 s.ks.length:=rfl;rcases Nat.eq_zero_or_pos k with rfl|hk0
 · -- ahead of all: there is nothing ahead of the first one
   have hz:cntW s.ws 0 lo=0:=by
    rcases Nat.eq_zero_or_pos (manyC s) with q|q
    · omega
    · have hr:=pls_rank (ws:=s.ws) (n:=s.ks.length) (i:=0) (by rw [plsW_length];omega);have e:homeC s 0=(plsW s.ws 0 s.ks.length).getD 0 0:=rfl;rw [←e] at hr;have:=cntW_mono (ws:=s.ws) (a:=0) hlo;omega
   omega
 · have hr:=pls_rank (ws:=s.ws) (n:=s.ks.length) (i:=k-1) (by rw [plsW_length];omega);have e:homeC s k=(plsW s.ws 0 s.ks.length).getD (k-1) 0:=rfl;rw [←e] at hr;have h1:=cntW_mono (ws:=s.ws) (a:=0) hlo;have h2:cntW s.ws 0 (homeC s k+1)=k:=by
    rw [cntW_succ (Nat.zero_le _),if_pos hr.2.1];omega
   have h3:=cntW_mono (ws:=s.ws) (a:=0) (show homeC s k+1≤hi by omega);omega
theorem put_room {c:Cfg} {s:SlC} {a H:Nat} (k:GapN c s a H) (hu:U64s s.ws) {at_:Nat} (hat:at_<s.ks.length) (hne:topI (ovB c s a H at_) (H+1)≠H):
    ∃h:Nat,topI (ovB c s a H at_) (H+1)+1=h∧h≤H∧(cntW s.ws (wnd a h at_*2^(a+h)) ((wnd a h at_+1)*2^(a+h)):Nat)+1≤2^(a+h):=by
 have hmain:∀h:Nat,h≤H→ovB c s a H at_ h=false→(cntW s.ws (wnd a h at_*2^(a+h)) ((wnd a h at_+1)*2^(a+h)):Nat)+1≤2^(a+h):=by
  intro h hh ho;unfold ovB at ho;rw [Bool.not_eq_false'] at ho;rw [in_cnt k hu hh hat] at ho;have:=ful_room k.cap hh ho;omega
 rcases topI_cases (ovB c s a H at_) (H+1) with ⟨e,hn⟩ | ⟨q,hq,e,hp,hn⟩
 · exact ⟨0,by omega,by omega,hmain 0 xo (hn 0 xo)⟩
 · have hqH:q≠H:=fun h=>hne (by rw [e,h])
   exact ⟨q+1,by omega,by omega,hmain (q+1) xo (hn (q+1) xo xo)⟩
end
section
open Go.RowKit
theorem nar_step {c:Cfg} {size:Int} {a H:Nat} (k:CapC c size a H) {m:Nat} (hf:sprB c size H H m=false):∃H',H=H'+1∧CapC c (size/2) a H'∧8*((m:Int)+1)<size:=by
 have hd:=cfMay_head k.may;obtain ⟨d0,d1,d2,d3,d4,d5,d6,d7,d8,d9,d10,d11,d12,d13,d14,d15,d16,d17⟩:=cfHead_num hd;obtain ⟨l1,l2,b,eb⟩:=powB_nat (cfHead_facts hd).2.2.2.2.2.1;obtain ⟨s1,s2,s3⟩:=powB_iff.1 k.cap;unfold sprB at hf;rw [Bool.or_eq_false_iff,decide_eq_false_iff_not,decide_eq_false_iff_not] at hf;obtain ⟨hne,hlt⟩:=hf;have hall:=k.all;have hseg:=k.seg;have e:2^a*2^H=2^(a+H):=(Nat.pow_add ..).symm;have hb1:2^b<2^(a+H):=by rw [←e];omega
 have hbH:b<a+H:=(Nat.pow_lt_pow_iff_right (a:=2) xo).1 hb1;have hab:a≤b:=(Nat.pow_le_pow_iff_right (a:=2) xo).1 xo;obtain ⟨H',rfl⟩:∃H',H=H'+1:=⟨H-1,by omega⟩
 have e2:2^a*2^(H'+1)=2*(2^a*2^H'):=by rw [Nat.pow_succ];simp only [Nat.mul_comm,Nat.mul_left_comm]
 have hhalf:size/2=((2^a*2^H':Nat):Int):=by rw [hall,e2];omega
 have hbig:=k.big;have h14:=k.h14;have hlb:2^b≤2^a*2^H':=by rw [←Nat.pow_add];exact Nat.pow_le_pow_right xo xo
 refine ⟨H',rfl,⟨k.may,powB_iff.2 ⟨by omega,by omega,?_⟩,k.seg,k.a2,k.a6,hhalf,by omega,?_,by omega⟩,?_⟩
 · rw [hhalf,←Nat.pow_add];exact pwB_two _
 · rw [htC,hseg,hhalf,Int.natCast_mul,Int.mul_ediv_cancel_left _ (by have:=Nat.two_pow_pos a;omega),Int.toNat_natCast,Nat.log2_two_pow]
 · have hw:wdC c (H'+1)=size:=by rw [wdC,hseg,hall];push_cast;rfl
   rw [hw] at hlt;have e3:c.ll*(((H'+1:Nat):Int)-((H'+1:Nat):Int))+c.rl*((H'+1:Nat):Int)=c.rl*((H'+1:Nat):Int):=by rw [Int.sub_self,Int.mul_zero,Int.zero_add]
   rw [e3] at hlt;have h1:((m:Int)+1)*((H'+1:Nat):Int)*c.den<size*(c.rl*((H'+1:Nat):Int)):=xo;have h2:((m:Int)+1)*((H'+1:Nat):Int)*c.den=(((m:Int)+1)*c.den)*((H'+1:Nat):Int):=by rw [Int.mul_assoc,Int.mul_comm _ c.den,←Int.mul_assoc]
   have h3:size*(c.rl*((H'+1:Nat):Int))=(size*c.rl)*((H'+1:Nat):Int):=by rw [Int.mul_assoc]
   rw [h2,h3] at h1;have h4:((m:Int)+1)*c.den<size*c.rl:=Int.lt_of_mul_lt_mul_right h1 xo;have h5:=Int.mul_le_mul_of_nonneg_left (show 8*c.rl≤c.den by omega) (show (0:Int)≤(m:Int)+1 by omega);have h6:((m:Int)+1)*(8*c.rl)=(8*((m:Int)+1))*c.rl:=by rw [←Int.mul_assoc,Int.mul_comm _ 8]
   rw [h6] at h5;exact Int.lt_of_mul_lt_mul_right (Int.lt_of_le_of_lt h5 h4) xo
def narF (c:Cfg) (m:Int):Nat→Int→Int
  | 0,size=>size
  | f+1,size=>if sprB c size (htC c size) (htC c size) m=true then size else narF c m f (size/2)
theorem nar_ok {c:Cfg} {m:Nat}:∀(f:Nat) (size:Int) (a H:Nat),CapC c size a H→H<f→(m:Int)≤size→∃H',H'≤H∧CapC c (narF c m f size) a H'∧(m:Int)≤narF c m f size∧sprB c (narF c m f size) H' H' m=true
  | 0,_,_,_,_,h,_=>by omega
  | f+1,size,a,H,k,h,hm=>by
   rw [narF,k.hgt];cases hs:sprB c size H H m with
   | true=>rw [if_pos rfl];exact ⟨H,Nat.le_refl _,k,hm,hs⟩
   | false=>
    rw [if_neg xdd];obtain ⟨H',rfl,k',h8⟩:=nar_step k hs;obtain ⟨H2,q1,q2,q3,q4⟩:=nar_ok (m:=m) f (size/2) a H' k' xo xo;exact ⟨H2,by omega,q2,q3,q4⟩
def takN (c:Cfg) (s:SlC) (a H:Nat) (k:Nat):SlC:=
  let at_:=(plsW s.ws 0 s.ks.length).getD k 0
  let z:=tkC s at_
  let t:=topI (unfB c z a H at_) (H+1)
  if t= -1 then z
  else if t=H then wideC (2^a) ((narF c (manyC z) 20 z.ks.length).toNat/2^a) z.laid (prs z 0 z.ks.length)
  else spC z (wnd a (t+1).toNat at_*2^(a+(t+1).toNat)) ((wnd a (t+1).toNat at_+1)*2^(a+(t+1).toNat)) (prs z (wnd a (t+1).toNat at_*2^(a+(t+1).toNat)) ((wnd a (t+1).toNat at_+1)*2^(a+(t+1).toNat)))
def takE (c:Cfg) (s:SlC) (k:Int):Int:=if gapE c s=0 then (if k<0∨(manyC s:Int)≤k then 2 else 0) else gapE c s
def takC (c:Cfg) (s:SlC) (k:Int):SlC:=if takE c s k=0 then takN c s (sgL c) (htC c s.ks.length) k.toNat else nilC
end
section
open Go.RowKit
theorem rise_eq:∀ {l m:List Nat},l.Pairwise (· < ·)→m.Pairwise (· < ·)→(∀x,x ∈ l↔x ∈ m)→l=m
  | [],[],_,_,_=>rfl
  | [],y::m,_,_,h=>by have:=(h y).2 (List.mem_cons_self ..);cases this
  | x::l,[],_,_,h=>by have:=(h x).1 (List.mem_cons_self ..);cases this
  | x ::l,y::m,hl,hm,h=>by
   rw [List.pairwise_cons] at hl hm
   have hxy:x=y:=by
    have h1:=(h x).1 (List.mem_cons_self ..);have h2:=(h y).2 (List.mem_cons_self ..);rw [List.mem_cons] at h1 h2;rcases h1 with h1|h1
    · exact h1
    · rcases h2 with h2|h2
      · exact h2.symm
      · have a1:=hm.1 x h1;have a2:=hl.1 y h2;omega
   subst hxy;congr 1
   refine rise_eq hl.2 hm.2 fun z=> ?_
   have:=h z;rw [List.mem_cons,List.mem_cons] at this;constructor
   · intro hz;have a1:=hl.1 z hz;rcases this.1 (.inr hz) with q|q
     · omega
     · exact q
   · intro hz;have a1:=hm.1 z hz;rcases this.2 (.inr hz) with q|q
     · omega
     · exact q
theorem prs_app (c:SlC) {a b d:Nat} (h1:a≤b) (h2:b≤d):prs c a d=prs c a b++prs c b d:=by
 unfold prs;rw [plsW_app c.ws h1 h2,List.map_append]
theorem prs_same {c d:SlC} {a b:Nat} (h:∀i,a≤i→i<b→bitW c.ws i=bitW d.ws i∧c.ks.getD i 0=d.ks.getD i 0∧c.vs.getD i 0=d.vs.getD i 0):prs c a b=prs d a b:=by
 have e:plsW c.ws a b=plsW d.ws a b:=by
  unfold plsW;apply List.filter_congr;intro i hi;have:=List.mem_range'_1.1 hi;exact (h i this.1 xo).1
 unfold prs;rw [e];apply List.map_congr_left;intro i hi;have:=List.mem_range'_1.1 (List.mem_filter.1 hi).1;have q:=h i this.1 xo;rw [q.2.1,q.2.2]
theorem tks_out {c:SlC} {lo i:Nat}:∀j,(i<lo∨lo+j≤i)→(tks c lo j).ks.getD i 0=c.ks.getD i 0∧(tks c lo j).vs.getD i 0=c.vs.getD i 0
  | 0,_=>⟨rfl,rfl⟩
  | j+1,h=>by
   obtain ⟨h1,h2⟩:=tks_out (c:=c) (lo:=lo) (i:=i) j xo;rw [tks];simp only [tkC];rw [getD_set_at,if_neg xo,getD_set_at,if_neg xo];exact ⟨h1,h2⟩
theorem ly_at {c:SlC} {i:Nat} (hk:i<c.ks.length) (hv:i<c.vs.length) (x y:Int):(lyC c i x y).ks.getD i 0=x∧(lyC c i x y).vs.getD i 0=y:=by
 simp only [lyC,tkC];rw [getD_set_at,if_pos ⟨rfl,by simpa using hk⟩,getD_set_at,if_pos ⟨rfl,by simpa using hv⟩];exact ⟨rfl,rfl⟩
theorem ly_out {c:SlC} {i j:Nat} (h:i≠j) (x y:Int):(lyC c i x y).ks.getD j 0=c.ks.getD j 0∧(lyC c i x y).vs.getD j 0=c.vs.getD j 0:=by
 simp only [lyC,tkC];rw [getD_set_at,if_neg (fun q=>h q.1),getD_set_at,if_neg (fun q=>h q.1),getD_set_at,if_neg (fun q=>h q.1),getD_set_at,if_neg (fun q=>h q.1)];exact ⟨rfl,rfl⟩
theorem lys_out {c:SlC} {ps:List Nat} {L:List (Int×Int)} {i:Nat}:∀k,(∀j,j<k→ps.getD j 0≠i)→(lys c ps L k).ks.getD i 0=c.ks.getD i 0∧(lys c ps L k).vs.getD i 0=c.vs.getD i 0
  | 0,_=>⟨rfl,rfl⟩
  | k+1,h=>by
   obtain ⟨h1,h2⟩:=lys_out (c:=c) (ps:=ps) (L:=L) (i:=i) k (fun j hj=>h j xo);obtain ⟨h3,h4⟩:=ly_out (c:=lys c ps L k) (h k xo) (L.getD k (0,0)).1 (L.getD k (0,0)).2;rw [lys];exact ⟨h3.trans h1,h4.trans h2⟩
theorem lys_at {c:SlC} {S lw n lc:Nat} (h:SlGd c S lw n lc) {ps:List Nat} (hp:∀k,ps.getD k 0<n) (L:List (Int×Int)) {i:Nat}:∀k,i<k→(∀j,i<j→j<k→ps.getD j 0≠ps.getD i 0)→(lys c ps L k).ks.getD (ps.getD i 0) 0=(L.getD i (0,0)).1∧(lys c ps L k).vs.getD (ps.getD i 0) 0=(L.getD i (0,0)).2
  | 0,hi,_=>by omega
  | k+1,hi,hd=>by
   have g:=SlGd.lys h hp L k;rw [lys];rcases Nat.lt_or_ge i k with q|q
   · obtain ⟨h1,h2⟩:=lys_at h hp L k q (fun j h1 h2=>hd j h1 xo);obtain ⟨h3,h4⟩:=ly_out (c:=lys c ps L k) (hd k q xo) (L.getD k (0,0)).1 (L.getD k (0,0)).2;exact ⟨h3.trans h1,h4.trans h2⟩
   · obtain rfl:i=k:=xo;exact ly_at (by rw [g.elk];exact hp i) (by rw [g.elv];exact hp i) _ _
theorem sp_pls {c:SlC} {S lw n lc lo hi:Nat} (h:SlGd c S lw n lc) (hlo:lo≤hi) (hh:hi≤n) {L:List (Int×Int)} (hL:L.length≤hi-lo):plsW (spC c lo hi L).ws lo hi=plR L.length lo hi:=by
 have hn:=h.n1;apply rise_eq
 · unfold plsW;exact List.Pairwise.filter _ List.pairwise_lt_range'
 · unfold plR;rw [List.pairwise_map];refine List.Pairwise.imp_of_mem ?_ List.pairwise_lt_range;intro x y hx hy hxy;have:=List.mem_range.1 hy;have:=plF_mono (lo:=lo) xo hL x (y-x-1);rwa [show x+(y-x-1+1)=y by omega] at this
 · intro x;unfold plsW;rw [List.mem_filter,List.mem_range'_1,spC,lys_bit (h.tks (hi-lo) xo) (fun k=>plR_ltn hL hh xo k) L x,tks_bit h x (hi-lo) xo];constructor
   · rintro ⟨h1,h2⟩;have:(decide (lo≤x)&&decide (x<lo+(hi-lo)))=true:=by rw [Bool.and_eq_true,decide_eq_true_eq,decide_eq_true_eq];omega
     rw [this] at h2;rcases h2 with h2 | ⟨j,hj,h2⟩
     · simp at h2
     · rw [plR_get hj] at h2;rw [←h2];exact List.mem_map.2 ⟨j,List.mem_range.2 hj,rfl⟩
   · intro hx;obtain ⟨j,hj,rfl⟩:=List.mem_map.1 hx;have hj:=List.mem_range.1 hj;have h1:=plF_lt (lo:=lo) hj hL;have h2:lo≤plF L.length lo hi j:=Nat.le_add_right _ _;exact ⟨by omega,.inr ⟨j,hj,plR_get hj⟩⟩
theorem sp_in {c:SlC} {S lw n lc lo hi:Nat} (h:SlGd c S lw n lc) (hlo:lo≤hi) (hh:hi≤n) {L:List (Int×Int)} (hL:L.length≤hi-lo):prs (spC c lo hi L) lo hi=L:=by
 have hn:=h.n1;unfold prs;rw [sp_pls h hlo hh hL,plR,List.map_map];apply List.ext_getElem
 · simp
 · intro i h1 h2;rw [List.getElem_map,List.getElem_range];have hi':i<L.length:=h2;have:=lys_at (h.tks (lo:=lo) (hi-lo) xo) (fun k=>plR_ltn hL hh xo k) L (i:=i) L.length hi' (fun j q1 q2=>by
    rw [plR_get q2,plR_get hi'];have:=plF_mono (lo:=lo) xo hL i (j-i-1);rw [show i+(j-i-1+1)=j by omega] at this;omega)
   rw [plR_get hi'] at this;simp only [Function.comp];unfold spC;rw [this.1,this.2,List.getD_eq_getElem?_getD,List.getElem?_eq_getElem hi'];rfl
theorem sp_out {c:SlC} {S lw n lc lo hi:Nat} (h:SlGd c S lw n lc) (hlo:lo≤hi) (hh:hi≤n) {L:List (Int×Int)} (hL:L.length≤hi-lo) {x y:Nat} (hd:y≤lo∨hi≤x):prs (spC c lo hi L) x y=prs c x y:=by
 have hn:=h.n1;refine prs_same fun i h1 h2=> ?_
 have hne:∀j,j<L.length→(plR L.length lo hi).getD j 0≠i:=by
  intro j hj;rw [plR_get hj];have h3:=plF_lt (lo:=lo) hj hL;have h4:lo≤plF L.length lo hi j:=Nat.le_add_right _ _;omega
 have ho:=lys_out (c:=tks c lo (hi-lo)) (ps:=plR L.length lo hi) (L:=L) (i:=i) L.length hne;have ht:=tks_out (c:=c) (lo:=lo) (i:=i) (hi-lo) xo;refine ⟨?_,ho.1.trans ht.1,ho.2.trans ht.2⟩;rw [Bool.eq_iff_iff,spC,lys_bit (h.tks (hi-lo) xo) (fun k=>plR_ltn hL hh xo k) L i,tks_bit h i (hi-lo) xo];have:(decide (lo≤i)&&decide (i<lo+(hi-lo)))=false:=by
  rw [Bool.and_eq_false_iff,decide_eq_false_iff_not,decide_eq_false_iff_not];omega
 rw [this];constructor
 · rintro (q | ⟨j,hj,q⟩)
   · simpa using q
   · exact absurd q (hne j hj)
 · intro q;exact .inl (by simpa using q)
theorem prs_sp {c:SlC} {S lw n lc lo hi:Nat} (h:SlGd c S lw n lc) (hlo:lo≤hi) (hh:hi≤n) {L:List (Int×Int)} (hL:L.length≤hi-lo):prs (spC c lo hi L) 0 n=prs c 0 lo++L++prs c hi n:=by
 rw [prs_app _ (Nat.zero_le lo) (by omega:lo≤n),prs_app _ hlo hh,sp_in h hlo hh hL,sp_out h hlo hh hL (.inl (Nat.le_refl _)),sp_out h hlo hh hL (.inr (Nat.le_refl _)),List.append_assoc]
theorem insL_mid {A B C:List (Int×Int)} {k:Nat} (h1:A.length≤k) (h2:k-A.length≤B.length) (p:Int×Int):insL (A++B++C) k p=A++insL B (k-A.length) p++C:=by
 unfold insL;rw [List.append_assoc,List.take_append,List.drop_append,List.take_of_length_le h1,List.drop_eq_nil_of_le h1,List.nil_append,List.take_append,List.drop_append,show k-A.length-B.length=0 by omega];simp
theorem prs_tk {c:SlC} {S lw n lc:Nat} (h:SlGd c S lw n lc) {i:Nat} (hi:i<n) (x y:Nat) (hd:y≤i∨i+1≤x):prs (tkC c i) x y=prs c x y:=by
 refine prs_same fun j h1 h2=> ?_
 have hji:i≠j:=xo;refine ⟨?_,?_,?_⟩
 · rw [tk_bit h hi,decide_eq_true (show j≠i by omega),Bool.and_true]
 · simp only [tkC];rw [getD_set_at,if_neg (fun q=>hji q.1)]
 · simp only [tkC];rw [getD_set_at,if_neg (fun q=>hji q.1)]
theorem prs_one (c:SlC) (i:Nat):prs c i (i+1)=if bitW c.ws i=true then [(c.ks.getD i 0,c.vs.getD i 0)] else []:=by
 unfold prs plsW;rw [show i+1-i=1 by omega,List.range'_one,List.filter_cons];split<;>rfl
theorem prs_tk_all {c:SlC} {S lw n lc:Nat} (h:SlGd c S lw n lc) {i:Nat} (hi:i<n) (hb:bitW c.ws i=true):prs (tkC c i) 0 n=prs c 0 i++prs c (i+1) n∧prs c 0 n=prs c 0 i++(c.ks.getD i 0,c.vs.getD i 0)::prs c (i+1) n:=by
 constructor
 · rw [prs_app _ (Nat.zero_le i) (by omega:i≤n),prs_app _ (Nat.le_succ i) hi,prs_tk h hi _ _ (.inl (Nat.le_refl _)),prs_tk h hi _ _ (.inr (Nat.le_refl _)),prs_one,tk_bit h hi];simp
 · rw [prs_app _ (Nat.zero_le i) (by omega:i≤n),prs_app _ (Nat.le_succ i) hi,prs_one,if_pos hb];rfl
end
section
open Go.RowKit
def belL (l:List (Int×Int)) (key:Int):Nat:=l.countP fun p=>decide (p.1<key)
def hasB (s:SlC) (key:Int):Bool:=(fndL (prs s 0 s.ks.length) key).isSome
def posC (s:SlC) (key:Int):Nat:=frS s.ws s.ks s.ks.length key
def rnkC (s:SlC) (key:Int):Nat:=cntW s.ws 0 (posC s key)
def nilF:Cfg:=⟨0,0,0,0,0,0,0,0,0⟩
def pPutE (c:Cfg) (s:SlC) (key:Int):Int:=if pmE c s=0 then (if hasB s key=true then 0 else if (manyC s:Int)=c.most then 9 else 0) else pmE c s
def pPutC (c:Cfg) (s:SlC) (key val:Int):SlC:=if pPutE c s key=0 then (if hasB s key=true then lyC s (posC s key) key val else putC c s (rnkC s key) (key,val)) else nilC
def pPutF (c:Cfg) (s:SlC) (key:Int):Cfg:=if pPutE c s key=0 then c else nilF
def pDelE (c:Cfg) (s:SlC) (key:Int):Int:=if pmE c s=0 then (if hasB s key=true then 0 else 6) else pmE c s
def pDelC (c:Cfg) (s:SlC) (key:Int):SlC:=if pDelE c s key=0 then takC c s (rnkC s key) else nilC
def pDelF (c:Cfg) (s:SlC) (key:Int):Cfg:=if pDelE c s key=0 then c else nilF
theorem bel_rank {s:SlC} (h:seekE s=0) (key:Int):belL (prs s 0 s.ks.length) key=rnkC s key:=by
 have hF:=frS_is s.ws s.ks s.ks.length key;have hmo:=seek_mono h;unfold rnkC posC;generalize frS s.ws s.ks s.ks.length key=r at *;rw [belL,prs_app s (Nat.zero_le r) hF.le,List.countP_append,List.countP_eq_length.2,prs_length,List.countP_eq_zero.2,Nat.add_zero]
 · intro p hp;obtain ⟨j,⟨h1,h2,h3⟩,rfl⟩:=prs_in.1 hp;have hr:=hF.hit xo;have:key≤s.ks.getD j 0:=by
    rcases Nat.eq_or_lt_of_le h1 with q|q
    · rw [←q];exact hr.2
    · have:=hmo r j q h2 hr.1 h3;omega
   intro hd;have hd:=of_decide_eq_true hd;dsimp only at hd;omega
 · intro p hp;obtain ⟨j,⟨h1,h2,h3⟩,rfl⟩:=prs_in.1 hp;have:=hF.low j h2 h3;exact decide_eq_true this
theorem has_yes {s:SlC} {key:Int} (h:seekE s=0) (hb:hasB s key=true):findV s key=((posC s key:Int),0)∧posC s key<s.ks.length∧bitW s.ws (posC s key)=true∧s.ks.getD (posC s key) 0=key∧∃v,fndL (prs s 0 s.ks.length) key=some (key,v):=by
 rcases find_get (key:=key) h with ⟨r,h1,h2,h3,h4,h5⟩ | ⟨h1,h2⟩
 · have e:posC s key=r:=by
     have hF:=frS_is s.ws s.ks s.ks.length key;have hmo:=seek_mono h;unfold posC;generalize frS s.ws s.ks s.ks.length key=q at *;rcases Nat.lt_trichotomy q r with x|x|x
     · obtain ⟨a,b⟩:=hF.hit xo;have:=hmo q r x h2 a h3;omega
     · exact x
     · have:=hF.low r x h3;omega
   rw [e];exact ⟨h1,h2,h3,h4,_,h5⟩
 · rw [hasB,h2] at hb;cases hb
theorem has_no {s:SlC} {key:Int} (h:seekE s=0) (hb:hasB s key=false):findV s key=(0,6)∧fndL (prs s 0 s.ks.length) key=none:=by
 rcases find_get (key:=key) h with ⟨r,h1,h2,h3,h4,h5⟩ | ⟨h1,h2⟩
 · rw [hasB,h5] at hb;cases hb
 · exact ⟨h1,h2⟩
theorem rnk_le (s:SlC) (key:Int):rnkC s key≤manyC s:=cntW_mono (frS_is s.ws s.ks s.ks.length key).le
theorem rnk_lt {s:SlC} {key:Int} (h:seekE s=0) (hb:hasB s key=true):rnkC s key<manyC s:=by
 obtain ⟨-,h1,h2,-⟩:=has_yes h hb;have:=cntW_succ (ws:=s.ws) (Nat.zero_le (posC s key));rw [if_pos h2] at this;have h3:cntW s.ws 0 (posC s key+1)≤manyC s:=cntW_mono h1;unfold rnkC;omega
theorem pmput_e {c:Cfg} {s:SlC} {key:Int} (h:pmE c s=0):putE c s (rnkC s key)=if (manyC s:Int)=c.most then 9 else 0:=by
 have:=rnk_le s key;rw [putE,if_pos (pm_zero h).1,if_neg xo]
theorem pmtak_e {c:Cfg} {s:SlC} {key:Int} (h:pmE c s=0) (hb:hasB s key=true):takE c s (rnkC s key)=0:=by
 have:=rnk_lt (pm_zero h).2 hb;rw [takE,if_pos (pm_zero h).1,if_neg xo]
end
section
open Go.RowKit
end
section
open Go.RowKit Go.Shelf
attribute [local go_sem] Oper.semAt_some
theorem list15 {W:World} {b:Nat} {v0 v1 v2 v3 v4 v5 v6 v7 v8 v9 v10 v11 v12 v13 v14:Value} (h:CB15 W b v0 v1 v2 v3 v4 v5 v6 v7 v8 v9 v10 v11 v12 v13 v14):∀j v,[v0,v1,v2,v3,v4,v5,v6,v7,v8,v9,v10,v11,v12,v13,v14][j]? =some v→W.cell? ⟨b,j,none⟩=some v:=by
 obtain ⟨h0,h1,h2,h3,h4,h5,h6,h7,h8,h9,h10,h11,h12,h13,h14⟩:=h;intro j v hj;match j,hj with
 | 0,hj=>cases hj;exact h0
 | 1,hj=>cases hj;exact h1
 | 2,hj=>cases hj;exact h2
 | 3,hj=>cases hj;exact h3
 | 4,hj=>cases hj;exact h4
 | 5,hj=>cases hj;exact h5
 | 6,hj=>cases hj;exact h6
 | 7,hj=>cases hj;exact h7
 | 8,hj=>cases hj;exact h8
 | 9,hj=>cases hj;exact h9
 | 10,hj=>cases hj;exact h10
 | 11,hj=>cases hj;exact h11
 | 12,hj=>cases hj;exact h12
 | 13,hj=>cases hj;exact h13
 | 14,hj=>cases hj;exact h14
 | j+15,hj=>cases hj
theorem setCs_part {W:World} {b:Nat} {xs zs ys:List Value} (h:∀j v,(xs++zs)[j]? =some v→W.cell? ⟨b,j,none⟩=some v) (hl:zs.length=ys.length):∀j v,(xs++ys)[j]? =some v→(setCs W b xs.length ys).cell? ⟨b,j,none⟩=some v:=by
 intro j v hj;rcases Nat.lt_or_ge j xs.length with q|q
 · rw [setCs_low _ _ _ q];refine h j v ?_;rw [List.getElem?_append_left q] at hj ⊢;exact hj
 · obtain ⟨i,rfl⟩:∃i,j=xs.length+i:=⟨j-xs.length,by omega⟩
   refine setCs_at ys W xs.length (fun k hk=> ?_) i v ?_
   · refine ⟨zs[k]'xo,h _ _ ?_⟩;rw [List.getElem?_append_right xo,Nat.add_sub_cancel_left];exact List.getElem?_eq_getElem _
   · rw [List.getElem?_append_right xo,Nat.add_sub_cancel_left] at hj;exact hj
end
section
open Go.RowKit
def FreshPm2 (w:World) (c:Cfg) (s:SlC) (x:Value) (e:Ending) (w':World):Prop:=
  ∃v1 v2 v3 v4,e= .returned (.tuple #[.agg #[.int .u8 c.tag,.int .i64 c.most,.int .i64 c.seg,.int .i64 c.least,.int .i64 c.den,.int .i64 c.ll,.int .i64 c.rl,.int .i64 c.rh,.int .i64 c.lh,.int .i64 s.seg,v1,v2,v3,v4,.int .u64 s.laid],x])∧w'.ownsRow w.heap.size 27 1 v1 s.ws.length (s.ws.map (Value.int .u64))∧w'.ownsRow w.heap.size 2 1 v2 s.ks.length (s.ks.map (Value.int .i64))∧w'.ownsRow w.heap.size 2 1 v3 s.vs.length (s.vs.map (Value.int .i64))∧w'.ownsRow w.heap.size 3 1 v4 s.cs.length (s.cs.map (Value.int .i64))∧Below w.heap.size w w'
end
section
open Go.RowKit Go.Shelf
attribute [local go_sem] Oper.semAt_some
theorem become_ok0 (c:Cfg) (s:SlC) (wa ka va ca:Option Addr) (wc kc vc cc:Nat) (sg ld:Int) (a1 a2 a3 a4:Option Addr) (n1 n2 n3 n4 k1 k2 k3 k4:Nat) (b:Nat) (w:World) (hb:b<w.heap.size) (PU:CB15 w b (.int .u8 c.tag) (.int .i64 c.most) (.int .i64 c.seg) (.int .i64 c.least) (.int .i64 c.den) (.int .i64 c.ll) (.int .i64 c.rl) (.int .i64 c.rh) (.int .i64 c.lh) (.int .i64 s.seg) (.slice wa s.ws.length wc) (.slice ka s.ks.length kc) (.slice va s.vs.length vc) (.slice ca s.cs.length cc) (.int .u64 s.laid)) (FU:∀j,j<15→w.frozen? ⟨b,j,none⟩=false):
    Calls Tryd.prog 21 #[.pointer (some ⟨b,0,none⟩),.agg #[.int .i64 sg,.slice a1 n1 k1,.slice a2 n2 k2,.slice a3 n3 k3,.slice a4 n4 k4,.int .u64 ld],.int .i64 0] w fun e w'=>e= .returned (.tuple #[.agg #[.int .u8 c.tag,.int .i64 c.most,.int .i64 c.seg,.int .i64 c.least,.int .i64 c.den,.int .i64 c.ll,.int .i64 c.rl,.int .i64 c.rh,.int .i64 c.lh,.int .i64 sg,.slice a1 n1 k1,.slice a2 n2 k2,.slice a3 n3 k3,.slice a4 n4 k4,.int .u64 ld],.int .i64 0])∧Below b w w'∧∀q,q<w.heap.size→q≠b→w'.heap[q]? =w.heap[q]? :=by
 have HFU:=hid FU;have HPU:=hid PU;clear FU PU;go_enter Tryd.func21,Tryd.ntmps21
 go_upto_region 1 with (fail)
 generalize hw0:(w.alloc _).alloc _=w0;have hh:=ec6 hw0 (au6 (al6 (b:=w.heap.size) xsi));obtain ⟨c_t0,c_t1,c_t2,c_t3,c_t4,c_t5⟩:=hh;have z_t:=elt hw0 (auz (alz (b:=w.heap.size) xsi));have hh:=ec15 hw0 (al15 (b:=w.heap.size+1) xsi);obtain ⟨c_r0,c_r1,c_r2,c_r3,c_r4,c_r5,c_r6,c_r7,c_r8,c_r9,c_r10,c_r11,c_r12,c_r13,c_r14⟩:=hh;have hh:=ef15 hw0 (alf15 (b:=w.heap.size+1) xsi);obtain ⟨f_r0,f_r1,f_r2,f_r3,f_r4,f_r5,f_r6,f_r7,f_r8,f_r9,f_r10,f_r11,f_r12,f_r13,f_r14⟩:=hh;have z_r:=elt hw0 (alz (b:=w.heap.size+1) xsi);have HB0:Hid (Below w.heap.size w w0):=by rw [←hw0];exact hid ((br.alloc (Nat.le_refl _) _).alloc xsi _)
 have hzz:w.heap.size+2=w0.heap.size:=by rw [←hw0];simp
 have FU:∀j,j<15→w0.frozen? ⟨b,j,none⟩=false:=fun j hj=>(HB0.out.frozen (p:=⟨b,j,none⟩) hb).trans (HFU.out j hj)
 have hh:CB15 w0 b (.int .u8 c.tag) (.int .i64 c.most) (.int .i64 c.seg) (.int .i64 c.least) (.int .i64 c.den) (.int .i64 c.ll) (.int .i64 c.rl) (.int .i64 c.rh) (.int .i64 c.lh) (.int .i64 s.seg) (.slice wa s.ws.length wc) (.slice ka s.ks.length kc) (.slice va s.vs.length vc) (.slice ca s.cs.length cc) (.int .u64 s.laid):=⟨(HB0.out.cell (p:=⟨b,0,none⟩) hb).trans HPU.out.1,(HB0.out.cell (p:=⟨b,1,none⟩) hb).trans HPU.out.2.1,(HB0.out.cell (p:=⟨b,2,none⟩) hb).trans HPU.out.2.2.1,(HB0.out.cell (p:=⟨b,3,none⟩) hb).trans HPU.out.2.2.2.1,(HB0.out.cell (p:=⟨b,4,none⟩) hb).trans HPU.out.2.2.2.2.1,(HB0.out.cell (p:=⟨b,5,none⟩) hb).trans HPU.out.2.2.2.2.2.1,(HB0.out.cell (p:=⟨b,6,none⟩) hb).trans HPU.out.2.2.2.2.2.2.1,(HB0.out.cell (p:=⟨b,7,none⟩) hb).trans HPU.out.2.2.2.2.2.2.2.1,(HB0.out.cell (p:=⟨b,8,none⟩) hb).trans HPU.out.2.2.2.2.2.2.2.2.1,(HB0.out.cell (p:=⟨b,9,none⟩) hb).trans HPU.out.2.2.2.2.2.2.2.2.2.1,(HB0.out.cell (p:=⟨b,10,none⟩) hb).trans HPU.out.2.2.2.2.2.2.2.2.2.2.1,(HB0.out.cell (p:=⟨b,11,none⟩) hb).trans HPU.out.2.2.2.2.2.2.2.2.2.2.2.1,(HB0.out.cell (p:=⟨b,12,none⟩) hb).trans HPU.out.2.2.2.2.2.2.2.2.2.2.2.2.1,(HB0.out.cell (p:=⟨b,13,none⟩) hb).trans HPU.out.2.2.2.2.2.2.2.2.2.2.2.2.2.1,(HB0.out.cell (p:=⟨b,14,none⟩) hb).trans HPU.out.2.2.2.2.2.2.2.2.2.2.2.2.2.2⟩
 obtain ⟨c_u0,c_u1,c_u2,c_u3,c_u4,c_u5,c_u6,c_u7,c_u8,c_u9,c_u10,c_u11,c_u12,c_u13,c_u14⟩:=hh;have f_u9:=FU 9 xdd;have f_u10:=FU 10 xdd;have f_u11:=FU 11 xdd;have f_u12:=FU 12 xdd;have f_u13:=FU 13 xdd;have f_u14:=FU 14 xdd;clear hw0 FU HFU;go_upto_region 7 with (fail)
 generalize hw1:((((((w0).setCell _ _).setCell _ _).setCell _ _).setCell _ _).setCell _ _).setCell _ _=w1;have HES:w1=setCs w0 b 9 [.int .i64 sg,.slice a1 n1 k1,.slice a2 n2 k2,.slice a3 n3 k3,.slice a4 n4 k4,.int .u64 ld]:=hw1.symm;have PV:=hid (show ∀j v,[.int .u8 c.tag,.int .i64 c.most,.int .i64 c.seg,.int .i64 c.least,.int .i64 c.den,.int .i64 c.ll,.int .i64 c.rl,.int .i64 c.rh,.int .i64 c.lh,.int .i64 sg,.slice a1 n1 k1,.slice a2 n2 k2,.slice a3 n3 k3,.slice a4 n4 k4,.int .u64 ld][j]? =some v→w1.cell? ⟨b,j,none⟩=some v from HES ▸ setCs_part (xs:=[.int .u8 c.tag,.int .i64 c.most,.int .i64 c.seg,.int .i64 c.least,.int .i64 c.den,.int .i64 c.ll,.int .i64 c.rl,.int .i64 c.rh,.int .i64 c.lh]) (zs:=[.int .i64 s.seg,.slice wa s.ws.length wc,.slice ka s.ks.length kc,.slice va s.vs.length vc,.slice ca s.cs.length cc,.int .u64 s.laid]) (ys:=[.int .i64 sg,.slice a1 n1 k1,.slice a2 n2 k2,.slice a3 n3 k3,.slice a4 n4 k4,.int .u64 ld]) (list15 ⟨c_u0,c_u1,c_u2,c_u3,c_u4,c_u5,c_u6,c_u7,c_u8,c_u9,c_u10,c_u11,c_u12,c_u13,c_u14⟩) rfl);have HB1:Hid (Below b w w1):=hid (HES ▸ setCs_below (Nat.le_refl b) [.int .i64 sg,.slice a1 n1 k1,.slice a2 n2 k2,.slice a3 n3 k3,.slice a4 n4 k4,.int .u64 ld] w0 9 (HB0.out.mono (Nat.le_of_lt hb)));have HK1:Hid (∀q,q<w.heap.size→q≠b→w1.heap[q]? =w.heap[q]?):=hid fun q hq hne=>HES ▸ (setCs_heap hne [.int .i64 sg,.slice a1 n1 k1,.slice a2 n2 k2,.slice a3 n3 k3,.slice a4 n4 k4,.int .u64 ld] w0 9).trans (HB0.out.block q hq)
 simp (disch:=omega) only [xsO HES] at c_r0 c_r1 c_r2 c_r3 c_r4 c_r5 c_r6 c_r7 c_r8 c_r9 c_r10 c_r11 c_r12 c_r13 c_r14;simp only [xsF HES] at f_r0 f_r1 f_r2 f_r3 f_r4 f_r5 f_r6 f_r7 f_r8 f_r9 f_r10 f_r11 f_r12 f_r13 f_r14;have hz1:=xsZ HES z_r;clear HES hw1 c_u0 c_u1 c_u2 c_u3 c_u4 c_u5 c_u6 c_u7 c_u8 c_u9 c_u10 c_u11 c_u12 c_u13 c_u14 f_u9 f_u10 f_u11 f_u12 f_u13 f_u14 c_t0 c_t1 c_t2 c_t3 c_t4 c_t5 HPU;have c_u0:=PV.out 0 _ rfl;have c_u1:=PV.out 1 _ rfl;have c_u2:=PV.out 2 _ rfl;have c_u3:=PV.out 3 _ rfl;have c_u4:=PV.out 4 _ rfl;have c_u5:=PV.out 5 _ rfl;have c_u6:=PV.out 6 _ rfl;have c_u7:=PV.out 7 _ rfl;have c_u8:=PV.out 8 _ rfl;have c_u9:=PV.out 9 _ rfl;have c_u10:=PV.out 10 _ rfl;have c_u11:=PV.out 11 _ rfl;have c_u12:=PV.out 12 _ rfl;have c_u13:=PV.out 13 _ rfl;have c_u14:=PV.out 14 _ rfl;clear PV;go_wp2
 have HC:=hid (fifteen_some ⟨c_r0,c_r1,c_r2,c_r3,c_r4,c_r5,c_r6,c_r7,c_r8,c_r9,c_r10,c_r11,c_r12,c_r13,c_r14⟩);refine bodyPost_ret (results_ct rfl rfl (run_loadVar_many _ Tryd.underlying31 rfl xk (setCs_all (W:=w1) (b:=w.heap.size+1) (l:=[.int .u8 c.tag,.int .i64 c.most,.int .i64 c.seg,.int .i64 c.least,.int .i64 c.den,.int .i64 c.ll,.int .i64 c.rl,.int .i64 c.rh,.int .i64 c.lh,.int .i64 sg,.slice a1 n1 k1,.slice a2 n2 k2,.slice a3 n3 k3,.slice a4 n4 k4,.int .u64 ld]) HC.out))) rfl ⟨rfl,?_,?_⟩
 · exact setCs_below (b:=w.heap.size+1) xo [.int .u8 c.tag,.int .i64 c.most,.int .i64 c.seg,.int .i64 c.least,.int .i64 c.den,.int .i64 c.ll,.int .i64 c.rl,.int .i64 c.rh,.int .i64 c.lh,.int .i64 sg,.slice a1 n1 k1,.slice a2 n2 k2,.slice a3 n3 k3,.slice a4 n4 k4,.int .u64 ld] _ 0 HB1.out
 · intro q hq hne;exact (setCs_heap xo [.int .u8 c.tag,.int .i64 c.most,.int .i64 c.seg,.int .i64 c.least,.int .i64 c.den,.int .i64 c.ll,.int .i64 c.rl,.int .i64 c.rh,.int .i64 c.lh,.int .i64 sg,.slice a1 n1 k1,.slice a2 n2 k2,.slice a3 n3 k3,.slice a4 n4 k4,.int .u64 ld] w1 0).trans (HK1.out q hq hne)
theorem become_err (sg ld:Int) (a1 a2 a3 a4:Option Addr) (n1 n2 n3 n4 k1 k2 k3 k4:Nat) (b:Nat) (E:Int) (h0:E≠0) (h2:E≠2) (w:World):
    Calls Tryd.prog 21 #[.pointer (some ⟨b,0,none⟩),.agg #[.int .i64 sg,.slice a1 n1 k1,.slice a2 n2 k2,.slice a3 n3 k3,.slice a4 n4 k4,.int .u64 ld],.int .i64 E] w fun e w'=>e= .returned (.tuple #[.agg #[.int .u8 0,.int .i64 0,.int .i64 0,.int .i64 0,.int .i64 0,.int .i64 0,.int .i64 0,.int .i64 0,.int .i64 0,.int .i64 0,.slice none 0 0,.slice none 0 0,.slice none 0 0,.slice none 0 0,.int .u64 0],.int .i64 E])∧Below w.heap.size w w':=by
 have g0:(E==0)=false:=by simpa using h0
 have g2:(E==2)=false:=by simpa using h2
 clear h0 h2;go_enter Tryd.func21,Tryd.ntmps21
 go_upto_region 1 with (fail)
 generalize hw0:(w.alloc _).alloc _=w0;have hh:=ec6 hw0 (au6 (al6 (b:=w.heap.size) xsi));obtain ⟨c_t0,c_t1,c_t2,c_t3,c_t4,c_t5⟩:=hh;have z_t:=elt hw0 (auz (alz (b:=w.heap.size) xsi));have hh:=ec15 hw0 (al15 (b:=w.heap.size+1) xsi);obtain ⟨c_r0,c_r1,c_r2,c_r3,c_r4,c_r5,c_r6,c_r7,c_r8,c_r9,c_r10,c_r11,c_r12,c_r13,c_r14⟩:=hh;have hh:=ef15 hw0 (alf15 (b:=w.heap.size+1) xsi);obtain ⟨f_r0,f_r1,f_r2,f_r3,f_r4,f_r5,f_r6,f_r7,f_r8,f_r9,f_r10,f_r11,f_r12,f_r13,f_r14⟩:=hh;have z_r:=elt hw0 (alz (b:=w.heap.size+1) xsi);have HB0:Hid (Below w.heap.size w w0):=by rw [←hw0];exact hid ((br.alloc (Nat.le_refl _) _).alloc xsi _)
 clear hw0;go_wp2
 have HC:=hid (fifteen_some ⟨c_r0,c_r1,c_r2,c_r3,c_r4,c_r5,c_r6,c_r7,c_r8,c_r9,c_r10,c_r11,c_r12,c_r13,c_r14⟩);refine bodyPost_ret (results_ct rfl rfl (run_loadVar_many _ Tryd.underlying31 rfl xk (setCs_all (W:=w0) (b:=w.heap.size+1) (l:=[.int .u8 0,.int .i64 0,.int .i64 0,.int .i64 0,.int .i64 0,.int .i64 0,.int .i64 0,.int .i64 0,.int .i64 0,.int .i64 0,.slice none 0 0,.slice none 0 0,.slice none 0 0,.slice none 0 0,.int .u64 0]) HC.out))) rfl ⟨rfl,?_⟩;exact setCs_below (b:=w.heap.size+1) xo [.int .u8 0,.int .i64 0,.int .i64 0,.int .i64 0,.int .i64 0,.int .i64 0,.int .i64 0,.int .i64 0,.int .i64 0,.int .i64 0,.slice none 0 0,.slice none 0 0,.slice none 0 0,.slice none 0 0,.int .u64 0] _ 0 HB0.out
end
end Go.Proofs.YtmnlagmmbfjbeaaDoor

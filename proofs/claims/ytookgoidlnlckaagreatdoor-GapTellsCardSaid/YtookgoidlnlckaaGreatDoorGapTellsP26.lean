/- Merged: PutPl, TakPl, OrdPl, InvEff, PutK. -/
import Derived.Test.YtookgoidlnlckaaGreatDoorGapTellsP23
import Derived.Test.YtookgoidlnlckaaGreatDoorGapTellsP25
import Derived.Test.YtookgoidlnlckaaGreatDoorGapTellsP20
import Derived.Test.YtookgoidlnlckaaGreatDoorGapTellsP19
import Derived.Test.YtookgoidlnlckaaGreatDoorGapTellsP15
import Derived.Test.YtookgoidlnlckaaGreatDoorGapTellsP2
namespace Go.Proofs.YtookgoidlnlckaaGreatDoor
set_option maxRecDepth 100000
set_option maxHeartbeats 40000000
set_option linter.unusedVariables false
set_option linter.unusedSimpArgs false
section
open Go.RowKit
def inH (s:SlC) (a h at_:Nat):Int:=sumC s.cs (wnd a h at_*2^h) ((wnd a h at_+1)*2^h)
def ovB (c:Cfg) (s:SlC) (a H at_ h:Nat):Bool:= !fulB c H h (inH s a h at_+1)
def unfB (c:Cfg) (s:SlC) (a H at_ h:Nat):Bool:= !sprB c s.ks.length H h (inH s a h at_)
theorem ful_room {c:Cfg} {size:Int} {a H h:Nat} (k:CapC c size a H) (hh:h≤H) {n:Int} (hf:fulB c H h n=true):n≤((2^(a+h):Nat):Int):=by
 obtain ⟨d0,d1,d2,d3,d4,d5,d6,d7,d8,d9,d10,d11,d12,d13,d14,d15,d16,d17⟩:=cfHead_num (cfMay_head k.may);have hw:wdC c h=((2^(a+h):Nat):Int):=by rw [wdC,k.seg,Nat.pow_add];push_cast;rfl
 have hw0:=Nat.two_pow_pos (a+h);unfold fulB at hf;split at hf
 · rw [decide_eq_true_eq,hw] at hf;have:=Int.mul_le_mul_of_nonneg_left (show c.rh≤c.den by omega) (show (0:Int)≤((2^(a+h):Nat):Int) by omega);exact Int.le_of_mul_le_mul_right (Int.le_trans hf this) xo
 · rename_i hH
   rw [decide_eq_true_eq,hw] at hf;have h1:c.lh*((H:Int)-h)≤c.den*((H:Int)-h):=Int.mul_le_mul_of_nonneg_right xo xo;have h2:c.rh*(h:Int)≤c.den*(h:Int):=Int.mul_le_mul_of_nonneg_right xo xo;have h3:c.den*((H:Int)-h)+c.den*(h:Int)=H*c.den:=by rw [←Int.mul_add,Int.mul_comm];congr 1;omega
   have h4:=Int.mul_le_mul_of_nonneg_left (show c.lh*((H:Int)-h)+c.rh*h≤H*c.den by omega) (show (0:Int)≤((2^(a+h):Nat):Int) by omega);rw [Int.mul_assoc] at hf;have h5:(0:Int)<(H:Int)*c.den:=Int.mul_pos xo xo;exact Int.le_of_mul_le_mul_right (Int.le_trans hf h4) h5
def manyC (s:SlC):Nat:=cntW s.ws 0 s.ks.length
def homeC (s:SlC) (k:Nat):Nat:=(plsW s.ws 0 s.ks.length).getD (k-1) 0
theorem homeC_lt {s:SlC} (h:1≤s.ks.length) (k:Nat):homeC s k<s.ks.length:=by
 unfold homeC;rcases Nat.lt_or_ge (k-1) (plsW s.ws 0 s.ks.length).length with q|q
 · exact (plsW_getD q).2
 · rw [List.getD_eq_getElem?_getD,List.getElem?_eq_none q];simpa using Nat.lt_of_lt_of_le Nat.zero_lt_one h
def insL (l:List (Int×Int)) (k:Nat) (p:Int×Int):List (Int×Int):=l.take k++p::l.drop k
theorem insL_length {l:List (Int×Int)} {k:Nat} (h:k≤l.length) (p:Int×Int):(insL l k p).length=l.length+1:=by
 simp [insL];omega
def putN (c:Cfg) (s:SlC) (a H:Nat) (k:Nat) (p:Int×Int):SlC:=
  if topI (ovB c s a H (homeC s k)) (H+1)=H then wideC (2^a) (capM c (manyC s+1)) s.laid (insL (prs s 0 s.ks.length) k p)
  else
   let h:=(topI (ovB c s a H (homeC s k)) (H+1)+1).toNat
   let lo:=wnd a h (homeC s k)*2^(a+h)
   let hi:=(wnd a h (homeC s k)+1)*2^(a+h)
   spC s lo hi (insL (prs s lo hi) (k-cntW s.ws 0 lo) p)
def sgL (c:Cfg):Nat:=c.seg.toNat.log2
def putE (c:Cfg) (s:SlC) (k:Int):Int:=if gapE c s=0 then (if k<0∨(manyC s:Int)<k then 2 else if (manyC s:Int)=c.most then 9 else 0) else gapE c s
def putC (c:Cfg) (s:SlC) (k:Int) (p:Int×Int):SlC:=if putE c s k=0 then putN c s (sgL c) (htC c s.ks.length) k.toNat p else nilC
theorem sum_many {c:Cfg} {s:SlC} {a H:Nat} (k:GapN c s a H) (hu:U64s s.ws):sumC s.cs 0 s.cs.length=manyC s:=by
 obtain ⟨g,-⟩:=gapN_gd k hu;rw [sumC_cnt2 g (Nat.zero_le _) (by rw [k.nc];exact Nat.le_refl _),manyC,Nat.zero_mul,k.nc,k.nk,Nat.mul_comm (2^H)]
theorem in_cnt {c:Cfg} {s:SlC} {a H h at_:Nat} (k:GapN c s a H) (hu:U64s s.ws) (hh:h≤H) (hat:at_<s.ks.length):inH s a h at_=(cntW s.ws (wnd a h at_*2^(a+h)) ((wnd a h at_+1)*2^(a+h)):Nat):=by
 obtain ⟨g,-⟩:=gapN_gd k hu;rw [k.nk] at hat;have b:=wnd_bd hh hat;have e:=wnd_seg a h at_;rw [inH,sumC_cnt2 g (Nat.mul_le_mul_right _ xo) b.1,e.1,e.2.1]
theorem pls_rank {ws:List Int} {n i:Nat} (h:i<(plsW ws 0 n).length):cntW ws 0 ((plsW ws 0 n).getD i 0)=i∧bitW ws ((plsW ws 0 n).getD i 0)=true∧(plsW ws 0 n).getD i 0<n:=by
 induction n with
 | zero=>simp [plsW_nil] at h
 | succ n ih=>
  rw [plsW_succ (Nat.zero_le _)] at h ⊢;rcases Nat.lt_or_ge i (plsW ws 0 n).length with q|q
  · have e:(plsW ws 0 n++if bitW ws n=true then [n] else []).getD i 0=(plsW ws 0 n).getD i 0:=by
      rw [List.getD_eq_getElem?_getD,List.getElem?_append_left q,←List.getD_eq_getElem?_getD]
    rw [e];obtain ⟨h1,h2,h3⟩:=ih q;exact ⟨h1,h2,by omega⟩
  · by_cases hb:bitW ws n=true
    · rw [if_pos hb,List.length_append,List.length_singleton] at h;have hi:i=(plsW ws 0 n).length:=xo;rw [if_pos hb];have e:(plsW ws 0 n++[n]).getD i 0=n:=by
       rw [List.getD_eq_getElem?_getD,hi,List.getElem?_append_right (Nat.le_refl _),Nat.sub_self];rfl
      rw [e];exact ⟨by rw [hi,plsW_length],hb,by omega⟩
    · rw [if_neg hb,List.append_nil] at h;omega
theorem home_in {s:SlC} {k lo hi:Nat} (hn:1≤s.ks.length) (hk:k≤manyC s) (hlo:lo≤homeC s k) (hhi:homeC s k<hi) (hh:hi≤s.ks.length):cntW s.ws 0 lo≤k∧k-cntW s.ws 0 lo≤(prs s lo hi).length:=by
 rw [prs_length];have hadd:=cntW_add s.ws (a:=0) (b:=lo) (d:=hi) xo xo;have hadd2:=cntW_add s.ws (a:=0) (b:=hi) (d:=s.ks.length) xo hh;have hm:manyC s=cntW s.ws 0 s.ks.length:=rfl;rcases Nat.eq_zero_or_pos k with rfl|hk0
 · -- ahead of all: there is nothing ahead of the first one
   have hz:cntW s.ws 0 lo=0:=by
    rcases Nat.eq_zero_or_pos (manyC s) with q|q
    · omega
    · have hr:=pls_rank (ws:=s.ws) (n:=s.ks.length) (i:=0) (by rw [plsW_length];omega);have e:homeC s 0=(plsW s.ws 0 s.ks.length).getD 0 0:=rfl;rw [←e] at hr;have:=cntW_mono (ws:=s.ws) (a:=0) hlo;omega
   omega
 · have hr:=pls_rank (ws:=s.ws) (n:=s.ks.length) (i:=k-1) (by rw [plsW_length];omega);have e:homeC s k=(plsW s.ws 0 s.ks.length).getD (k-1) 0:=rfl;rw [←e] at hr;have h1:=cntW_mono (ws:=s.ws) (a:=0) hlo;have h2:cntW s.ws 0 (homeC s k+1)=k:=by
    rw [cntW_succ (Nat.zero_le _),if_pos hr.2.1];omega
   have h3:=cntW_mono (ws:=s.ws) (a:=0) (show homeC s k+1≤hi by omega);omega
theorem put_room {c:Cfg} {s:SlC} {a H:Nat} (k:GapN c s a H) (hu:U64s s.ws) {at_:Nat} (hat:at_<s.ks.length) (hne:topI (ovB c s a H at_) (H+1)≠H):
    ∃h:Nat,topI (ovB c s a H at_) (H+1)+1=h∧h≤H∧(cntW s.ws (wnd a h at_*2^(a+h)) ((wnd a h at_+1)*2^(a+h)):Nat)+1≤2^(a+h):=by
 have hmain:∀h:Nat,h≤H→ovB c s a H at_ h=false→(cntW s.ws (wnd a h at_*2^(a+h)) ((wnd a h at_+1)*2^(a+h)):Nat)+1≤2^(a+h):=by
  intro h hh ho;unfold ovB at ho;rw [Bool.not_eq_false'] at ho;rw [in_cnt k hu hh hat] at ho;have:=ful_room k.cap hh ho;omega
 rcases topI_cases (ovB c s a H at_) (H+1) with ⟨e,hn⟩ | ⟨q,hq,e,hp,hn⟩
 · exact ⟨0,by omega,by omega,hmain 0 xo (hn 0 xo)⟩
 · have hqH:q≠H:=fun h=>hne (by rw [e,h])
   exact ⟨q+1,by omega,by omega,hmain (q+1) xo (hn (q+1) xo xo)⟩
end
section
open Go.RowKit
theorem nar_step {c:Cfg} {size:Int} {a H:Nat} (k:CapC c size a H) {m:Nat} (hf:sprB c size H H m=false):∃H',H=H'+1∧CapC c (size/2) a H'∧8*((m:Int)+1)<size:=by
 have hd:=cfMay_head k.may;obtain ⟨d0,d1,d2,d3,d4,d5,d6,d7,d8,d9,d10,d11,d12,d13,d14,d15,d16,d17⟩:=cfHead_num hd;obtain ⟨l1,l2,b,eb⟩:=powB_nat (cfHead_facts hd).2.2.2.2.2.1;obtain ⟨s1,s2,s3⟩:=powB_iff.1 k.cap;unfold sprB at hf;rw [Bool.or_eq_false_iff,decide_eq_false_iff_not,decide_eq_false_iff_not] at hf;obtain ⟨hne,hlt⟩:=hf;have hall:=k.all;have hseg:=k.seg;have e:2^a*2^H=2^(a+H):=(Nat.pow_add ..).symm;have hb1:2^b<2^(a+H):=by rw [←e];omega
 have hbH:b<a+H:=(Nat.pow_lt_pow_iff_right (a:=2) xo).1 hb1;have hab:a≤b:=(Nat.pow_le_pow_iff_right (a:=2) xo).1 xo;obtain ⟨H',rfl⟩:∃H',H=H'+1:=⟨H-1,by omega⟩
 have e2:2^a*2^(H'+1)=2*(2^a*2^H'):=by rw [Nat.pow_succ];simp only [Nat.mul_comm,Nat.mul_left_comm]
 have hhalf:size/2=((2^a*2^H':Nat):Int):=by rw [hall,e2];omega
 have hbig:=k.big;have h14:=k.h14;have hlb:2^b≤2^a*2^H':=by rw [←Nat.pow_add];exact Nat.pow_le_pow_right xo xo
 refine ⟨H',rfl,⟨k.may,powB_iff.2 ⟨by omega,by omega,?_⟩,k.seg,k.a2,k.a6,hhalf,by omega,?_,by omega⟩,?_⟩
 · rw [hhalf,←Nat.pow_add];exact pwB_two _
 · rw [htC,hseg,hhalf,Int.natCast_mul,Int.mul_ediv_cancel_left _ (by have:=Nat.two_pow_pos a;omega),Int.toNat_natCast,Nat.log2_two_pow]
 · have hw:wdC c (H'+1)=size:=by rw [wdC,hseg,hall];push_cast;rfl
   rw [hw] at hlt;have e3:c.ll*(((H'+1:Nat):Int)-((H'+1:Nat):Int))+c.rl*((H'+1:Nat):Int)=c.rl*((H'+1:Nat):Int):=by rw [Int.sub_self,Int.mul_zero,Int.zero_add]
   rw [e3] at hlt;have h1:((m:Int)+1)*((H'+1:Nat):Int)*c.den<size*(c.rl*((H'+1:Nat):Int)):=xo;have h2:((m:Int)+1)*((H'+1:Nat):Int)*c.den=(((m:Int)+1)*c.den)*((H'+1:Nat):Int):=by rw [Int.mul_assoc,Int.mul_comm _ c.den,←Int.mul_assoc]
   have h3:size*(c.rl*((H'+1:Nat):Int))=(size*c.rl)*((H'+1:Nat):Int):=by rw [Int.mul_assoc]
   rw [h2,h3] at h1;have h4:((m:Int)+1)*c.den<size*c.rl:=Int.lt_of_mul_lt_mul_right h1 xo;have h5:=Int.mul_le_mul_of_nonneg_left (show 8*c.rl≤c.den by omega) (show (0:Int)≤(m:Int)+1 by omega);have h6:((m:Int)+1)*(8*c.rl)=(8*((m:Int)+1))*c.rl:=by rw [←Int.mul_assoc,Int.mul_comm _ 8]
   rw [h6] at h5;exact Int.lt_of_mul_lt_mul_right (Int.lt_of_le_of_lt h5 h4) xo
def narF (c:Cfg) (m:Int):Nat→Int→Int
  | 0,size=>size
  | f+1,size=>if sprB c size (htC c size) (htC c size) m=true then size else narF c m f (size/2)
theorem nar_ok {c:Cfg} {m:Nat}:∀(f:Nat) (size:Int) (a H:Nat),CapC c size a H→H<f→(m:Int)≤size→∃H',H'≤H∧CapC c (narF c m f size) a H'∧(m:Int)≤narF c m f size∧sprB c (narF c m f size) H' H' m=true
  | 0,_,_,_,_,h,_=>by omega
  | f+1,size,a,H,k,h,hm=>by
   rw [narF,k.hgt];cases hs:sprB c size H H m with
   | true=>rw [if_pos rfl];exact ⟨H,Nat.le_refl _,k,hm,hs⟩
   | false=>
    rw [if_neg (by decide)];obtain ⟨H',rfl,k',h8⟩:=nar_step k hs;obtain ⟨H2,q1,q2,q3,q4⟩:=nar_ok (m:=m) f (size/2) a H' k' xo xo;exact ⟨H2,by omega,q2,q3,q4⟩
def takN (c:Cfg) (s:SlC) (a H:Nat) (k:Nat):SlC:=
  let at_:=(plsW s.ws 0 s.ks.length).getD k 0
  let z:=tkC s at_
  let t:=topI (unfB c z a H at_) (H+1)
  if t= -1 then z
  else if t=H then wideC (2^a) ((narF c (manyC z) 20 z.ks.length).toNat/2^a) z.laid (prs z 0 z.ks.length)
  else spC z (wnd a (t+1).toNat at_*2^(a+(t+1).toNat)) ((wnd a (t+1).toNat at_+1)*2^(a+(t+1).toNat)) (prs z (wnd a (t+1).toNat at_*2^(a+(t+1).toNat)) ((wnd a (t+1).toNat at_+1)*2^(a+(t+1).toNat)))
def takE (c:Cfg) (s:SlC) (k:Int):Int:=if gapE c s=0 then (if k<0∨(manyC s:Int)≤k then 2 else 0) else gapE c s
def takC (c:Cfg) (s:SlC) (k:Int):SlC:=if takE c s k=0 then takN c s (sgL c) (htC c s.ks.length) k.toNat else nilC
end
section
open Go.RowKit
end
section
open Go.RowKit
section
variable {P:Program} {ops:Array Oper} {Q:Exit→Act→World→Prop}
def OpsOkE (P:Program) (ops:Array Oper) (Q:Exit→Act→World→Prop) (D:List Nat) (t0:Array Value) (n:Nat) (ds:List Deferred) (J:World→Prop) (Ext:Nat→World→World→Prop) (G:Nat→(Nat→Value)→World→Prop):Nat→List Oper→Prop
  | _,[]=>True
  | k,o::rest=>OpOkR P ops Q D t0 n ds J (Ext k) G k o∧OpsOkE P ops Q D t0 n ds J Ext G (k+1) rest
theorem OpsOkE.at {D:List Nat} {t0:Array Value} {n:Nat} {ds:List Deferred} {J:World→Prop} {Ext:Nat→World→World→Prop} {G:Nat→(Nat→Value)→World→Prop}:∀ {l:List Oper} {k:Nat},OpsOkE P ops Q D t0 n ds J Ext G k l→∀ {i:Nat} {o:Oper},l[i]? =some o→OpOkR P ops Q D t0 n ds J (Ext (k+i)) G (k+i) o
  | [],_,_,i,o,ho=>by simp at ho
  | x::rest,k,h,0,o,ho=>by simp at ho;subst ho;exact h.1
  | x::rest,k,h,i+1,o,ho=>by
   have:=OpsOkE.at h.2 (i:=i) (o:=o) (by simpa using ho);rwa [Nat.add_assoc,Nat.add_comm 1 i] at this
theorem wp_region_eff {id:Nat} {l:List Oper} {t0:Array Value} {ds:List Deferred} {w0:World} {N:Nat} (n:Nat) (hm:P.follows .mixedOrders=true) (hn:t0.size=N) (hB:regionL (l.take n) N=true) (hT:tailL l n=true) (hle:n≤l.length)
    (J:World→Prop) (Ext:Nat→World→World→Prop) (G:Nat→(Nat→Value)→World→Prop) (hst:∀i k x w w',k≠i→Ext i w w'→G k x w→G k x w') (hdep:∀(k:Nat) (u u':Nat→Value) (w:World),(∀(j:Nat) (p o:Oper),l[j]? =some p→l[k]? =some o→(j=k∨(o.after.any fun e=>Region.binds .any e&&e.on==j)=true)→valOf u' p=valOf u p)→G k u w→G k u' w) (hJ:J w0.drew)
    (hop:OpsOkE P l.toArray Q (dstsOf (l.take n)) t0 N ds J Ext G 0 (l.take n))
    (hdone:∀(u:Nat→Value) (w:World),J w→(∀(k:Nat) (o:Oper),(l.take n)[k]? =some o→G k u w)→wpList P l.toArray Q (l.drop n) {tmps:=mixFrame (dstsOf (l.take n)) u t0,defers:=ds} w):
    (Code.region id l.toArray true).wp P Q {tmps:=t0,defers:=ds} w0:=by
 subst hn;simp only [regionL,Bool.and_eq_true,List.all_eq_true,decide_eq_true_eq] at hB;obtain ⟨⟨⟨hnd,hlt⟩,hgd⟩,hac⟩:=hB;simp only [tailL,List.all_eq_true,List.mem_range,Bool.or_eq_true,decide_eq_true_eq] at hT;have htk:∀ {k:Nat} {o:Oper},(l.take n)[k]? =some o↔k<n∧l[k]? =some o:=by
  intro k o;rw [List.getElem?_take];by_cases h:k<n
  · rw [if_pos h];exact ⟨fun h1=>⟨h,h1⟩,fun h1=>h1.2⟩
  · rw [if_neg h];exact ⟨fun h1=>(by cases h1),fun h1=>absurd h1.1 h⟩
 refine wp_region_any hm (wpAny_invL (ops:=l.toArray)
   (fun L a w=>((∀i,n≤i→L.getD i false=false)∧∃u:Nat→Value,a= {tmps:=mixFrame (dstsOf (l.take n)) u t0,defers:=ds}∧J w∧∀(k:Nat) (o:Oper),(l.take n)[k]? =some o→L.getD k false=true→G k u w) ∨
     (∃m,n≤m∧m≤l.length∧(∀i,i<m→L.getD i false=true)∧(∀i,m≤i→L.getD i false=false)∧wpList P l.toArray Q (l.drop m) a w))
   ?_ ?_ ?_ _ _ _ _ (by simp) (leftOf_le _ _) (fun j p hp hj=>by simp [Array.getD] at hj) (.inl ⟨fun i _=>by rw [List.size_toArray];simp [Array.getD],fun t=>t0.getD t undef,by rw [mixFrame_start],hJ,fun k o _ h=> ?_⟩))
 · intro i o ho e he hb;have hi:i<l.length:=(Array.getElem?_eq_some_iff.1 ho).1;rw [List.getElem?_toArray] at ho;by_cases hin:i<n
   · have h1:(l.take n)[i]? =some o:=htk.2 ⟨hin,ho⟩;have:=hac i (List.mem_range.2 (List.getElem?_eq_some_iff.1 h1).1);rw [h1] at this;have h2:=Array.all_eq_true_iff_forall_mem.1 this e he;rw [hb] at h2;simpa using h2
   · have h1:=hT i hi;rcases h1 with h1|h1
     · omega
     · rw [ho] at h1;simp only [Bool.and_eq_true] at h1;have h2:=Array.all_eq_true_iff_forall_mem.1 h1.2 e he;rw [hb] at h2;simpa using h2
 · rintro L a w i o hs ho hi hall hcl hI;rw [List.getElem?_toArray] at ho;have hil:i<l.length:=(List.getElem?_eq_some_iff.1 ho).1;have hilt:i<L.size:=by rw [hs];simpa using hil
   have ahead:n≤i→∀j,j<i→L.getD j false=true:=by
    intro hin j hj;have h1:=hT i hil;rcases h1 with h1|h1
    · omega
    · simp only [Bool.and_eq_true,decide_eq_true_eq] at h1;have hbit:((masksOf l []).getD i 0).testBit j=true:=by
       have h2:=congrArg (fun m=>Nat.testBit m j) h1.1;simp only [Nat.testBit_mod_two_pow,Nat.testBit_two_pow_sub_one,decide_eq_true hj,Bool.true_and] at h2;exact h2
      exact masks_sound hcl l [] 0 rfl (fun j=>by rw [Nat.zero_add]) (fun i hi=>by omega) i o ho hall j hbit
   have later:∀(m:Nat),n≤m→m=i→(∀j,m≤j→L.getD j false=false)→(∀j,j<m→L.getD j false=true)→wpList P l.toArray Q (l.drop m) a w→
       wpOp P l.toArray Q i (fun a' w'=>((∀k,n≤k→(L.setIfInBounds i true).getD k false=false)∧∃u:Nat→Value,a'= {tmps:=mixFrame (dstsOf (l.take n)) u t0,defers:=ds}∧J w'∧∀(k:Nat) (o:Oper),(l.take n)[k]? =some o→(L.setIfInBounds i true).getD k false=true→G k u w') ∨
         (∃m,n≤m∧m≤l.length∧(∀k,k<m→(L.setIfInBounds i true).getD k false=true)∧(∀k,m≤k→(L.setIfInBounds i true).getD k false=false)∧wpList P l.toArray Q (l.drop m) a' w')) a w:=by
    rintro m hnm rfl hno hyes hw;refine wpOp_mono (fun a' w' h=> .inr ⟨m+1,by omega,by omega,fun k hk=> ?_,fun k hk=> ?_,h⟩) (wpOp_of_list ho hw)
    · by_cases e:k=m
      · subst e;exact set_same hilt
      · rw [set_else e];exact hyes k xo
    · rw [set_else xo];exact hno k xo
   rcases hI with ⟨hno,u,rfl,hJw,hG⟩ | ⟨m,hnm,hml,hyes,hno,hw⟩
   · by_cases hin:i<n
     · have htki:(l.take n)[i]? =some o:=htk.2 ⟨hin,ho⟩;have hok:=hop.at htki;rw [Nat.zero_add] at hok;have hg:o.guard=none:=by
        have:=hgd o (List.mem_of_getElem? htki);cases hx:o.guard with
        | none=>rfl
        | some x=>rw [hx] at this;cases this
       unfold wpOp;simp only [List.getElem?_toArray,ho];rw [if_pos (by simp [Region.wanted,hg])];left;refine hok u _ w (fun t ht=>mixFrame_get ht) hJw (fun j p hj hp=> ?_) _ (fun v w' hv hJ' hG' hE=> .inl ⟨fun k hk=>by rw [set_else xo];exact hno k hk,?_⟩)
       · rw [List.getElem?_toArray] at hp;obtain ⟨e,he,hbe⟩:=Array.any_eq_true.1 hj;simp only [Bool.and_eq_true,beq_iff_eq] at hbe;have hl:=hall _ (Array.getElem_mem he) hbe.1;rw [hbe.2] at hl;have hjn:j<n:=by
          by_cases h:j<n
          · exact h
          · rw [hno j xo] at hl;cases hl
         exact hG j p (htk.2 ⟨hjn,hp⟩) hl
       · cases hd:o.dst with
         | none=>
          refine ⟨u,rfl,hJ',fun k p hp hk=> ?_⟩;by_cases e:k=i
          · subst e;have:=hG';unfold updR at this;rw [hd] at this;exact this
          · rw [set_else e] at hk;exact hst _ _ _ _ _ e hE (hG k p hp hk)
         | some d=>
          have hdm:(dstsOf (l.take n)).contains d=true:=by
           simp only [List.contains_iff_mem];exact List.mem_filterMap.2 ⟨o,List.mem_of_getElem? htki,hd⟩
          refine ⟨fun t=>if t=d then v else u t,by simp only [Act.put,mixFrame_put hdm],hJ',fun k p hp hk=> ?_⟩;by_cases e:k=i
          · subst e;have:=hG';unfold updR at this;rw [hd] at this;exact this
          · rw [set_else e] at hk;refine hst _ _ _ _ _ e hE (hdep k u _ w (fun j p' o' hj ho' hor=> ?_) (hG k p hp hk));have hjl:L.getD j false=true:=by
             rcases hor with rfl|hor
             · exact hk
             · obtain ⟨e',he',hbe⟩:=Array.any_eq_true.1 hor;simp only [Bool.and_eq_true,beq_iff_eq] at hbe;have:=hcl k o' (by rw [List.getElem?_toArray];exact ho') hk _ (Array.getElem_mem he') hbe.1;rw [hbe.2] at this;exact this
            have hji:j≠i:=fun h=>by rw [h,hi] at hjl;cases hjl
            have hjn:j<n:=by
             by_cases h:j<n
             · exact h
             · rw [hno j xo] at hjl;cases hjl
            have hne:=nodup_slot hnd htki (htk.2 ⟨hjn,hj⟩) (fun h=>hji h.symm) hd;unfold valOf;cases hpd:p'.dst with
            | none=>rfl
            | some d'=>exact if_neg (fun h=>hne (by rw [hpd,h]))
     · have hin':n=i:=by
         by_cases e:n=i
         · exact e
         · have:=ahead xo n xo;rw [hno n (Nat.le_refl _)] at this;cases this
       refine later n (Nat.le_refl _) hin' hno (fun j hj=>ahead xo j xo) (hdone u w hJw fun k p hp=>hG k p hp (ahead xo k ?_));have:=(htk.1 hp).1;omega
   · have him:m≤i:=by
       by_cases h:m≤i
       · exact h
       · have:=hyes i xo;rw [hi] at this;cases this
     have hmi:m=i:=by
      by_cases e:m=i
      · exact e
      · have:=ahead xo m xo;rw [hno m (Nat.le_refl _)] at this;cases this
     exact later m hnm hmi hno hyes hw
 · rintro L a w hs hall hI;rw [List.size_toArray] at hall;rcases hI with ⟨hno,u,rfl,hJw,hG⟩ | ⟨m,hnm,hml,hyes,hno,hw⟩
   · have hnl:n=l.length:=by
       by_cases e:n=l.length
       · exact e
       · have:=hall n xo;rw [hno n (Nat.le_refl _)] at this;cases this
     have hq:=hdone u w hJw fun k p hp=>hG k p hp (hall k (by have:=(htk.1 hp).1;omega))
     have hd:l.drop n=[]:=by rw [hnl];exact List.drop_length
     rw [hd] at hq;exact hq
   · have hml':m=l.length:=by
       by_cases e:m=l.length
       · exact e
       · have:=hall m xo;rw [hno m (Nat.le_refl _)] at this;cases this
     rw [hml',List.drop_length] at hw;exact hw
 · rw [List.size_toArray] at h;simp [Array.getD] at h
end
end
section
open Go.RowKit
theorem prI_take (L:List (Int×Int)):∀k,prI (L.take k)=(prI L).take (k*2):=by
 induction L with
 | nil=>intro k;simp [prI]
 | cons x L ih=>
  intro k;cases k with
  | zero=>simp [prI]
  | succ k=>
   have:=ih k;rw [List.take_succ_cons,show (k+1)*2=k*2+1+1 by omega];simp only [prI,List.flatMap_cons,List.cons_append,List.nil_append,List.take_succ_cons] at this ⊢;rw [this]
theorem prI_drop (L:List (Int×Int)):∀k,prI (L.drop k)=(prI L).drop (k*2):=by
 induction L with
 | nil=>intro k;simp [prI]
 | cons x L ih=>
  intro k;cases k with
  | zero=>simp [prI]
  | succ k=>
   have:=ih k;rw [List.drop_succ_cons,show (k+1)*2=k*2+1+1 by omega];simp only [prI,List.flatMap_cons,List.cons_append,List.nil_append,List.drop_succ_cons] at this ⊢;rw [this]
section
variable {P:Program}
theorem wp_scope_fwd {c B:Code} (l:Nat) {Q:Exit→Act→World→Prop} {a:Act} {w:World} (hf:findLabel c l=some (.seq .skip B))
    (h:c.wp P (Exit.jump l (fun a w=>B.wp P (Exit.jump l (fun _ _=>False) Q) a w) Q) a w):(Code.scope c).wp P Q a w:=by
 refine wp_scope_loop l (fun _ a w=>B.wp P (Exit.jump l (fun _ _=>False) Q) a w) hf ?_ ?_
 · intro n a w h H _;refine Code.wp_mono ?_ h;intro e a' w' q;cases e<;>simp only [Exit.jump] at q ⊢ <;> first|exact q|skip
   exact q.2.elim
 · intro H hJ _;refine Code.wp_mono ?_ h;intro e a' w' q;cases e<;>simp only [Exit.jump] at q ⊢ <;> first|exact q|skip
   exact ⟨q.1,hJ 0 _ _ q.2⟩
theorem exec_slice_from {o:Oper} {a:Act} {w:World} (t e:TypeId) (x y:Operand) (size:Nat) (ao:Option Addr) (m pl k:Nat) (ho:o.op= .slice t x (some y) none none)
    (ht:P.underlying t=some (.slice e)) (hs:(P.info? e).map (·.size)=some size) (hx:a.eval x= .slice ao m pl) (hy:a.eval y= .int .i64 k) (hk:k≤m) (hm:m≤pl):
    (execOp a.eval o).run P w= .ok (.value (.slice (if pl=k then ao else ao.map (·.add (k*size))) (m-k) (pl-k))) w:=by
 obtain ⟨i,hi,rfl⟩:=Option.map_eq_some_iff.1 hs;unfold execOp;simp [ho,hx,hy,Instr.sliceAt,Instr.slice,Instr.sliceBounds,Instr.sliceBound,asIntOf,run_underlying ht,sizeOf,typeInfo,hi,hk,hm]
theorem exec_slice_full {o:Oper} {a:Act} {w:World} (t e:TypeId) (x y z:Operand) (size:Nat) (ao:Option Addr) (m pl k:Nat) (ho:o.op= .slice t x none (some y) (some z))
    (ht:P.underlying t=some (.slice e)) (hs:(P.info? e).map (·.size)=some size) (hx:a.eval x= .slice ao m pl) (hy:a.eval y= .int .i64 k) (hz:a.eval z= .int .i64 k) (hk:k≤pl):
    (execOp a.eval o).run P w= .ok (.value (.slice ao k k)) w:=by
 obtain ⟨i,hi,rfl⟩:=Option.map_eq_some_iff.1 hs;have e:∀ad:Addr,ad.add 0=ad:=fun ad=>by cases ad;rfl
 unfold execOp;simp [ho,hx,hy,hz,Instr.sliceAt,Instr.slice,Instr.sliceBounds,Instr.sliceBound,asIntOf,run_underlying ht,sizeOf,typeInfo,hi,hk,e]
theorem exec_slice_from2 {o:Oper} {a:Act} {w:World} (t e:TypeId) (x y:Operand) (size:Nat) (ao:Option Addr) (m pl k:Nat) (da:Option Addr) (hda:(if pl=k then ao else ao.map (·.add (k*size)))=da) (ho:o.op= .slice t x (some y) none none)
    (ht:P.underlying t=some (.slice e)) (hs:(P.info? e).map (·.size)=some size) (hx:a.eval x= .slice ao m pl) (hy:a.eval y= .int .i64 k) (hk:k≤m) (hm:m≤pl):
    (execOp a.eval o).run P w= .ok (.value (.slice da (m-k) (pl-k))) w:=by
 rw [←hda];exact exec_slice_from t e x y size ao m pl k ho ht hs hx hy hk hm
theorem wp_value {o:Oper} {a:Act} {w w':World} {v:Value} {K:Act→World→Prop} {Q:Exit→Act→World→Prop} (h:(execOp a.eval o).run P w= .ok (.value v) w') (hk:K (a.put o.dst v) w'):Oper.wp P o a w K Q:=by
 unfold Oper.wp;simp only [h];exact hk
theorem wp_slice_from {w:World} {o:Oper} {a:Act} {K:Act→World→Prop} {Q:Exit→Act→World→Prop} (t e:TypeId) (x y:Operand) (size:Nat) (ao:Option Addr) (m pl k:Nat) (da:Option Addr) (hda:(if pl=k then ao else ao.map (·.add (k*size)))=da) (ho:o.op= .slice t x (some y) none none) (ht:P.underlying t=some (.slice e)) (hs:(P.info? e).map (·.size)=some size) (hx:a.eval x= .slice ao m pl) (hy:a.eval y= .int .i64 k) (hk:k≤m) (hm:m≤pl)
    (h:K (a.put o.dst (.slice da (m-k) (pl-k))) w):Oper.wp P o a w K Q:=
  wp_value (exec_slice_from2 (o:=o) (a:=a) (w:=w) t e x y size ao m pl k da hda ho ht hs hx hy hk hm) h
theorem wp_slice_full {w:World} {o:Oper} {a:Act} {K:Act→World→Prop} {Q:Exit→Act→World→Prop} (t e:TypeId) (x y z:Operand) (size:Nat) (ao:Option Addr) (m pl k:Nat) (ho:o.op= .slice t x none (some y) (some z)) (ht:P.underlying t=some (.slice e)) (hs:(P.info? e).map (·.size)=some size) (hx:a.eval x= .slice ao m pl) (hy:a.eval y= .int .i64 k) (hz:a.eval z= .int .i64 k) (hk:k≤pl)
    (h:K (a.put o.dst (.slice ao k k)) w):Oper.wp P o a w K Q:=
  wp_value (exec_slice_full (o:=o) (a:=a) (w:=w) t e x y z size ao m pl k ho ht hs hx hy hz hk) h
theorem exec_append {o:Oper} {a:Act} {w w':World} {v:Value} {s x:Operand} {t:TypeId} {vs vx:Value} (ho:o.op= .call {callee:= .builtin .append,args:= #[s,x],argTypes:= #[t,t]}) (hs:a.eval s=vs) (hx:a.eval x=vx)
    (hr:(Builtin.append_ #[t,t] o.type #[vs,vx]).run P w= .ok v w'):(execOp a.eval o).run P w= .ok (.value v) w':=by
 unfold execOp;simp only [ho,resolve,invoke,builtin,Sem.run_bind,Sem.run_pure,Result.andThen_ok,List.map_toArray,List.map_cons,List.map_nil,hs,hx,hr]
theorem run_append_cap (w:World) (base:Nat) (t ty e:TypeId) (z:Value) (size bytes:Nat) (ht:P.underlying t=some (.slice e))
    (hinfo:(P.info? e).map (fun i=>(i.zero,i.size,i.bytes))=some (some z,size,bytes)) (hzs:z.cells.size=size) (hsz:0<size)
    (b:Addr) (n:Nat) (xs:List Value) (hown:w.ownsRow base e size (.slice (some b) n n) n xs)
    (ao:Option Addr) (m c:Nat) (news:List Value) (hl:news.length=m*size) (hnone:ao=none→m=0∧c=0)
    (hnews:∀ad,ao=some ad→∀j u,news[j]? =some u→w.cell? (ad.add j)=some u) (h1:∀u ∈ news,u.oneCell'=true)
    (h63:n+m≤4294967296) (hbytes:bytes≤1024) (hbase:base≤w.heap.size):
    ∃v' w',(Builtin.append_ #[t,t] ty #[.slice (some b) n n,.slice ao m c]).run P w= .ok v' w'∧w'.ownsRow base e size v' (n+m) (xs++news)∧Below w.heap.size w w':=by
 rcases Nat.eq_zero_or_pos m with rfl|hm
 · have hn:news=[]:=List.eq_nil_of_length_eq_zero (by simpa using hl);subst hn;obtain ⟨i,hi,hz,hs,hb⟩:=info_parts hinfo;refine ⟨.slice (some b) n n,w,?_,by simpa using hown,Below.refl _ _⟩;cases ao with
   | none=>
    obtain ⟨-,rfl⟩:=hnone rfl;exact run_append_owned_none w base t ty e i size ht hi _ n xs hown
   | some ad=>simp [Builtin.append_,run_underlying ht,sizeOf,typeInfo,hi,Builtin.lenOf,Builtin.firstCells,loadCells,loadCellsFrom,storeCells]
 · cases ao with
   | none=>have:=(hnone rfl).1;omega
   | some ad=>
    obtain ⟨g,rfl⟩:∃g,b=⟨g,0,none⟩:=by
     obtain ⟨-,⟨h,-⟩ | ⟨g,cap,cur,h,-⟩⟩:=hown
     · cases h
     · cases h;exact ⟨g,rfl⟩
    obtain ⟨v',w',hr,ho,hg,-⟩:=run_append_full (P:=P) w base t ty e z size bytes ht hinfo hzs hsz (some ⟨g,0,none⟩) n xs hown.1 xzc (fun b' hb' j u hj=>by
     cases hb';exact World.ownsRow.cells hown (g:=g) rfl j u hj) ad m c news hl (hnews ad rfl) h1 hm h63 hbytes hbase
    exact ⟨v',w',hr,ho,(Below.refl _ _).grown hg (Nat.le_refl _) (fun k hk=>by cases hk)⟩
end
theorem setCs_frozen {W:World} {b:Nat}:∀(l:List Value) (i:Nat) (a:Addr),(setCs W b i l).frozen? a=W.frozen? a
  | l,i,a=>by
   induction l generalizing W i with
   | nil=>rfl
   | cons v l ih=>rw [setCs,ih];exact World.frozen?_setCell _ _ _ _
theorem setCs_size:∀(l:List Value) (W:World) (b i:Nat),(setCs W b i l).heap.size=W.heap.size
  | [],_,_,_=>rfl
  | v::l,W,b,i=>by rw [setCs,setCs_size l,World.size_setCell]
section
variable {P:Program}
theorem run_append_y (w:World) (base:Nat) (t ty e:TypeId) (z:Value) (size bytes:Nat) (ht:P.underlying t=some (.slice e))
    (hinfo:(P.info? e).map (fun i=>(i.zero,i.size,i.bytes))=some (some z,size,bytes)) (hzs:z.cells.size=size) (hsz:0<size)
    (v:Value) (n:Nat) (xs:List Value) (hown:w.ownsRow base e size v n xs)
    (ao:Option Addr) (m c:Nat) (news:List Value) (hl:news.length=m*size) (hnone:ao=none→m=0∧c=0)
    (hnews:∀ad,ao=some ad→∀j u,news[j]? =some u→w.cell? (ad.add j)=some u) (h1:∀u ∈ news,u.oneCell'=true)
    (h63:n+m≤4294967296) (hbytes:bytes≤1024) (hbase:base≤w.heap.size):
    ∃v' w',(Builtin.append_ #[t,t] ty #[v,.slice ao m c]).run P w= .ok v' w'∧w'.ownsRow base e size v' (n+m) (xs++news)∧w.grownBy w' v.ownBlock∧w'.ownsRow base e size v n xs:=by
 obtain ⟨i,hi,hz,hs,hb⟩:=info_parts hinfo;obtain ⟨v',w',hr,ho,hg,-⟩:=run_append_x (P:=P) w base t ty e z size bytes ht hinfo hzs hsz v n xs hown ao m c news hl hnone hnews h1 h63 hbytes hbase;refine ⟨v',w',hr,ho,hg,?_⟩;cases ao with
 | none=>
  obtain ⟨rfl,rfl⟩:=hnone rfl;have hr2:=run_append_owned_none (P:=P) w base t ty e i size ht hi v n xs hown;rw [hr] at hr2;cases hr2;exact hown
 | some ad=>
  have hc:=hnews ad rfl;have hm1:n+m≤maxLen:=by unfold maxLen;omega
  have hm2:(n+m)*bytes≤140737488355328:=Nat.le_trans (Nat.mul_le_mul h63 hbytes) (by decide);obtain ⟨hx,⟨rfl,rfl⟩ | ⟨g,cap,cur,rfl,hbg,hgg,hnc,hcm,hcs,htake⟩⟩:=hown
  · have hx0:xs=[]:=List.eq_nil_of_length_eq_zero (by simpa using hx);subst hx0;exact World.ownsRow_nil _ _ _ _
  · by_cases hroom:n+m≤cap
    · obtain ⟨w2,hr2,_⟩:=run_append_fits (P:=P) w base t ty e i size ht hi hs g n cap xs ⟨hx,.inr ⟨g,cap,cur,rfl,hbg,hgg,hnc,hcm,hcs,htake⟩⟩ ad m c news hl hc h1 hroom;rw [hr] at hr2;cases hr2;obtain ⟨hx',⟨h,-⟩ | ⟨g',cap',cur',he,hbg',hgg',hnc',hcm',hcs',htake'⟩⟩:=ho
      · cases h
      · cases he;refine ⟨hx,.inr ⟨g,cap,cur',rfl,hbg',hgg',hnc,hcm',hcs',?_⟩⟩;have:=congrArg (List.take (n*size)) htake';rw [List.take_take,Nat.min_eq_left (Nat.mul_le_mul_right _ xo),List.take_append_of_le_length (Nat.le_of_eq hx.symm),List.take_of_length_le (Nat.le_of_eq hx)] at this;exact this
    · have holds:=World.ownsRow.cells (w:=w) (base:=base) (e:=e) (size:=size) (n:=n) (xs:=xs) ⟨hx,.inr ⟨g,cap,cur,rfl,hbg,hgg,hnc,hcm,hcs,htake⟩⟩ (g:=g) rfl;have hr2:=run_append_grow (P:=P) w t ty e i z ht hi hz ⟨g,0,none⟩ n cap xs (by rw [hs];exact hx) holds ad m c news (by rw [hs];exact hl) hc xo xo (growslice_fits xo (by rw [hb];exact hm2));rw [hr] at hr2;cases hr2;exact (World.ownsRow.drew ⟨hx,.inr ⟨g,cap,cur,rfl,hbg,hgg,hnc,hcm,hcs,htake⟩⟩).alloc _
end
theorem row_from {w:World} {ao:Option Addr} {L:List (Int×Int)} {m pl k:Nat} (h:IsRow .i64 w ao (prI L)) (hL:L.length=m) (hpl:m≤pl) (hk:k≤m) (hn:ao=none→pl=0):
    IsRow .i64 w (if pl=k then ao else ao.map (·.add (k*2))) (prI (L.drop k))∧((if pl=k then ao else ao.map (·.add (k*2)))=none→m-k=0∧pl-k=0):=by
 have hlen:(prI (L.drop k)).length=(m-k)*2:=by rw [prI_length,List.length_drop,hL]
 by_cases hp:pl=k
 · rw [if_pos hp];refine ⟨fun i hi=> ?_,fun _=>by omega⟩;rw [hlen] at hi;omega
 · rw [if_neg hp];refine ⟨fun i hi=> ?_,fun e=> ?_⟩
   · rw [hlen] at hi;obtain ⟨b,off,ha,hlt,hc⟩:=h (k*2+i) (by rw [prI_length,hL];omega);subst ha;refine ⟨b,off+k*2,?_,hlt,fun j hj=> ?_⟩
     · simp only [Option.map_some,Addr.add];split
       · rename_i hz;rw [hz];rfl
       · rfl
     rw [hlen] at hj;have:=hc (k*2+j) (by rw [prI_length,hL];omega);rw [←Nat.add_assoc] at this;rw [this];congr 2
     rw [show prI (L.drop k)=(prI L).drop (k*2) from ?_,List.getD_eq_getElem?_getD,List.getD_eq_getElem?_getD,List.getElem?_drop];exact prI_drop L k
   · cases ao with
     | none=>have:=hn rfl;omega
     | some ad=>cases e
theorem row_take {w:World} {ao:Option Addr} {L:List (Int×Int)} {k:Nat} (h:IsRow .i64 w ao (prI L)) (hk:k≤L.length):IsRow .i64 w ao (prI (L.take k)):=by
 rw [prI_take];exact h.take _ (by rw [prI_length];omega)
structure FactY (RA:World→World→Prop) where
 holds:Value→World→Prop
 own:Bool
 stB:∀v w w',RB w w'→holds v w→holds v w'
 stA:own=false→∀v w w',RA w w'→holds v w→holds v w'
def yAny (RA:World→World→Prop):FactY RA:=⟨fun _ _=>True,false,fun _ _ _ _ _=>trivial,fun _ _ _ _ _ _=>trivial⟩
def yIs (RA:World→World→Prop) (x:Value):FactY RA:=⟨fun v _=>v=x,false,fun _ _ _ _ h=>h,fun _ _ _ _ _ h=>h⟩
def yRow (RA:World→World→Prop) (base n:Nat) (xs:List Value):FactY RA:=⟨fun v w=>w.ownsRow base 31 2 v n xs,true,fun _ _ _ h h1=>owns_below h1 h,fun h=>by cases h⟩
theorem owns_keep {w w':World} {base:Nat} {e:TypeId} {s:Nat} {v:Value} {n:Nat} {xs:List Value} (h:w.ownsRow base e s v n xs) (hk:∀k,base≤k→k<w.heap.size→w'.heap[k]? =w.heap[k]?):w'.ownsRow base e s v n xs:=
  owns_heap h fun k hb=>hk k (h.lt k hb).1 (h.lt k hb).2
def ySl {RA:World→World→Prop} (base:Nat) (hA:∀w w',RA w w'→∀k,base≤k→k<w.heap.size→w'.heap[k]? =w.heap[k]?) (c:SlC):FactY RA:=
  ⟨(FactR.sl base c).holds,false,fun v w w' h h1=>(FactR.sl base c).stays v w w' h h1,
    fun _ v w w' h ⟨v1,v2,v3,v4,e,h1,h2,h3,h4⟩=>⟨v1,v2,v3,v4,e,owns_keep h1 (hA w w' h),owns_keep h2 (hA w w' h),owns_keep h3 (hA w w' h),owns_keep h4 (hA w w' h)⟩⟩
def ySl2 {RA:World→World→Prop} (base:Nat) (hA:∀w w',RA w w'→∀k,base≤k→k<w.heap.size→w'.heap[k]? =w.heap[k]?) (c:SlC) (x:Value):FactY RA:=
  ⟨fun v w=>∃y,v= .tuple #[y,x]∧(ySl base hA c).holds y w,false,fun _ _ _ h ⟨y,e,h1⟩=>⟨y,e,(ySl base hA c).stB _ _ _ h h1⟩,fun _ _ _ _ h ⟨y,e,h1⟩=>⟨y,e,(ySl base hA c).stA rfl _ _ _ h h1⟩⟩
def yAt {RA:World→World→Prop} (n:Nat) (ds:List Nat) (fs:List (FactY RA)) (k:Nat) (u:Nat→Value) (w:World):Prop:=k<n→(fs.getD k (yAny RA)).holds (u (ds.getD k 0)) w
def yExt (m:Nat) (RA:World→World→Prop) (i:Nat) (w w':World):Prop:=(i=m→RA w w')∧(i≠m→RB w w')
theorem y_stays {RA:World→World→Prop} {n m:Nat} {ds:List Nat} {fs:List (FactY RA)} (h:∀k,k<n→k≠m→(fs.getD k (yAny RA)).own=false):∀i k u w w',k≠i→yExt m RA i w w'→yAt n ds fs k u w→yAt n ds fs k u w':=by
 intro i k u w w' hne hE hG hk;by_cases e:i=m
 · exact (fs.getD k (yAny RA)).stA (h k hk (fun q=>hne (q.trans e.symm))) _ _ _ (hE.1 e) (hG hk)
 · exact (fs.getD k (yAny RA)).stB _ _ _ (hE.2 e) (hG hk)
theorem y_dep {RA:World→World→Prop} {l:List Oper} {n:Nat} {ds:List Nat} {fs:List (FactY RA)} (h:(List.range n).all (fun k=>match l[k]? with|some o=>o.dst==some (ds.getD k 0)|none=>false)=true):
    ∀(k:Nat) (u u':Nat→Value) (w:World),(∀(j:Nat) (p o:Oper),l[j]? =some p→l[k]? =some o→(j=k∨(o.after.any fun e=>Region.binds .any e&&e.on==j)=true)→valOf u' p=valOf u p)→yAt n ds fs k u w→yAt n ds fs k u' w:=by
 intro k u u' w hv hg hk;have h1:=List.all_eq_true.1 h k (List.mem_range.2 hk);cases ho:l[k]? with
 | none=>rw [ho] at h1;cases h1
 | some o=>
  rw [ho] at h1;have h2:o.dst=some (ds.getD k 0):=by simpa using h1
  have h3:=hv k o o ho ho (.inl rfl);have e:u' (ds.getD k 0)=u (ds.getD k 0):=by simpa [valOf,h2] using h3
  rw [e];exact hg hk
end
end Go.Proofs.YtookgoidlnlckaaGreatDoor

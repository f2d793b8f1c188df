/- Merged: FillPl, Plc, WndPl. -/
import Derived.Test.YtookgoidlnlckaaGreatDoorGapTellsP18
import Derived.Laws.BitsAllLaws
import Derived.Test.YtookgoidlnlckaaGreatDoorGapTellsP9
import Derived.Test.YtookgoidlnlckaaGreatDoorGapTellsP1
namespace Go.Proofs.YtookgoidlnlckaaGreatDoor
set_option maxRecDepth 100000
set_option maxHeartbeats 40000000
set_option linter.unusedVariables false
set_option linter.unusedSimpArgs false
section
open Go Go.RowKit
theorem wrap_two {r:Nat} (hr:r<64):IntKind.u64.wrap (2^r)=((2^r:Nat):Int):=by
 have h:2^r<2^64:=Nat.pow_lt_pow_right xo hr;have e:(2:Int)^r=((2^r:Nat):Int):=by push_cast;rfl
 rw [e,IntKind.wrap_u64,Int.emod_eq_of_lt (Int.natCast_nonneg _) xo]
theorem clrX_nat {x r:Nat} (hx:x<18446744073709551616) (hr:r<64):clrX (x:Int) r=((x &&& (2^64-(2^r+1)):Nat):Int):=by
 have h:2^r<2^64:=Nat.pow_lt_pow_right xo hr;rw [clrX,wrap_two hr,u64_andNot_nat _ _ hx xo,show 18446744073709551615-2^r=2^64-(2^r+1) by omega]
theorem setX_nat {x r:Nat} (hx:x<18446744073709551616) (hr:r<64):setX (x:Int) r=((x ||| 2^r:Nat):Int):=by
 have h:2^r<2^64:=Nat.pow_lt_pow_right xo hr;rw [setX,wrap_two hr,u64_or_nat _ _ hx xo]
theorem bitI_clr {x:Int} {r:Nat} (h0:0≤x) (h1:x<18446744073709551616) (hr:r<64) (k:Nat):bitI (clrX x r) k=(bitI x k&&decide (k≠r)):=by
 obtain ⟨n,rfl⟩:=Int.eq_ofNat_of_zero_le h0;have h:2^r<2^64:=Nat.pow_lt_pow_right xo hr;rw [clrX_nat xo hr,bitI_nat,bitI_nat,Nat.testBit_and,Nat.testBit_two_pow_sub_succ h,Nat.testBit_two_pow];by_cases hk:k<64
 · by_cases hkr:r=k
   · subst hkr;simp
   · have:k≠r:=fun e=>hkr e.symm
     simp [hk,hkr,this]
 · have:n.testBit k=false:=by
     have:=bitI_high (x:=(n:Int)) h1 (k:=k) xo;rwa [bitI_nat] at this
   simp [this]
theorem bitI_set {x:Int} {r:Nat} (h0:0≤x) (h1:x<18446744073709551616) (hr:r<64) (k:Nat):bitI (setX x r) k=(bitI x k||decide (k=r)):=by
 obtain ⟨n,rfl⟩:=Int.eq_ofNat_of_zero_le h0;rw [setX_nat xo hr,bitI_nat,bitI_nat,Nat.testBit_or,Nat.testBit_two_pow];by_cases hkr:r=k
 · subst hkr;simp
 · have:k≠r:=fun e=>hkr e.symm
   simp [hkr,this]
theorem clrX_bd {x:Int} {r:Nat} (h0:0≤x) (h1:x<18446744073709551616) (hr:r<64):0≤clrX x r∧clrX x r<18446744073709551616:=by
 obtain ⟨n,rfl⟩:=Int.eq_ofNat_of_zero_le h0;rw [clrX_nat xo hr];have:=Nat.and_le_left (n:=n) (m:=2^64-(2^r+1));omega
theorem setX_bd {x:Int} {r:Nat} (h0:0≤x) (h1:x<18446744073709551616) (hr:r<64):0≤setX x r∧setX x r<18446744073709551616:=by
 obtain ⟨n,rfl⟩:=Int.eq_ofNat_of_zero_le h0;rw [setX_nat xo hr];have h:2^r<2^64:=Nat.pow_lt_pow_right xo hr;have:=Nat.or_lt_two_pow (x:=n) (y:=2^r) (n:=64) xo h;omega
theorem add_setX {x:Int} {r:Nat} (h0:0≤x) (h1:x<18446744073709551616) (hr:r<64) (hb:bitI x r=false):x+2^r=setX x r:=by
 obtain ⟨n,rfl⟩:=Int.eq_ofNat_of_zero_le h0;have h:2^r<2^64:=Nat.pow_lt_pow_right xo hr;rw [setX_nat xo hr];have e:(2:Int)^r=((2^r:Nat):Int):=by push_cast;rfl
 rw [e];have ho:=Nat.or_lt_two_pow (x:=n) (y:=2^r) (n:=64) xo h;have hand:n &&& 2^r=0:=by
  apply Nat.eq_of_testBit_eq;intro i;rw [Nat.testBit_and,Nat.testBit_two_pow,Nat.zero_testBit];by_cases hi:r=i
  · subst hi;rw [bitI_nat] at hb;simp [hb]
  · simp [hi]
 have hbv:=BitVec.add_eq_or_of_and_eq_zero (BitVec.ofNat 64 n) (BitVec.ofNat 64 (2^r)) (by
  apply BitVec.eq_of_toNat_eq;rw [BitVec.toNat_and,BitVec.toNat_ofNat,BitVec.toNat_ofNat,Nat.mod_eq_of_lt xo,Nat.mod_eq_of_lt h,hand];rfl)
 have hn:=congrArg BitVec.toNat hbv;rw [BitVec.toNat_add,BitVec.toNat_or,BitVec.toNat_ofNat,BitVec.toNat_ofNat,Nat.mod_eq_of_lt (by omega:n<2^64),Nat.mod_eq_of_lt h] at hn;have hge:2^r≤n ||| 2^r:=Nat.right_le_or;have:n+2^r=n ||| 2^r:=by
  rcases Nat.lt_or_ge (n+2^r) (2^64) with q|q
  · rwa [Nat.mod_eq_of_lt q] at hn
  · rw [Nat.mod_eq_sub_mod q,Nat.mod_eq_of_lt xo] at hn;omega
 omega
theorem sub_clrX {x:Int} {r:Nat} (h0:0≤x) (h1:x<18446744073709551616) (hr:r<64) (hb:bitI x r=true):x-2^r=clrX x r:=by
 obtain ⟨c0,c1⟩:=clrX_bd h0 h1 hr;have hs:=add_setX c0 c1 hr (by rw [bitI_clr h0 h1 hr];simp);obtain ⟨s0,s1⟩:=setX_bd c0 c1 hr;have:setX (clrX x r) r=x:=by
  apply int_eq_of_bits s0 h0;intro k;rw [bitI_set c0 c1 hr,bitI_clr h0 h1 hr];by_cases hk:k=r
  · subst hk;simp [hb]
  · simp [hk]
 omega
theorem getD_set_at (l:List Int) (i j:Nat) (v:Int):(l.set i v).getD j 0=if i=j∧i<l.length then v else l.getD j 0:=by
 rw [List.getD_eq_getElem?_getD,List.getD_eq_getElem?_getD,List.getElem?_set];by_cases h:i=j
 · subst h;by_cases h2:i<l.length
   · simp [h2]
   · simp [h2]
 · simp [h]
theorem bitW_clr {ws:List Int} (hu:U64s ws) {i:Nat} (hi:i/64<ws.length) (j:Nat):bitW (clrL ws i) j=(bitW ws j&&decide (j≠i)):=by
 have hg:=hu.get (i/64);rw [bitW,clrL,getD_set_at];by_cases h:i/64=j/64
 · rw [if_pos ⟨h,hi⟩,bitI_clr hg.1 hg.2 (Nat.mod_lt _ xo),h,bitW];congr 1
   rw [decide_eq_decide];omega
 · rw [if_neg (fun q=>h q.1),bitW];have:j≠i:=fun e=>h (by rw [e])
   simp [this]
theorem bitW_set {ws:List Int} (hu:U64s ws) {i:Nat} (hi:i/64<ws.length) (j:Nat):bitW (setL ws i) j=(bitW ws j||decide (j=i)):=by
 have hg:=hu.get (i/64);rw [bitW,setL,getD_set_at];by_cases h:i/64=j/64
 · rw [if_pos ⟨h,hi⟩,bitI_set hg.1 hg.2 (Nat.mod_lt _ xo),h,bitW];congr 1
   rw [decide_eq_decide];omega
 · rw [if_neg (fun q=>h q.1),bitW];have:j≠i:=fun e=>h (by rw [e])
   simp [this]
theorem U64s_clr {ws:List Int} (hu:U64s ws) (i:Nat):U64s (clrL ws i):=by
 intro x hx;rcases List.mem_or_eq_of_mem_set hx with h|rfl
 · exact hu x h
 · have hg:=hu.get (i/64);exact clrX_bd hg.1 hg.2 (Nat.mod_lt _ xo)
theorem U64s_set {ws:List Int} (hu:U64s ws) (i:Nat):U64s (setL ws i):=by
 intro x hx;rcases List.mem_or_eq_of_mem_set hx with h|rfl
 · exact hu x h
 · have hg:=hu.get (i/64);exact setX_bd hg.1 hg.2 (Nat.mod_lt _ xo)
theorem set_getD_self (l:List Int) (i:Nat):l.set i (l.getD i 0)=l:=by
 apply List.ext_getElem? fun j=> ?_
 rw [List.getElem?_set];by_cases h:i=j
 · subst h;rw [if_pos rfl];by_cases h2:i<l.length
   · simp [h2,List.getD_eq_getElem?_getD]
   · rw [if_neg h2,List.getElem?_eq_none xo]
 · rw [if_neg h]
theorem clrL_same {ws:List Int} (hu:U64s ws) {i:Nat} (hb:bitW ws i=false):clrL ws i=ws:=by
 have hg:=hu.get (i/64);have hr:i%64<64:=Nat.mod_lt _ xo;have hc:=clrX_bd hg.1 hg.2 hr;rw [clrL];have:clrX (ws.getD (i/64) 0) (i%64)=ws.getD (i/64) 0:=by
  apply int_eq_of_bits hc.1 hg.1;intro k;rw [bitI_clr hg.1 hg.2 hr];by_cases hk:k=i%64
  · subst hk;rw [bitW] at hb;rw [hb];rfl
  · simp [hk]
 rw [this,set_getD_self]
theorem countP_flip {p q:Nat→Bool} {i:Nat} (hp:p i=true) (hq:q i=false) (he:∀j,j≠i→q j=p j):∀(d a:Nat),(List.range' a d).countP p=(List.range' a d).countP q+if a≤i∧i<a+d then 1 else 0:=by
 intro d;induction d with
 | zero=>intro a;simp
 | succ d ih=>
  intro a;rw [List.range'_succ,List.countP_cons,List.countP_cons,ih (a+1)];by_cases h:a=i
  · subst h;have e1:¬(a+1≤a∧a<a+1+d):=xo;have e2:a≤a∧a<a+(d+1):=xo;rw [hp,hq,if_neg e1,if_pos e2];simp
  · rw [he a h];by_cases h2:a+1≤i∧i<a+1+d
    · have e2:a≤i∧i<a+(d+1):=xo;rw [if_pos h2,if_pos e2];omega
    · have e2:¬(a≤i∧i<a+(d+1)):=xo;rw [if_neg h2,if_neg e2];omega
theorem cntW_clr {ws:List Int} (hu:U64s ws) {i:Nat} (hi:i/64<ws.length) (hb:bitW ws i=true) (a b:Nat):cntW ws a b=cntW (clrL ws i) a b+if a≤i∧i<b then 1 else 0:=by
 rw [cntW,cntW,countP_flip (p:=bitW ws) (q:=bitW (clrL ws i)) hb (by rw [bitW_clr hu hi];simp) (fun j hj=>by rw [bitW_clr hu hi];simp [hj])];congr 1
 by_cases h:a≤i∧i<b
 · rw [if_pos xo,if_pos h]
 · rw [if_neg xo,if_neg h]
theorem cntW_set {ws:List Int} (hu:U64s ws) {i:Nat} (hi:i/64<ws.length) (hb:bitW ws i=false) (a b:Nat):cntW (setL ws i) a b=cntW ws a b+if a≤i∧i<b then 1 else 0:=by
 rw [cntW,cntW,countP_flip (p:=bitW (setL ws i)) (q:=bitW ws) (by rw [bitW_set hu hi];simp) hb (fun j hj=>by rw [bitW_set hu hi];simp [hj])];congr 1
 by_cases h:a≤i∧i<b
 · rw [if_pos xo,if_pos h]
 · rw [if_neg xo,if_neg h]
structure SlGd (c:SlC) (S lw n lc:Nat):Prop where
 seg:c.seg=S
 elw:c.ws.length=lw
 elk:c.ks.length=n
 elv:c.vs.length=n
 elc:c.cs.length=lc
 s4:4≤S
 s64:S≤64
 cn:n=S*lc
 wn:n≤64*lw
 n1:1≤n
 nm:n≤65536
 u:U64s c.ws
 cnt:∀k,k<lc→c.cs.getD k 0=(cntW c.ws (k*S) ((k+1)*S):Int)
 hi:∀i,n≤i→bitW c.ws i=false
 clr:∀i,bitW c.ws i=false→c.ks.getD i 0=0∧c.vs.getD i 0=0
theorem SlGd.ok {c:SlC} {S lw n lc:Nat} (h:SlGd c S lw n lc):okC c=true:=by
 simp only [okC,Bool.and_eq_true,List.all_eq_true,decide_eq_true_eq];refine ⟨fun x hx=>h.u x hx,fun x hx=> ?_⟩;obtain ⟨k,hk,rfl⟩:=List.mem_iff_getElem.1 hx;have:=h.cnt k (by rw [←h.elc];exact hk);rw [List.getD_eq_getElem?_getD,List.getElem?_eq_getElem hk,Option.getD_some] at this;have h2:=cntW_le c.ws (k*S) ((k+1)*S);rw [show (k+1)*S-k*S=S by rw [Nat.succ_mul];omega] at h2;have:=h.s64;omega
theorem seg_in {S i k:Nat} (hS:4≤S):(k*S≤i∧i<(k+1)*S)↔i/S=k:=by
 constructor
 · rintro ⟨h1,h2⟩;apply Nat.le_antisymm
   · exact Nat.le_of_lt_succ ((Nat.div_lt_iff_lt_mul xo).2 h2)
   · exact (Nat.le_div_iff_mul_le xo).2 h1
 · rintro rfl;exact ⟨Nat.div_mul_le_self _ _,by rw [Nat.succ_mul];have e:=Nat.div_add_mod i S;have:=Nat.mod_lt i (show 0<S by omega);rw [Nat.mul_comm] at e;omega⟩
theorem SlGd.tk {c:SlC} {S lw n lc:Nat} (h:SlGd c S lw n lc) {i:Nat} (hi:i<n):SlGd (tkC c i) S lw n lc:=by
 have hq:i/64<c.ws.length:=by rw [h.elw];have:=h.wn;omega
 have hs:i/S<lc:=(Nat.div_lt_iff_lt_mul (by have:=h.s4;omega)).2 (by rw [Nat.mul_comm,←h.cn];exact hi);have hseg:c.seg.toNat=S:=by rw [h.seg];rfl
 refine ⟨h.seg,?_,?_,?_,?_,h.s4,h.s64,h.cn,h.wn,h.n1,h.nm,U64s_clr h.u i,?_,?_,?_⟩
 · simp [tkC,clrL,h.elw]
 · simp [tkC,h.elk]
 · simp [tkC,h.elv]
 · simp only [tkC];split
   · rw [List.length_set];exact h.elc
   · exact h.elc
 · intro k hk;simp only [tkC];rw [hseg];cases hb:bitW c.ws i with
   | true=>
    have e:=cntW_clr h.u hq hb (k*S) ((k+1)*S);rw [if_pos rfl,getD_set_at,h.elc];by_cases hki:i/S=k
    · subst hki;rw [if_pos ((seg_in h.s4).2 rfl)] at e;rw [if_pos ⟨rfl,hk⟩,h.cnt _ hk,e];omega
    · rw [if_neg (fun q=>hki ((seg_in h.s4).1 q))] at e;rw [if_neg (fun q=>hki q.1),h.cnt _ hk,e];omega
   | false=>
    rw [if_neg (by decide),clrL_same h.u hb,h.cnt k hk]
 · intro j hj;simp only [tkC];rw [bitW_clr h.u hq,h.hi j hj];rfl
 · intro j hj;simp only [tkC] at hj ⊢;rw [bitW_clr h.u hq] at hj;rw [getD_set_at,getD_set_at,h.elk,h.elv];by_cases hji:i=j
   · subst hji;simp [hi]
   · rw [if_neg (fun q=>hji q.1),if_neg (fun q=>hji q.1)];apply h.clr;have:j≠i:=fun e=>hji e.symm
     simpa [this] using hj
theorem tk_bit {c:SlC} {S lw n lc:Nat} (h:SlGd c S lw n lc) {i:Nat} (hi:i<n) (j:Nat):bitW (tkC c i).ws j=(bitW c.ws j&&decide (j≠i)):=
  bitW_clr h.u (by rw [h.elw];have:=h.wn;omega) j
theorem SlGd.ly {c:SlC} {S lw n lc:Nat} (h:SlGd c S lw n lc) {i:Nat} (hi:i<n) (key val:Int):SlGd (lyC c i key val) S lw n lc:=by
 have g:=h.tk hi;have hq:i/64<(tkC c i).ws.length:=by rw [g.elw];have:=h.wn;omega
 have hseg:c.seg.toNat=S:=by rw [h.seg];rfl
 have hb:bitW (tkC c i).ws i=false:=by rw [tk_bit h hi];simp
 have hs:i/S<lc:=(Nat.div_lt_iff_lt_mul (by have:=h.s4;omega)).2 (by rw [Nat.mul_comm,←h.cn];exact hi);refine ⟨h.seg,?_,?_,?_,?_,h.s4,h.s64,h.cn,h.wn,h.n1,h.nm,U64s_set g.u i,?_,?_,?_⟩
 · simp only [lyC,setL,List.length_set];exact g.elw
 · simp only [lyC,List.length_set];exact g.elk
 · simp only [lyC,List.length_set];exact g.elv
 · simp only [lyC,List.length_set];exact g.elc
 · intro k hk;simp only [lyC];rw [hseg];have e:=cntW_set g.u hq hb (k*S) ((k+1)*S);rw [getD_set_at,g.elc,e];by_cases hki:i/S=k
   · subst hki;rw [if_pos ⟨rfl,hk⟩,if_pos ((seg_in h.s4).2 rfl),g.cnt _ hk];push_cast
     rfl
   · rw [if_neg (fun q=>hki q.1),if_neg (fun q=>hki ((seg_in h.s4).1 q)),g.cnt _ hk];simp
 · intro j hj;simp only [lyC];rw [bitW_set g.u hq,g.hi j hj];simp;omega
 · intro j hj;simp only [lyC] at hj ⊢;rw [bitW_set g.u hq] at hj;have hji:¬i=j:=by
    intro e;subst e;simp at hj
   rw [getD_set_at,getD_set_at,if_neg (fun q=>hji q.1),if_neg (fun q=>hji q.1)];apply g.clr;simp only [Bool.or_eq_false_iff] at hj;exact hj.1
theorem ly_bit {c:SlC} {S lw n lc:Nat} (h:SlGd c S lw n lc) {i:Nat} (hi:i<n) (key val:Int) (j:Nat):bitW (lyC c i key val).ws j=(bitW c.ws j||decide (j=i)):=by
 have g:=h.tk hi;simp only [lyC];rw [bitW_set g.u (by rw [g.elw];have:=h.wn;omega),tk_bit h hi];by_cases hj:j=i
 · simp [hj]
 · simp [hj]
theorem SlGd.tks {c:SlC} {S lw n lc lo:Nat} (h:SlGd c S lw n lc):∀j,lo+j≤n→SlGd (tks c lo j) S lw n lc
  | 0,_=>h
  | j+1,hj=>(SlGd.tks h j xo).tk xo
theorem tks_bit {c:SlC} {S lw n lc lo:Nat} (h:SlGd c S lw n lc) (i:Nat):∀j,lo+j≤n→bitW (Go.Proofs.YtookgoidlnlckaaGreatDoor.tks c lo j).ws i=(bitW c.ws i&& !(decide (lo≤i)&&decide (i<lo+j)))
  | 0,_=>by
   have:(decide (lo≤i)&&decide (i<lo+0))=false:=by simp
   rw [this];simp [Go.Proofs.YtookgoidlnlckaaGreatDoor.tks]
  | j+1,hj=>by
   rw [Go.Proofs.YtookgoidlnlckaaGreatDoor.tks,tk_bit (h.tks j xo) xo,tks_bit h i j xo];by_cases hi:i=lo+j
   · subst hi;simp
   · have e:(decide (i<lo+(j+1)))=decide (i<lo+j):=by rw [decide_eq_decide];omega
     rw [e];simp [hi]
theorem SlGd.lys {c:SlC} {S lw n lc:Nat} (h:SlGd c S lw n lc) {ps:List Nat} (hp:∀k,ps.getD k 0<n) (L:List (Int×Int)):∀k,SlGd (lys c ps L k) S lw n lc
  | 0=>h
  | k+1=>(SlGd.lys h hp L k).ly (hp k) _ _
theorem lys_bit {c:SlC} {S lw n lc:Nat} (h:SlGd c S lw n lc) {ps:List Nat} (hp:∀k,ps.getD k 0<n) (L:List (Int×Int)) (i:Nat):∀k,bitW (Go.Proofs.YtookgoidlnlckaaGreatDoor.lys c ps L k).ws i=true↔bitW c.ws i=true∨∃j,j<k∧ps.getD j 0=i
  | 0=>by simp [Go.Proofs.YtookgoidlnlckaaGreatDoor.lys]
  | k+1=>by
   rw [Go.Proofs.YtookgoidlnlckaaGreatDoor.lys,ly_bit (h.lys hp L k) (hp k),Bool.or_eq_true,lys_bit h hp L i k,decide_eq_true_eq];constructor
   · rintro ((h1 | ⟨j,h1,h2⟩)|h1)
     · exact Or.inl h1
     · exact Or.inr ⟨j,by omega,h2⟩
     · exact Or.inr ⟨k,by omega,h1.symm⟩
   · rintro (h1 | ⟨j,h1,h2⟩)
     · exact Or.inl (Or.inl h1)
     · rcases Nat.lt_or_ge j k with q|q
       · exact Or.inl (Or.inr ⟨j,q,h2⟩)
       · obtain rfl:j=k:=xo;exact Or.inr h2.symm
theorem slMay_gd {c:SlC} (hu:U64s c.ws) (h:slMay c=true):∃S M:Nat,SlGd c S ((S*M+63)/64) (S*M) M∧pwB (S:Int)=true∧pwB (M:Int)=true∧1≤M:=by
 have hm:=h;simp only [slMay,Bool.and_eq_true] at h;obtain ⟨⟨h5,h6⟩,h7⟩:=h;obtain ⟨S,M,e1,b1,b2,b3,b4,b5,b6,b7,b8,b9,p1,p2,b10⟩:=slHead_facts h5;have hn1:1≤S*M:=Nat.mul_pos xo b6;refine ⟨S,M,⟨e1,b9,b3,b4,b5,b1,b2,rfl,by omega,hn1,b7,hu,?_,b10,?_⟩,p1,p2,b6⟩
 · intro k hk;have:=List.all_eq_true.1 h7 k (List.mem_range.2 (by rw [b5];exact hk));rw [beq_iff_eq,e1,Int.toNat_natCast] at this;exact this
 · intro i hi;rcases Nat.lt_or_ge i c.ks.length with q|q
   · have:=List.all_eq_true.1 h6 i (List.mem_range.2 q);rw [hi,Bool.false_or,Bool.and_eq_true,beq_iff_eq,beq_iff_eq] at this;exact this
   · rw [List.getD_eq_getElem?_getD,List.getD_eq_getElem?_getD,List.getElem?_eq_none q,List.getElem?_eq_none xo];exact ⟨rfl,rfl⟩
def rtC (c:SlC) (i:Nat):SlC:=if bitW c.ws i=true then ⟨c.seg,clrL c.ws i,c.ks.set i 0,c.vs.set i 0,c.cs.set (i/c.seg.toNat) (c.cs.getD (i/c.seg.toNat) 0-1),c.laid⟩ else ⟨c.seg,c.ws,c.ks.set i 0,c.vs.set i 0,c.cs,c.laid⟩
def rlC (c:SlC) (i:Nat) (key val:Int):SlC:=⟨c.seg,setL c.ws i,c.ks.set i key,c.vs.set i val,c.cs.set (i/c.seg.toNat) (c.cs.getD (i/c.seg.toNat) 0+1),IntKind.u64.wrap (c.laid+1)⟩
theorem rtC_eq {c:SlC} (hu:U64s c.ws) (i:Nat):rtC c i=tkC c i:=by
 unfold rtC tkC;cases hb:bitW c.ws i with
 | true=>simp
 | false=>simp [clrL_same hu hb]
theorem rlC_eq {c:SlC} (hu:U64s c.ws) {i:Nat} (hb:bitW c.ws i=false) (key val:Int):rlC c i key val=lyC c i key val:=by
 unfold rlC lyC tkC;simp [hb,clrL_same hu hb]
def plF (n lo hi k:Nat):Nat:=lo+k*(hi-lo)/n
def plR (n lo hi:Nat):List Nat:=(List.range n).map (plF n lo hi)
theorem plR_length (n lo hi:Nat):(plR n lo hi).length=n:=by simp [plR]
theorem plR_get {n lo hi k:Nat} (h:k<n):(plR n lo hi).getD k 0=plF n lo hi k:=by
 rw [List.getD_eq_getElem?_getD,plR,List.getElem?_map,List.getElem?_range h];rfl
theorem plF_step {n lo hi:Nat} (k:Nat) (h0:0<n) (h:n≤hi-lo):plF n lo hi k<plF n lo hi (k+1):=by
 unfold plF;have:k*(hi-lo)/n+1≤(k+1)*(hi-lo)/n:=by
  rw [←Nat.add_div_right _ h0,Nat.succ_mul];exact Nat.div_le_div_right xo
 omega
theorem plF_mono {n lo hi:Nat} (h0:0<n) (h:n≤hi-lo) (j:Nat):∀d,plF n lo hi j<plF n lo hi (j+(d+1))
  | 0=>plF_step j h0 h
  | d+1=>Nat.lt_trans (plF_mono h0 h j d) (plF_step _ h0 h)
theorem plF_lt {n lo hi k:Nat} (hk:k<n) (h:n≤hi-lo):plF n lo hi k<hi:=by
 unfold plF;have:k*(hi-lo)/n<hi-lo:=by
  rw [Nat.div_lt_iff_lt_mul xo,Nat.mul_comm];exact (Nat.mul_lt_mul_left xo).2 hk
 omega
theorem plR_pv {n lo hi k:Nat} (hk:k<n) (h:n≤hi-lo):pvF (plR n lo hi) lo k<((plR n lo hi).getD k 0:Nat)∧(plR n lo hi).getD k 0<hi:=by
 rw [plR_get hk];refine ⟨?_,plF_lt hk h⟩;unfold pvF;split
 · have:lo≤plF n lo hi k:=Nat.le_add_right _ _;omega
 · rw [plR_get xo];have:=plF_step (lo:=lo) (k-1) xo h;rw [show k-1+1=k by omega] at this;omega
theorem plR_ltn {n lo hi N:Nat} (h:n≤hi-lo) (hh:hi≤N) (hN:0<N) (k:Nat):(plR n lo hi).getD k 0<N:=by
 rcases Nat.lt_or_ge k n with q|q
 · rw [plR_get q];have:=plF_lt (lo:=lo) q h;omega
 · rw [List.getD_eq_getElem?_getD,List.getElem?_eq_none (by rw [plR_length];exact q)];exact hN
def spC (c:SlC) (lo hi:Nat) (L:List (Int×Int)):SlC:=lys (tks c lo (hi-lo)) (plR L.length lo hi) L L.length
theorem SlGd.sp {c:SlC} {S lw n lc lo hi:Nat} (h:SlGd c S lw n lc) (hlo:lo≤hi) (hh:hi≤n) {L:List (Int×Int)} (hL:L.length≤hi-lo):SlGd (spC c lo hi L) S lw n lc:=
  SlGd.lys (h.tks (hi-lo) xo) (fun k=>plR_ltn hL hh (by have:=h.n1;omega) k) L _
theorem lys_free {c:SlC} {S lw n lc lo hi:Nat} (h:SlGd c S lw n lc) (hlo:lo≤hi) (hh:hi≤n) {L:List (Int×Int)} (hL:L.length≤hi-lo) {k:Nat} (hk:k<L.length):bitW (lys (tks c lo (hi-lo)) (plR L.length lo hi) L k).ws ((plR L.length lo hi).getD k 0)=false:=by
 rw [Bool.eq_false_iff];intro hb;have hn:=h.n1;rcases (lys_bit (h.tks (hi-lo) xo) (fun k=>plR_ltn hL hh xo k) L _ k).1 hb with q | ⟨j,hj,q⟩
 · rw [tks_bit h _ _ xo,Bool.and_eq_true] at q;have h1:=plR_pv (lo:=lo) hk hL;have h2:lo≤(plR L.length lo hi).getD k 0:=by
    rw [plR_get hk];exact Nat.le_add_right _ _
   have:(decide (lo≤(plR L.length lo hi).getD k 0)&&decide ((plR L.length lo hi).getD k 0<lo+(hi-lo)))=true:=by
    rw [Bool.and_eq_true,decide_eq_true_eq,decide_eq_true_eq];omega
   rw [this] at q;simp at q
 · rw [plR_get hk,plR_get xo] at q;have:=plF_mono (lo:=lo) xo hL j (k-j-1);rw [show j+(k-j-1+1)=k by omega] at this;omega
theorem zero_gd {S M lw:Nat} (h4:4≤S) (h6:S≤64) (hM:1≤M) (hm:S*M≤65536) (hl:lw=(S*M+63)/64):SlGd (zeroSl S (S*M) lw M) S lw (S*M) M:=by
 have z:∀m i,(List.replicate m (0:Int)).getD i 0=0:=fun m i=>by
  rw [List.getD_eq_getElem?_getD,List.getElem?_replicate];split<;>rfl
 have zb:∀i,bitW (zeroSl S (S*M) lw M).ws i=false:=fun i=>by
  rw [bitW,zeroSl];dsimp only;rw [z];exact bitI_zero _
 have zc:∀a d,(List.range' a d).countP (bitW (zeroSl S (S*M) lw M).ws)=0:=fun a d=>by
  rw [List.countP_eq_zero];intro i _;rw [zb i];decide
 have hn1:1≤S*M:=Nat.mul_pos xo hM;refine ⟨rfl,by simp [zeroSl],by simp [zeroSl],by simp [zeroSl],by simp [zeroSl],h4,h6,rfl,by omega,hn1,hm,?_,?_,fun i _=>zb i,?_⟩
 · intro x hx;obtain ⟨-,rfl⟩:=List.mem_replicate.1 hx;omega
 · intro k hk;rw [cntW,zc];simp only [zeroSl];rw [z];rfl
 · intro i _;exact ⟨z _ _,z _ _⟩
end
section
open Go.RowKit Go.Shelf
attribute [local go_sem] Oper.semAt_some
def intsA (l:List Int):List (Array Value):=l.map fun x=> #[.int .i64 x]
theorem intsA_length (l:List Int):(intsA l).length=l.length:=by simp [intsA]
theorem intsA_get {l:List Int} {k:Nat} (h:k<l.length):(intsA l).getD k #[]= #[.int .i64 (l.getD k 0)]:=by
 simp [intsA,List.getD_eq_getElem?_getD,List.getElem?_eq_getElem h]
theorem take_succ_int {l:List Int} {k:Nat} (h:k<l.length):l.take (k+1)=l.take k++[l.getD k 0]:=by
 rw [List.take_succ_eq_append_getElem h];simp [List.getD_eq_getElem?_getD,List.getElem?_eq_getElem h]
structure PlBox (W:World) (b1 b2 b3:Nat) (m lo hi:Nat):Prop where
 n:W.cell? ⟨b1,0,none⟩=some (.int .i64 m)
 lo:W.cell? ⟨b2,0,none⟩=some (.int .i64 lo)
 hi:W.cell? ⟨b3,0,none⟩=some (.int .i64 hi)
theorem PlBox.below {W W':World} {b1 b2 b3 m lo hi:Nat} (h:PlBox W b1 b2 b3 m lo hi) (hb:Below W.heap.size W W'):PlBox W' b1 b2 b3 m lo hi:=
  ⟨(hb.cell (World.block_lt_of_cell? _ _ h.n)).trans h.n,(hb.cell (World.block_lt_of_cell? _ _ h.lo)).trans h.lo,(hb.cell (World.block_lt_of_cell? _ _ h.hi)).trans h.hi⟩
theorem PlBox.kept {S:Nat→Prop} {W W':World} {b1 b2 b3 m lo hi:Nat} (h:PlBox W b1 b2 b3 m lo hi) (hk:KpS S W W') (s1:S b1) (s2:S b2) (s3:S b3):PlBox W' b1 b2 b3 m lo hi:=
  ⟨hk.cell (a:=⟨b1,0,none⟩) s1 h.n,hk.cell (a:=⟨b2,0,none⟩) s2 h.lo,hk.cell (a:=⟨b3,0,none⟩) s3 h.hi⟩
theorem places1_iter (m lo hi:Nat) (hlh:lo≤hi) (hhi:hi≤65536) (hm:m≤65536) (S:Nat→Prop) (b1 b2 b3:Nat) (s1:S b1) (s2:S b2) (s3:S b3) (w:World) (hbx:PlBox w b1 b2 b3 m lo hi):
    Iter Tryz.prog 124 #[.pointer (some ⟨b1,0,none⟩),.pointer (some ⟨b2,0,none⟩),.pointer (some ⟨b3,0,none⟩)] (intsA (ints (plR m lo hi))) (KpS S) w:=by
 intro l J Jx W hW hJ hJx hY h0;have HY:=hid hY;have HJ:=hid hJ;have HBX:=hid (hbx.below hW);have HLN:=hid (show (intsA (ints (plR m lo hi))).length=m by rw [intsA_length,ints_length,plR_length]);have HGT:=hid (fun k (h:k<m)=>show (intsA (ints (plR m lo hi))).getD k #[]= #[.int .i64 (plF m lo hi k:Nat)] by
  rw [intsA_get (by rw [ints_length,plR_length];exact h),getD_ints,plR_get h])
 have HH0:=hid h0;clear hY hJ hJx hbx h0;generalize intsA (ints (plR m lo hi))=xs at *;refine callsIn_of_wp Tryz.func124 rfl trivial ?_ rfl;simp only [Tryz.ntmps124,List.size_toArray,List.length_cons,List.length_nil,Nat.reduceAdd,Nat.reduceSub,Array.replicate_succ,Array.replicate_zero,List.push_toArray,List.append_toArray,List.nil_append,List.cons_append];have q1:=HBX.out.n;gi_wp2
 gi_loopg [7] m (fun g iv wr=>∃i:Nat,i+g=m∧iv= .int .i64 i∧Hid (J i wr)∧Hid (PlBox wr b1 b2 b3 m lo hi))
 case atStart=>exact ⟨0,by omega,rfl,HH0,HBX⟩
 case round=>
  obtain ⟨i,hi',rfl,HJ0,HB⟩:=hrel;clear q1 HH0;by_cases hlt:i<m
  · obtain ⟨q1,q2,q3⟩:=HB.out;have hb1:i*(hi-lo)≤65536*65536:=Nat.mul_le_mul xo xo;obtain ⟨D,hD⟩:∃D:Int,((hi-lo:Nat):Int)=D:=⟨_,rfl⟩
    have hDw:IntKind.i64.wrap ((hi:Int)-lo)=D:=by rw [←hD];rw [show (hi:Int)-lo=((hi-lo:Nat):Int) by omega];exact IntWalk.i64_in _ xo
    obtain ⟨X,hX⟩:∃X:Int,((i*(hi-lo):Nat):Int)=X:=⟨_,rfl⟩
    have hXw:IntKind.i64.wrap ((i:Int)*D)=X:=by rw [←hX,←hD];push_cast;exact IntWalk.i64_in _ (by push_cast at hb1;omega)
    obtain ⟨qn,hqn⟩:∃qn,i*(hi-lo)/m=qn:=⟨_,rfl⟩
    have hqb:qn≤65536*65536:=by rw [←hqn];exact Nat.le_trans (Nat.div_le_self _ _) hb1
    have hqt:X.tdiv m=(qn:Int):=by rw [←hX,Int.tdiv_eq_ediv_of_nonneg xo,←Int.natCast_ediv,hqn]
    have hqw:IntKind.i64.wrap (qn:Int)=qn:=IntWalk.i64_in _ xo;obtain ⟨pl,hpl⟩:∃pl:Int,((plF m lo hi i:Nat):Int)=pl:=⟨_,rfl⟩
    have hplw:IntKind.i64.wrap ((lo:Int)+qn)=pl:=by
     rw [←hpl,plF,hqn];push_cast
     exact IntWalk.i64_in _ xo
    have hpa:=HGT.out i hlt;rw [hpl] at hpa;have hm0:((m:Int)==0)=false:=by simp;omega
    have hm1:¬(m:Int)=0:=xo;have hm2:¬m=0:=xo;have HI2:=hid hi';clear hD hX hqn hpl hqb hb1 hi';gi_wp2
    refine wpIn_region_facts 10 xk (N:=23) rfl xk xk (by decide) (fun w'=>∃q,w'=wr.drewN q) (Ext 29) (factAt [.is (.func (.yield l) #[] #[]),.is (.int .i64 lo),.is (.int .i64 i),.is (.int .i64 hi),.is (.int .i64 lo),.is (.int .i64 D),.is (.int .i64 X),.is (.int .i64 m),.is (.int .i64 qn),.is (.int .i64 pl)]) (factAt_stays _) ⟨1,rfl⟩ ?steps ?fin
    case steps=>
     refine ⟨?o0,?o1,?o2,?o3,?o4,?o5,?o6,?o7,?o8,?o9,trivial⟩
     case o0=>
      intro u a w' ev hJ hd K hK;rw [if_pos (wanted_free rfl)];have e0:a.tmps.getD 0 undef= .func (.yield l) #[] #[]:=ev 0 (by decide);have HK:=hid hK;clear hK ev hd;go_simp;exact HK.out _ _ xzc hJ rfl (Ext.refl _ _)
     case o1=>
      intro u a w' ev hJ hd K hK;rw [if_pos (wanted_free rfl)];have e2:a.tmps.getD 2 undef= .pointer (some ⟨b2,0,none⟩):=ev 2 (by decide);have g0:=(cell_at_drew hJ q2)
      have HK:=hid hK;clear hK ev hd;go_simp;exact HK.out _ _ xzc hJ rfl (Ext.refl _ _)
     case o2=>
      intro u a w' ev hJ hd K hK;rw [if_pos (wanted_free rfl)];have e5:a.tmps.getD 5 undef= .int .i64 i:=ev 5 (by decide);have HK:=hid hK;clear hK ev hd;go_simp;exact HK.out _ _ xzc hJ rfl (Ext.refl _ _)
     case o3=>
      intro u a w' ev hJ hd K hK;rw [if_pos (wanted_free rfl)];have e3:a.tmps.getD 3 undef= .pointer (some ⟨b3,0,none⟩):=ev 3 (by decide);have g0:=(cell_at_drew hJ q3)
      have HK:=hid hK;clear hK ev hd;go_simp;exact HK.out _ _ xzc hJ rfl (Ext.refl _ _)
     case o4=>
      intro u a w' ev hJ hd K hK;rw [if_pos (wanted_free rfl)];have e2:a.tmps.getD 2 undef= .pointer (some ⟨b2,0,none⟩):=ev 2 (by decide);have g0:=(cell_at_drew hJ q2)
      have HK:=hid hK;clear hK ev hd;go_simp;exact HK.out _ _ xzc hJ rfl (Ext.refl _ _)
     case o5=>
      intro u a w' ev hJ hd K hK;rw [if_pos (wanted_free rfl)];have e13:a.tmps.getD 13 undef= .int .i64 hi:=(ev 13 (by decide)).trans (hd 3 _ xk rfl);have e14:a.tmps.getD 14 undef= .int .i64 lo:=(ev 14 (by decide)).trans (hd 4 _ xk rfl);have HK:=hid hK;clear hK ev hd;go_simp;exact HK.out _ _ xzc hJ rfl (Ext.refl _ _)
     case o6=>
      intro u a w' ev hJ hd K hK;rw [if_pos (wanted_free rfl)];have e12:a.tmps.getD 12 undef= .int .i64 i:=(ev 12 (by decide)).trans (hd 2 _ xk rfl);have e15:a.tmps.getD 15 undef= .int .i64 D:=(ev 15 (by decide)).trans (hd 5 _ xk rfl);have HK:=hid hK;clear hK ev hd;go_simp;exact HK.out _ _ xzc hJ rfl (Ext.refl _ _)
     case o7=>
      intro u a w' ev hJ hd K hK;rw [if_pos (wanted_free rfl)];have e1:a.tmps.getD 1 undef= .pointer (some ⟨b1,0,none⟩):=ev 1 (by decide);have g0:=(cell_at_drew hJ q1)
      have HK:=hid hK;clear hK ev hd;go_simp;exact HK.out _ _ xzc hJ rfl (Ext.refl _ _)
     case o8=>
      intro u a w' ev hJ hd K hK;rw [if_pos (wanted_free rfl)];have e16:a.tmps.getD 16 undef= .int .i64 X:=(ev 16 (by decide)).trans (hd 6 _ xk rfl);have e17:a.tmps.getD 17 undef= .int .i64 m:=(ev 17 (by decide)).trans (hd 7 _ xk rfl);have HK:=hid hK;clear hK ev hd;go_simp;exact HK.out _ _ xzc hJ rfl (Ext.refl _ _)
     case o9=>
      intro u a w' ev hJ hd K hK;rw [if_pos (wanted_free rfl)];have e11:a.tmps.getD 11 undef= .int .i64 lo:=(ev 11 (by decide)).trans (hd 1 _ xk rfl);have e18:a.tmps.getD 18 undef= .int .i64 qn:=(ev 18 (by decide)).trans (hd 8 _ xk rfl);have HK:=hid hK;clear hK ev hd;go_simp;exact HK.out _ _ xzc hJ rfl (Ext.refl _ _)
    case fin=>
     intro u w3 hJ3 hG;have h10:u 10= .func (.yield l) #[] #[]:=hG 0 _ rfl;have h19:u 19= .int .i64 pl:=hG 9 _ rfl;have hBq:Below wr.heap.size wr w3:=by obtain ⟨q,rfl⟩:=hJ3;exact below_drewN (Below.refl _ _) q
     have HBQ:=hid hBq;obtain ⟨fn,tmps,assign,body,hy,hR⟩:=HY.out i w3 (by rw [HLN.out];exact hlt) (HJ.out _ _ _ HJ0.out hBq);rw [hpa] at hy;clear hG hJ3 hpa hBq q1 q2 q3;simp only [mixFrame,mixL,dstsOf,List.take_succ_cons,List.take_zero,List.filterMap_cons,List.filterMap_nil,List.contains_cons,List.contains_nil,Nat.reduceBEq,Bool.or_false,Bool.false_or,Bool.or_true,Bool.true_or,if_true,if_false,Bool.false_eq_true,Nat.reduceAdd,Nat.zero_add,List.drop_succ_cons,List.drop_zero,h10,h19];gi_wp2
     refine ⟨rfl,hR.mono ?_⟩;rintro e W3 (⟨rfl,hJ3,hk3⟩ | ⟨rfl,hJx3⟩)
     · have HB3:=hid ((HB.out.below HBQ.out).kept hk3 s1 s2 s3);have HJ3:=hid hJ3;clear hJ3 hk3 hy hR;gi_wp2
       gi_roundg (gk-1)
       case measure=>have:=HI2.out;omega
       case rel=>exact ⟨i+1,by have:=HI2.out;omega,by go_num,HJ3,HB3⟩
     · have HJ3:=hid hJx3;clear hJx3 hy hR;gi_wp2
       exact bodyPost_ret (results_none rfl _ _ _) rfl ⟨⟨_,rfl⟩,.inr ⟨i+1,by rw [HLN.out];omega,HJ3.out⟩⟩
  · have him:i=m:=xo;subst him;gi_wp2
    refine bodyPost_end (results_none rfl _ _ _) rfl ⟨⟨_,rfl⟩,.inl ?_⟩;rw [HLN.out];exact HJ0.out
structure AppN (l:List Int) (B:Nat) (w:World) (k:Nat) (W:World):Prop where
 own:∃v,W.cell? ⟨B,0,none⟩=some v∧W.ownsRow (B+1) 3 1 v k ((l.take k).map (Value.int .i64))
 fz:W.frozen? ⟨B,0,none⟩=false
 bel:Below B w W
theorem AppN.calm {l:List Int} {B M:Nat} {w:World} {k:Nat} {W W':World} (h:AppN l B w k W) (hc:Calm M W W') (hB:B≤M):AppN l B w k W':=by
 obtain ⟨⟨v,h1,h2⟩,h3,h4⟩:=h;exact ⟨⟨v,hc.cell h1,hc.owns h2⟩,hc.frozen h1 h3,hc.below hB h4⟩
theorem AppendInt_ok (l:List Int) (hl:l.length≤100000) (gf:Nat) (lb:Array Value) (eg:∀args w,(callFunc gf args).run Tryz.prog w= .ok (.enter gf args) w) (w:World) (hit:Iter Tryz.prog gf lb (intsA l) (KpS (fun k=>k<w.heap.size)) w):
    Calls Tryz.prog 123 #[.slice none 0 0,.func (.func gf) #[] lb] w (FreshInts w l):=by
 have IT:=hid (fun W (hb:Below w.heap.size w W)=>hit.later hb);have HPL:=hid (intsA_length l);have HPG:=hid (fun k (h:k<l.length)=>intsA_get h);clear hit;refine calls_of_wp_m Tryz.func123 rfl ?_;simp only [Tryz.ntmps123,List.size_toArray,List.length_cons,List.length_nil,Nat.reduceAdd,Nat.reduceSub,Array.replicate_succ,Array.replicate_zero,List.push_toArray,List.append_toArray,List.nil_append,List.cons_append];go_wp2
 refine wp_range_w (xs:=intsA l) (Kp:=KpS (fun k=>k<w.heap.size)) rfl eg
   (IT.out _ ((Below.refl _ _).alloc (Nat.le_refl _) _)) (Below.refl _ _) (fun h k=>fun i hi=>(k i hi).trans (h i hi)) ?kb ?ps
   (AppN l w.heap.size w) (fun _ _=>False) ?hI (fun _ _ _ h _=>h) ?h0 ?round ?done (fun _ _ _ _ h _=>h.elim)
 case kb=>
  intro W q o o' hl _ _ k hk;simp at hl;exact World.putObj_heap_other xo
 case ps=>
  intro x hx;simp only [intsA,List.mem_map] at hx;obtain ⟨k,_,rfl⟩:=hx;rfl
 case hI=>
  intro k W W' h hc;exact h.calm hc (by simp)
 case h0=>
  exact ⟨⟨_,by (exact xcn),World.ownsRow_nil _ _ _ _⟩,by (exact xcn),by (exact xbel)⟩
 case round=>
  intro q k W hq hk hi;rw [HPL.out] at hk;rw [HPG.out k hk];have htk:=hid (take_succ_int hk);generalize l.getD k 0=x at *;obtain ⟨⟨v,hv,ho⟩,hfz,hbel⟩:=hi;have hzb:w.heap.size<W.heap.size:=World.block_lt_of_cell? _ _ hv;obtain ⟨ao,co,rfl,-⟩:=owns_news ho;have hlt1:(l.take k).length=k:=by rw [List.length_take];omega
  gi_wp2
  have hab:Below W.heap.size W W:=Below.refl _ _;refine ⟨keeps_below hab,fun i hi=>hab.block i xo,?_⟩;intro W2 hc;have hv2:W2.cell? ⟨w.heap.size,0,none⟩=some (.slice ao k co):=hc.cell ((hab.cell (p:=⟨w.heap.size,0,none⟩) hzb).trans hv);have hfz2:W2.frozen? ⟨w.heap.size,0,none⟩=false:=hc.frozen ((hab.cell (p:=⟨w.heap.size,0,none⟩) hzb).trans hv) ((hab.frozen (p:=⟨w.heap.size,0,none⟩) hzb).trans hfz);have ho2:=hc.owns (owns_below ho hab);have hbel2:Below w.heap.size w W2:=hc.below (by simp) hbel;have hz2:=hbel2.size;have HO2:=hid ho2;have HB2:=hid hbel2;have hzw:w.heap.size<W2.heap.size:=World.block_lt_of_cell? _ _ hv2;clear ho hbel hab hc ho2 hbel2 hv hfz
  gi_wp2_with (gi_at_builtin;refine wpListIn_append_own _ rfl (.tmp 8) (.tmp 10) 26 rfl (w.heap.size+1) 3 _ (.int .i64 0) 1 8 Tryz.underlying26 (info_parts info_int).choose_spec.1 (info_parts info_int).choose_spec.2.1 (info_parts info_int).choose_spec.2.2.1 (info_parts info_int).choose_spec.2.2.2 rfl (by decide) _ k _ rfl (HO2.out.alloc (.cells #[.int .i64 x] 3)) ⟨W2.heap.size,0,none⟩ 1 1 [.int .i64 x] rfl rfl (new_cells _ [.int .i64 x] _ _ rfl _ rfl) (by simp [Value.oneCell']) (by unfold maxLen;omega) xo (by simp;omega) ?_;intro v' w3 ho3 hg3 _
               obtain ⟨a3,c3,rfl,-⟩:=owns_news ho3;have hne3:some w.heap.size≠(Value.slice ao k co).ownBlock:=fun e=>(by have:=(HO2.out.lt _ e.symm).1;omega)
               have hbl3:=hg3.block w.heap.size (by simp;omega) hne3;have hv3:w3.cell? ⟨w.heap.size,0,none⟩=some (.slice ao k co):=(World.cell?_of_block (a:=⟨w.heap.size,0,none⟩) hbl3).trans ((((Below.refl _ W2).alloc (Nat.le_refl _) _).cell (p:=⟨w.heap.size,0,none⟩) hzw).trans hv2);have hfz3:w3.frozen? ⟨w.heap.size,0,none⟩=false:=(World.frozen?_of_block (a:=⟨w.heap.size,0,none⟩) hbl3).trans ((((Below.refl _ W2).alloc (Nat.le_refl _) _).frozen (p:=⟨w.heap.size,0,none⟩) hzw).trans hfz2);have HO3:=hid ho3;have HG3:=hid hg3;clear ho3 hg3 hbl3 hne3)
  have hB3:Below w.heap.size w w3:=(HB2.out.alloc xo (.cells #[.int .i64 x] 3)).grown HG3.out (by simp;omega) (fun z hz=>by have:=(HO2.out.lt _ hz).1;omega);have hK3:KeepsOthers W2 w3:=(keeps_below (((Below.refl _ W2).alloc (Nat.le_refl _) _))).trans (KeepsOthers.of_grownBy HG3.out (own_isCells (HO2.out.alloc _)));refine ⟨hK3.trans (KeepsOthers.setCell _ _ _),fun i hi=> ?_,⟨⟨_,World.cell?_setCell_same _ _ _ hv3,?_⟩,?_,hB3.setCell (Nat.le_refl _) _⟩⟩
  · rw [Below.heap_setCell _ _ _ _ (show i≠w.heap.size by omega),HG3.out.block i (by simp;omega) (fun e=>by have:=(HO2.out.lt _ e.symm).1;omega)];exact ((Below.refl _ W2).alloc (Nat.le_refl _) _).block i xo
  · rw [htk.out,List.map_append];exact owns_heap HO3.out fun z hz=>Below.heap_setCell _ _ _ _ (by have:=(HO3.out.lt _ hz).1;show z≠w.heap.size;omega)
  · rw [World.frozen?_setCell];exact hfz3
 case done=>
  intro D W hD hi hK;obtain ⟨⟨v,hv,ho⟩,hfz,hbel⟩:=hi;rw [HPL.out,List.take_length] at ho;obtain ⟨ao,co,rfl,-⟩:=owns_news ho;have HO:=hid ho;have HB:=hid hbel;clear ho hbel;go_wp2
  simp at hD;refine postM_one hK (results_tmp rfl _ _ _) ⟨_,rfl,?_,?_⟩
  · exact owns_base ((Calm.putObj (B:=0) _ (Nat.zero_le _) hK rfl).owns HO.out) xo
  · exact (Calm.putObj (B:=w.heap.size) _ xo hK rfl).below (Nat.le_refl _) HB.out
theorem CollectInt_ok (l:List Int) (hl:l.length≤100000) (gf:Nat) (lb:Array Value) (eg:∀args w,(callFunc gf args).run Tryz.prog w= .ok (.enter gf args) w) (w:World) (hit:Iter Tryz.prog gf lb (intsA l) (KpS (fun k=>k<w.heap.size)) w):
    Calls Tryz.prog 119 #[.func (.func gf) #[] lb] w (FreshInts w l):=by
 have A:=hid (AppendInt_ok l hl gf lb eg w hit);clear hit;go_enter Tryz.func119,Tryz.ntmps119
 go_wp2_with fail
 refine A.out.mono ?_;rintro e w1 ⟨v,rfl,ho,hb⟩;have HO:=hid ho;have HB:=hid hb;clear ho hb;go_wp2
 go_ret
 exact ⟨v,rfl,HO.out,HB.out⟩
theorem splaces_ok (m lo hi:Int) (w:World):
    Calls Tryz.prog 120 #[.int .i64 m,.int .i64 lo,.int .i64 hi] w fun e w'=>e= .returned (.func (.func 124) #[] #[.pointer (some ⟨w.heap.size,0,none⟩),.pointer (some ⟨w.heap.size+1,0,none⟩),.pointer (some ⟨w.heap.size+2,0,none⟩)])∧
      w'=((w.alloc (.cells #[.int .i64 m] 3)).alloc (.cells #[.int .i64 lo] 3)).alloc (.cells #[.int .i64 hi] 3):=by
 go_enter Tryz.func120,Tryz.ntmps120
 go_wp2
 go_ret
 exact ⟨rfl,rfl⟩
theorem smay_ok (m lo hi:Nat) (hlh:lo≤hi) (hhi:hi≤65536) (hm:m≤hi-lo) (w:World):
    Calls Tryz.prog 118 #[.int .i64 m,.int .i64 lo,.int .i64 hi] w fun e w'=>e= .returned (.bool true)∧w=w':=by
 have hw:IntKind.i64.wrap ((hi:Int)-lo)=(hi:Int)-lo:=IntWalk.i64_in _ xo;have hg:decide ((m:Int)≤(hi:Int)-lo)=true:=by simp;omega
 go_enter Tryz.func118,Tryz.ntmps118
 go_wp2
 go_ret
 exact ⟨rfl,rfl⟩
def FreshI2 (w:World) (l:List Int) (x:Value) (e:Ending) (w':World):Prop:=
  ∃v,e= .returned (.tuple #[v,x])∧w'.ownsRow w.heap.size 3 1 v l.length (l.map (Value.int .i64))∧Below w.heap.size w w'
theorem Places_ok (m lo hi:Nat) (hlh:lo≤hi) (hhi:hi≤65536) (hm:m≤hi-lo) (w:World):
    Calls Tryz.prog 92 #[.int .i64 m,.int .i64 lo,.int .i64 hi] w (FreshI2 w (ints (plR m lo hi)) (.int .i64 0)):=by
 have MY:=hid (fun w=>smay_ok m lo hi hlh hhi hm w);have PS:=hid (fun w=>splaces_ok m lo hi w);have HL:=hid (show (ints (plR m lo hi)).length≤100000 by rw [ints_length,plR_length];omega);have IT:=hid (fun W hbx=>places1_iter m lo hi hlh hhi xo (fun k=>k<w.heap.size+3) w.heap.size (w.heap.size+1) (w.heap.size+2) xo xo xo W hbx);generalize ints (plR m lo hi)=L at *;go_enter Tryz.func92,Tryz.ntmps92
 go_wp2_with (first
   | (go_at_call 118;refine (MY.out _).mono ?_;rintro e w' ⟨rfl,rfl⟩)
   | (go_at_call 120;refine (PS.out _).mono ?_;rintro e w' ⟨rfl,rfl⟩)
   | (go_at_call 119;fail))
 have hB:Below w.heap.size w (((w.alloc (.cells #[.int .i64 m] 3)).alloc (.cells #[.int .i64 lo] 3)).alloc (.cells #[.int .i64 hi] 3)):=xbel;have hI:Iter Tryz.prog 124 #[.pointer (some ⟨w.heap.size,0,none⟩),.pointer (some ⟨w.heap.size+1,0,none⟩),.pointer (some ⟨w.heap.size+2,0,none⟩)] (intsA L) (KpS (fun k=>k<w.heap.size+3)) (((w.alloc (.cells #[.int .i64 m] 3)).alloc (.cells #[.int .i64 lo] 3)).alloc (.cells #[.int .i64 hi] 3)):=
   IT.out _ ⟨by (exact xcn),by (exact xcn),by (exact xcn)⟩
 have hz:(((w.alloc (.cells #[.int .i64 m] 3)).alloc (.cells #[.int .i64 lo] 3)).alloc (.cells #[.int .i64 hi] 3)).heap.size=w.heap.size+3:=by simp
 generalize (((w.alloc (.cells #[.int .i64 m] 3)).alloc (.cells #[.int .i64 lo] 3)).alloc (.cells #[.int .i64 hi] 3))=w1 at *;rw [←hz] at hI;have CO:=hid (CollectInt_ok L HL.out 124 _ (fun args w=>rfl) w1 hI);have HB:=hid hB;clear hI hB IT;go_wp2_with fail
 refine CO.out.mono ?_;rintro e w2 ⟨v,rfl,ho,hb⟩;have HO:=hid (owns_base ho (by omega:w.heap.size≤w1.heap.size));have HB2:=xv hb HB;clear ho hb;go_wp2
 go_ret2
 exact ⟨v,rfl,HO.out,HB2.out⟩
theorem Of07_ok (m lo hi:Nat) (hlh:lo≤hi) (hhi:hi≤65536) (hm:m≤hi-lo) (w:World):
    Calls Tryz.prog 101 #[.int .i64 m,.int .i64 lo,.int .i64 hi] w (FreshInts w (ints (plR m lo hi))):=by
 have HLN:=hid (show (ints (plR m lo hi)).length=m by rw [ints_length,plR_length]);have HGT:=hid (fun k (h:k<m)=>show (ints (plR m lo hi)).take (k+1)=(ints (plR m lo hi)).take k++[((plF m lo hi k:Nat):Int)] by
  rw [take_succ_int (by rw [ints_length,plR_length];exact h),getD_ints,plR_get h])
 generalize ints (plR m lo hi)=L at *;go_enter Tryz.func101,Tryz.ntmps101
 go_wp2
 go_loopg [7,8] m (fun gk v iv wr=>∃i:Nat,i+gk=m∧iv= .int .i64 i∧Hid (wr.ownsRow w.heap.size 3 1 v i ((L.take i).map (Value.int .i64)))∧Hid (Below w.heap.size w wr)∧w.heap.size≤wr.heap.size)
 case atStart=>exact ⟨0,by omega,rfl,hid (World.ownsRow_nil _ _ _ _),hid (Below.refl _ _),Nat.le_refl _⟩
 case round=>
  obtain ⟨i,hi',rfl,HO,HB,hz⟩:=hrel;obtain ⟨ao,co,rfl,-⟩:=owns_news HO.out;by_cases hlt:i<m
  · have hb1 : i *(hi-lo)≤65536*65536:=Nat.mul_le_mul xo xo;obtain ⟨D,hD⟩:∃D:Int,((hi-lo:Nat):Int)=D:=⟨_,rfl⟩
    have hDw:IntKind.i64.wrap ((hi:Int)-lo)=D:=by rw [←hD];rw [show (hi:Int)-lo=((hi-lo:Nat):Int) by omega];exact IntWalk.i64_in _ xo
    obtain ⟨X,hX⟩:∃X:Int,((i*(hi-lo):Nat):Int)=X:=⟨_,rfl⟩
    have hXw:IntKind.i64.wrap ((i:Int)*D)=X:=by rw [←hX,←hD];push_cast;exact IntWalk.i64_in _ (by push_cast at hb1;omega)
    obtain ⟨qn,hqn⟩:∃qn,i*(hi-lo)/m=qn:=⟨_,rfl⟩
    have hqb:qn≤65536*65536:=by rw [←hqn];exact Nat.le_trans (Nat.div_le_self _ _) hb1
    have hqt:X.tdiv m=(qn:Int):=by rw [←hX,Int.tdiv_eq_ediv_of_nonneg xo,←Int.natCast_ediv,hqn]
    have hqw:IntKind.i64.wrap (qn:Int)=qn:=IntWalk.i64_in _ xo;obtain ⟨pl,hpl⟩:∃pl:Int,((plF m lo hi i:Nat):Int)=pl:=⟨_,rfl⟩
    have hplw:IntKind.i64.wrap ((lo:Int)+qn)=pl:=by
     rw [←hpl,plF,hqn];push_cast
     exact IntWalk.i64_in _ xo
    have hpa:=HGT.out i hlt;rw [hpl] at hpa;have hm0:((m:Int)==0)=false:=by simp;omega
    have hm1:¬(m:Int)=0:=xo;have hm2:¬m=0:=xo;have hl1:(L.take i).length=i:=by rw [List.length_take,HLN.out];omega
    have HPA:=hid hpa;have HI2:=hid hi';clear hD hX hqn hpl hqb hb1 hi' hpa
    go_wp2_with (at_builtin;refine wpl_append (.tmp 14) (.tmp 24) 26 3 (.int .i64 0) 1 8 Tryz.underlying26 info_int rfl (by decide) (by decide) w.heap.size _ i _ (some ⟨wr.heap.size,0,none⟩) 1 1 [.int .i64 pl] (HO.out.alloc _) rfl xzc (new_cells _ [.int .i64 pl] _ _ rfl) (by simp [Value.oneCell']) xo (by simp;omega) rfl rfl rfl rfl ?_;intro v2 w2 ho2 hg2 _
                 obtain ⟨a2,c2,rfl,-⟩:=owns_news ho2;have HO2:=hid ho2;have HG2:=hid hg2;clear ho2 hg2)
    have HB2:=hid ((HB.out.alloc hz (.cells #[.int .i64 pl] 3)).grown HG2.out (by simp;omega) (fun z hz=>by have:=(HO.out.lt z hz).1;omega));have hz2:=HB2.out.size;go_roundg (gk-1)
    case measure=>have:=HI2.out;omega
    case rel=>
     refine ⟨i+1,by have:=HI2.out;omega,by go_num,hid ?_,HB2,hz2⟩;rw [HPA.out,List.map_append];exact HO2.out
  · have him:m=i:=xo;subst him;go_wp2
    go_ret
    refine ⟨_,rfl,?_,HB.out⟩;have h9:=HO.out;rw [List.take_of_length_le (by rw [HLN.out];exact Nat.le_refl _)] at h9;rw [HLN.out];exact h9
end
section
open Go.RowKit
def topI (p:Nat→Bool):Nat→Int
  | 0=> -1
  | n+1=>if p n=true then n else topI p n
theorem topI_zero (p:Nat→Bool):topI p 0= -1:=rfl
theorem topI_yes {p:Nat→Bool} {n:Nat} (h:p n=true):topI p (n+1)=n:=by rw [topI,if_pos h]
theorem topI_no {p:Nat→Bool} {n:Nat} (h:p n=false):topI p (n+1)=topI p n:=by rw [topI,if_neg (by simp [h])]
theorem topI_cases (p:Nat→Bool):∀n,(topI p n= -1∧∀i,i<n→p i=false)∨∃k,k<n∧topI p n=(k:Nat)∧p k=true∧∀i,k<i→i<n→p i=false
  | 0=>Or.inl ⟨rfl,fun i hi=>by omega⟩
  | n +1=>by
   cases h:p n with
   | true=>exact Or.inr ⟨n,by omega,topI_yes h,h,fun i h1 h2=>by omega⟩
   | false=>
    rw [topI_no h];rcases topI_cases p n with ⟨e,hn⟩ | ⟨k,hk,e,hp,hn⟩
    · refine Or.inl ⟨e,fun i hi=> ?_⟩;rcases Nat.lt_or_ge i n with q|q
      · exact hn i q
      · rw [show i=n by omega];exact h
    · refine Or.inr ⟨k,by omega,e,hp,fun i h1 h2=> ?_⟩;rcases Nat.lt_or_ge i n with q|q
      · exact hn i h1 q
      · rw [show i=n by omega];exact h
theorem topI_bd (p:Nat→Bool) (n:Nat): -1≤topI p n∧topI p n<n∨(topI p n= -1∧n=0):=by
 rcases topI_cases p n with ⟨e,_⟩ | ⟨k,hk,e,_⟩<;>omega
def wnd (a h at_:Nat):Nat:=at_/2^(a+h)
theorem wnd_bd {a h H at_:Nat} (hh:h≤H) (hat:at_<2^a*2^H):(wnd a h at_+1)*2^h≤2^H∧wnd a h at_*2^(a+h)≤at_∧at_<(wnd a h at_+1)*2^(a+h)∧(wnd a h at_+1)*2^(a+h)≤2^a*2^H:=by
 have hp:=Nat.two_pow_pos (a+h);have e1:2^a*2^H=2^(H-h)*2^(a+h):=by rw [←Nat.pow_add,←Nat.pow_add];congr 1;omega
 have e2:2^H=2^(H-h)*2^h:=by rw [←Nat.pow_add];congr 1;omega
 have hw:wnd a h at_<2^(H-h):=by
  unfold wnd;rw [Nat.div_lt_iff_lt_mul hp,←e1];exact hat
 have h1:=Nat.div_mul_le_self at_ (2^(a+h));have h2:=Nat.lt_div_mul_add hp (a:=at_);refine ⟨?_,h1,?_,?_⟩
 · rw [e2];exact Nat.mul_le_mul_right _ hw
 · rw [Nat.succ_mul];exact h2
 · rw [e1];exact Nat.mul_le_mul_right _ hw
theorem wnd_seg (a h at_:Nat):wnd a h at_*2^(a+h)=wnd a h at_*2^h*2^a∧(wnd a h at_+1)*2^(a+h)=(wnd a h at_+1)*2^h*2^a∧wnd a h at_*2^(a+h)+2^(a+h)=(wnd a h at_+1)*2^(a+h):=by
 refine ⟨?_,?_,by rw [Nat.succ_mul]⟩
 · rw [Nat.pow_add,Nat.mul_comm (2^a),Nat.mul_assoc]
 · rw [Nat.pow_add,Nat.mul_comm (2^a),Nat.mul_assoc]
end
end Go.Proofs.YtookgoidlnlckaaGreatDoor

/- Merged: FillPl, Conf, ConfD, GapPl, Share, GetPl, Ref08, Plc, LayW, Put02, FilS, F64, FracW, ConfW. -/
import Derived.Test.YtbedhbpgnfffmaaGreatCobTellsP10
import Derived.Laws.BitsAllLaws
import Derived.Test.YtbedhbpgnfffmaaGreatCobTellsP2
import Derived.Test.YtbedhbpgnfffmaaGreatCobTellsP6
import Derived.Deep.CutRange
import Derived.Test.YtbedhbpgnfffmaaGreatCobTellsP4
import Derived.Test.YtbedhbpgnfffmaaGreatCobTellsP5
import Derived.Laws.ComplexArith
import Derived.Test.YtbedhbpgnfffmaaGreatCobTellsP1
import Derived.Test.YtbedhbpgnfffmaaGreatCobTellsP3
import Derived.Test.YtbedhbpgnfffmaaGreatCobTellsP8
namespace Go.Proofs.YtbedhbpgnfffmaaGreat
set_option maxRecDepth 100000
set_option maxHeartbeats 40000000
set_option linter.unusedVariables false
set_option linter.unusedSimpArgs false
section
open Go Go.RowKit
theorem wrap_two {r:Nat} (hr:r<64):IntKind.u64.wrap (2^r)=((2^r:Nat):Int):=by
 have h:2^r<2^64:=Nat.pow_lt_pow_right xo hr;have e:(2:Int)^r=((2^r:Nat):Int):=by push_cast;rfl
 rw [e,IntKind.wrap_u64,Int.emod_eq_of_lt (Int.natCast_nonneg _) xo]
theorem clrX_nat {x r:Nat} (hx:x<18446744073709551616) (hr:r<64):clrX (x:Int) r=((x &&& (2^64-(2^r+1)):Nat):Int):=by
 have h:2^r<2^64:=Nat.pow_lt_pow_right xo hr;rw [clrX,wrap_two hr,u64_andNot_nat _ _ hx xo,show 18446744073709551615-2^r=2^64-(2^r+1) by omega]
theorem setX_nat {x r:Nat} (hx:x<18446744073709551616) (hr:r<64):setX (x:Int) r=((x ||| 2^r:Nat):Int):=by
 have h:2^r<2^64:=Nat.pow_lt_pow_right xo hr;rw [setX,wrap_two hr,u64_or_nat _ _ hx xo]
theorem bitI_clr {x:Int} {r:Nat} (h0:0≤x) (h1:x<18446744073709551616) (hr:r<64) (k:Nat):bitI (clrX x r) k=(bitI x k&&decide (k≠r)):=by
 obtain ⟨n,rfl⟩:=Int.eq_ofNat_of_zero_le h0;have h:2^r<2^64:=Nat.pow_lt_pow_right xo hr;rw [clrX_nat xo hr,bitI_nat,bitI_nat,Nat.testBit_and,Nat.testBit_two_pow_sub_succ h,Nat.testBit_two_pow];by_cases hk:k<64
 · by_cases hkr:r=k
   · subst hkr;simp
   · have:k≠r:=fun e=>hkr e.symm
     simp [hk,hkr,this]
 · have:n.testBit k=false:=by
     have:=bitI_high (x:=(n:Int)) h1 (k:=k) xo;rwa [bitI_nat] at this
   simp [this]
theorem bitI_set {x:Int} {r:Nat} (h0:0≤x) (h1:x<18446744073709551616) (hr:r<64) (k:Nat):bitI (setX x r) k=(bitI x k||decide (k=r)):=by
 obtain ⟨n,rfl⟩:=Int.eq_ofNat_of_zero_le h0;rw [setX_nat xo hr,bitI_nat,bitI_nat,Nat.testBit_or,Nat.testBit_two_pow];by_cases hkr:r=k
 · subst hkr;simp
 · have:k≠r:=fun e=>hkr e.symm
   simp [hkr,this]
theorem clrX_bd {x:Int} {r:Nat} (h0:0≤x) (h1:x<18446744073709551616) (hr:r<64):0≤clrX x r∧clrX x r<18446744073709551616:=by
 obtain ⟨n,rfl⟩:=Int.eq_ofNat_of_zero_le h0;rw [clrX_nat xo hr];have:=Nat.and_le_left (n:=n) (m:=2^64-(2^r+1));omega
theorem setX_bd {x:Int} {r:Nat} (h0:0≤x) (h1:x<18446744073709551616) (hr:r<64):0≤setX x r∧setX x r<18446744073709551616:=by
 obtain ⟨n,rfl⟩:=Int.eq_ofNat_of_zero_le h0;rw [setX_nat xo hr];have h:2^r<2^64:=Nat.pow_lt_pow_right xo hr;have:=Nat.or_lt_two_pow (x:=n) (y:=2^r) (n:=64) xo h;omega
theorem getD_set_at (l:List Int) (i j:Nat) (v:Int):(l.set i v).getD j 0=if i=j∧i<l.length then v else l.getD j 0:=by
 rw [List.getD_eq_getElem?_getD,List.getD_eq_getElem?_getD,List.getElem?_set];by_cases h:i=j
 · subst h;by_cases h2:i<l.length
   · simp [h2]
   · simp [h2]
 · simp [h]
theorem bitW_clr {ws:List Int} (hu:U64s ws) {i:Nat} (hi:i/64<ws.length) (j:Nat):bitW (clrL ws i) j=(bitW ws j&&decide (j≠i)):=by
 have hg:=hu.get (i/64);rw [bitW,clrL,getD_set_at];by_cases h:i/64=j/64
 · rw [if_pos ⟨h,hi⟩,bitI_clr hg.1 hg.2 (Nat.mod_lt _ xo),h,bitW];congr 1
   rw [decide_eq_decide];omega
 · rw [if_neg (fun q=>h q.1),bitW];have:j≠i:=fun e=>h (by rw [e])
   simp [this]
theorem bitW_set {ws:List Int} (hu:U64s ws) {i:Nat} (hi:i/64<ws.length) (j:Nat):bitW (setL ws i) j=(bitW ws j||decide (j=i)):=by
 have hg:=hu.get (i/64);rw [bitW,setL,getD_set_at];by_cases h:i/64=j/64
 · rw [if_pos ⟨h,hi⟩,bitI_set hg.1 hg.2 (Nat.mod_lt _ xo),h,bitW];congr 1
   rw [decide_eq_decide];omega
 · rw [if_neg (fun q=>h q.1),bitW];have:j≠i:=fun e=>h (by rw [e])
   simp [this]
theorem U64s_clr {ws:List Int} (hu:U64s ws) (i:Nat):U64s (clrL ws i):=by
 intro x hx;rcases List.mem_or_eq_of_mem_set hx with h|rfl
 · exact hu x h
 · have hg:=hu.get (i/64);exact clrX_bd hg.1 hg.2 (Nat.mod_lt _ xo)
theorem U64s_set {ws:List Int} (hu:U64s ws) (i:Nat):U64s (setL ws i):=by
 intro x hx;rcases List.mem_or_eq_of_mem_set hx with h|rfl
 · exact hu x h
 · have hg:=hu.get (i/64);exact setX_bd hg.1 hg.2 (Nat.mod_lt _ xo)
theorem set_getD_self (l:List Int) (i:Nat):l.set i (l.getD i 0)=l:=by
 apply List.ext_getElem? fun j=> ?_
 rw [List.getElem?_set];by_cases h:i=j
 · subst h;rw [if_pos rfl];by_cases h2:i<l.length
   · simp [h2,List.getD_eq_getElem?_getD]
   · rw [if_neg h2,List.getElem?_eq_none xo]
 · rw [if_neg h]
theorem clrL_same {ws:List Int} (hu:U64s ws) {i:Nat} (hb:bitW ws i=false):clrL ws i=ws:=by
 have hg:=hu.get (i/64);have hr:i%64<64:=Nat.mod_lt _ xo;have hc:=clrX_bd hg.1 hg.2 hr;rw [clrL];have:clrX (ws.getD (i/64) 0) (i%64)=ws.getD (i/64) 0:=by
  apply int_eq_of_bits hc.1 hg.1;intro k;rw [bitI_clr hg.1 hg.2 hr];by_cases hk:k=i%64
  · subst hk;rw [bitW] at hb;rw [hb];rfl
  · simp [hk]
 rw [this,set_getD_self]
theorem countP_flip {p q:Nat→Bool} {i:Nat} (hp:p i=true) (hq:q i=false) (he:∀j,j≠i→q j=p j):∀(d a:Nat),(List.range' a d).countP p=(List.range' a d).countP q+if a≤i∧i<a+d then 1 else 0:=by
 intro d;induction d with
 | zero=>intro a;simp
 | succ d ih=>
  intro a;rw [List.range'_succ,List.countP_cons,List.countP_cons,ih (a+1)];by_cases h:a=i
  · subst h;have e1:¬(a+1≤a∧a<a+1+d):=xo;have e2:a≤a∧a<a+(d+1):=xo;rw [hp,hq,if_neg e1,if_pos e2];simp
  · rw [he a h];by_cases h2:a+1≤i∧i<a+1+d
    · have e2:a≤i∧i<a+(d+1):=xo;rw [if_pos h2,if_pos e2];omega
    · have e2:¬(a≤i∧i<a+(d+1)):=xo;rw [if_neg h2,if_neg e2];omega
theorem cntW_clr {ws:List Int} (hu:U64s ws) {i:Nat} (hi:i/64<ws.length) (hb:bitW ws i=true) (a b:Nat):cntW ws a b=cntW (clrL ws i) a b+if a≤i∧i<b then 1 else 0:=by
 rw [cntW,cntW,countP_flip (p:=bitW ws) (q:=bitW (clrL ws i)) hb (by rw [bitW_clr hu hi];simp) (fun j hj=>by rw [bitW_clr hu hi];simp [hj])];congr 1
 by_cases h:a≤i∧i<b
 · rw [if_pos xo,if_pos h]
 · rw [if_neg xo,if_neg h]
theorem cntW_set {ws:List Int} (hu:U64s ws) {i:Nat} (hi:i/64<ws.length) (hb:bitW ws i=false) (a b:Nat):cntW (setL ws i) a b=cntW ws a b+if a≤i∧i<b then 1 else 0:=by
 rw [cntW,cntW,countP_flip (p:=bitW (setL ws i)) (q:=bitW ws) (by rw [bitW_set hu hi];simp) hb (fun j hj=>by rw [bitW_set hu hi];simp [hj])];congr 1
 by_cases h:a≤i∧i<b
 · rw [if_pos xo,if_pos h]
 · rw [if_neg xo,if_neg h]
structure SlGd (c:SlC) (S lw n lc:Nat):Prop where
 seg:c.seg=S
 elw:c.ws.length=lw
 elk:c.ks.length=n
 elv:c.vs.length=n
 elc:c.cs.length=lc
 s4:4≤S
 s64:S≤64
 cn:n=S*lc
 wn:n≤64*lw
 n1:1≤n
 nm:n≤65536
 u:U64s c.ws
 cnt:∀k,k<lc→c.cs.getD k 0=(cntW c.ws (k*S) ((k+1)*S):Int)
 hi:∀i,n≤i→bitW c.ws i=false
 clr:∀i,bitW c.ws i=false→c.ks.getD i 0=0∧c.vs.getD i 0=0
theorem SlGd.ok {c:SlC} {S lw n lc:Nat} (h:SlGd c S lw n lc):okC c=true:=by
 simp only [okC,Bool.and_eq_true,List.all_eq_true,decide_eq_true_eq];refine ⟨fun x hx=>h.u x hx,fun x hx=> ?_⟩;obtain ⟨k,hk,rfl⟩:=List.mem_iff_getElem.1 hx;have:=h.cnt k (by rw [←h.elc];exact hk);rw [List.getD_eq_getElem?_getD,List.getElem?_eq_getElem hk,Option.getD_some] at this;have h2:=cntW_le c.ws (k*S) ((k+1)*S);rw [show (k+1)*S-k*S=S by rw [Nat.succ_mul];omega] at h2;have:=h.s64;omega
theorem seg_in {S i k:Nat} (hS:4≤S):(k*S≤i∧i<(k+1)*S)↔i/S=k:=by
 constructor
 · rintro ⟨h1,h2⟩;apply Nat.le_antisymm
   · exact Nat.le_of_lt_succ ((Nat.div_lt_iff_lt_mul xo).2 h2)
   · exact (Nat.le_div_iff_mul_le xo).2 h1
 · rintro rfl;exact ⟨Nat.div_mul_le_self _ _,by rw [Nat.succ_mul];have e:=Nat.div_add_mod i S;have:=Nat.mod_lt i (show 0<S by omega);rw [Nat.mul_comm] at e;omega⟩
theorem SlGd.tk {c:SlC} {S lw n lc:Nat} (h:SlGd c S lw n lc) {i:Nat} (hi:i<n):SlGd (tkC c i) S lw n lc:=by
 have hq:i/64<c.ws.length:=by rw [h.elw];have:=h.wn;omega
 have hs:i/S<lc:=(Nat.div_lt_iff_lt_mul (by have:=h.s4;omega)).2 (by rw [Nat.mul_comm,←h.cn];exact hi);have hseg:c.seg.toNat=S:=by rw [h.seg];rfl
 refine ⟨h.seg,?_,?_,?_,?_,h.s4,h.s64,h.cn,h.wn,h.n1,h.nm,U64s_clr h.u i,?_,?_,?_⟩
 · simp [tkC,clrL,h.elw]
 · simp [tkC,h.elk]
 · simp [tkC,h.elv]
 · simp only [tkC];split
   · rw [List.length_set];exact h.elc
   · exact h.elc
 · intro k hk;simp only [tkC];rw [hseg];cases hb:bitW c.ws i with
   | true=>
    have e:=cntW_clr h.u hq hb (k*S) ((k+1)*S);rw [if_pos rfl,getD_set_at,h.elc];by_cases hki:i/S=k
    · subst hki;rw [if_pos ((seg_in h.s4).2 rfl)] at e;rw [if_pos ⟨rfl,hk⟩,h.cnt _ hk,e];omega
    · rw [if_neg (fun q=>hki ((seg_in h.s4).1 q))] at e;rw [if_neg (fun q=>hki q.1),h.cnt _ hk,e];omega
   | false=>
    rw [if_neg xdd,clrL_same h.u hb,h.cnt k hk]
 · intro j hj;simp only [tkC];rw [bitW_clr h.u hq,h.hi j hj];rfl
 · intro j hj;simp only [tkC] at hj ⊢;rw [bitW_clr h.u hq] at hj;rw [getD_set_at,getD_set_at,h.elk,h.elv];by_cases hji:i=j
   · subst hji;simp [hi]
   · rw [if_neg (fun q=>hji q.1),if_neg (fun q=>hji q.1)];apply h.clr;have:j≠i:=fun e=>hji e.symm
     simpa [this] using hj
theorem tk_bit {c:SlC} {S lw n lc:Nat} (h:SlGd c S lw n lc) {i:Nat} (hi:i<n) (j:Nat):bitW (tkC c i).ws j=(bitW c.ws j&&decide (j≠i)):=
  bitW_clr h.u (by rw [h.elw];have:=h.wn;omega) j
theorem SlGd.ly {c:SlC} {S lw n lc:Nat} (h:SlGd c S lw n lc) {i:Nat} (hi:i<n) (key val:Int):SlGd (lyC c i key val) S lw n lc:=by
 have g:=h.tk hi;have hq:i/64<(tkC c i).ws.length:=by rw [g.elw];have:=h.wn;omega
 have hseg:c.seg.toNat=S:=by rw [h.seg];rfl
 have hb:bitW (tkC c i).ws i=false:=by rw [tk_bit h hi];simp
 have hs:i/S<lc:=(Nat.div_lt_iff_lt_mul (by have:=h.s4;omega)).2 (by rw [Nat.mul_comm,←h.cn];exact hi);refine ⟨h.seg,?_,?_,?_,?_,h.s4,h.s64,h.cn,h.wn,h.n1,h.nm,U64s_set g.u i,?_,?_,?_⟩
 · simp only [lyC,setL,List.length_set];exact g.elw
 · simp only [lyC,List.length_set];exact g.elk
 · simp only [lyC,List.length_set];exact g.elv
 · simp only [lyC,List.length_set];exact g.elc
 · intro k hk;simp only [lyC];rw [hseg];have e:=cntW_set g.u hq hb (k*S) ((k+1)*S);rw [getD_set_at,g.elc,e];by_cases hki:i/S=k
   · subst hki;rw [if_pos ⟨rfl,hk⟩,if_pos ((seg_in h.s4).2 rfl),g.cnt _ hk];push_cast
     rfl
   · rw [if_neg (fun q=>hki q.1),if_neg (fun q=>hki ((seg_in h.s4).1 q)),g.cnt _ hk];simp
 · intro j hj;simp only [lyC];rw [bitW_set g.u hq,g.hi j hj];simp;omega
 · intro j hj;simp only [lyC] at hj ⊢;rw [bitW_set g.u hq] at hj;have hji:¬i=j:=by
    intro e;subst e;simp at hj
   rw [getD_set_at,getD_set_at,if_neg (fun q=>hji q.1),if_neg (fun q=>hji q.1)];apply g.clr;simp only [Bool.or_eq_false_iff] at hj;exact hj.1
theorem SlGd.tks {c:SlC} {S lw n lc lo:Nat} (h:SlGd c S lw n lc):∀j,lo+j≤n→SlGd (tks c lo j) S lw n lc
  | 0,_=>h
  | j+1,hj=>(SlGd.tks h j xo).tk xo
theorem SlGd.lys {c:SlC} {S lw n lc:Nat} (h:SlGd c S lw n lc) {ps:List Nat} (hp:∀k,ps.getD k 0<n) (L:List (Int×Int)):∀k,SlGd (lys c ps L k) S lw n lc
  | 0=>h
  | k+1=>(SlGd.lys h hp L k).ly (hp k) _ _
theorem slMay_gd {c:SlC} (hu:U64s c.ws) (h:slMay c=true):∃S M:Nat,SlGd c S ((S*M+63)/64) (S*M) M∧pwB (S:Int)=true∧pwB (M:Int)=true∧1≤M:=by
 have hm:=h;simp only [slMay,Bool.and_eq_true] at h;obtain ⟨⟨h5,h6⟩,h7⟩:=h;obtain ⟨S,M,e1,b1,b2,b3,b4,b5,b6,b7,b8,b9,p1,p2,b10⟩:=slHead_facts h5;have hn1:1≤S*M:=Nat.mul_pos xo b6;refine ⟨S,M,⟨e1,b9,b3,b4,b5,b1,b2,rfl,by omega,hn1,b7,hu,?_,b10,?_⟩,p1,p2,b6⟩
 · intro k hk;have:=List.all_eq_true.1 h7 k (List.mem_range.2 (by rw [b5];exact hk));rw [beq_iff_eq,e1,Int.toNat_natCast] at this;exact this
 · intro i hi;rcases Nat.lt_or_ge i c.ks.length with q|q
   · have:=List.all_eq_true.1 h6 i (List.mem_range.2 q);rw [hi,Bool.false_or,Bool.and_eq_true,beq_iff_eq,beq_iff_eq] at this;exact this
   · rw [List.getD_eq_getElem?_getD,List.getD_eq_getElem?_getD,List.getElem?_eq_none q,List.getElem?_eq_none xo];exact ⟨rfl,rfl⟩
def plF (n lo hi k:Nat):Nat:=lo+k*(hi-lo)/n
def plR (n lo hi:Nat):List Nat:=(List.range n).map (plF n lo hi)
theorem plR_length (n lo hi:Nat):(plR n lo hi).length=n:=by simp [plR]
theorem plR_get {n lo hi k:Nat} (h:k<n):(plR n lo hi).getD k 0=plF n lo hi k:=by
 rw [List.getD_eq_getElem?_getD,plR,List.getElem?_map,List.getElem?_range h];rfl
theorem plF_lt {n lo hi k:Nat} (hk:k<n) (h:n≤hi-lo):plF n lo hi k<hi:=by
 unfold plF;have:k*(hi-lo)/n<hi-lo:=by
  rw [Nat.div_lt_iff_lt_mul xo,Nat.mul_comm];exact (Nat.mul_lt_mul_left xo).2 hk
 omega
theorem plR_ltn {n lo hi N:Nat} (h:n≤hi-lo) (hh:hi≤N) (hN:0<N) (k:Nat):(plR n lo hi).getD k 0<N:=by
 rcases Nat.lt_or_ge k n with q|q
 · rw [plR_get q];have:=plF_lt (lo:=lo) q h;omega
 · rw [List.getD_eq_getElem?_getD,List.getElem?_eq_none (by rw [plR_length];exact q)];exact hN
def spC (c:SlC) (lo hi:Nat) (L:List (Int×Int)):SlC:=lys (tks c lo (hi-lo)) (plR L.length lo hi) L L.length
theorem SlGd.sp {c:SlC} {S lw n lc lo hi:Nat} (h:SlGd c S lw n lc) (hlo:lo≤hi) (hh:hi≤n) {L:List (Int×Int)} (hL:L.length≤hi-lo):SlGd (spC c lo hi L) S lw n lc:=
  SlGd.lys (h.tks (hi-lo) xo) (fun k=>plR_ltn hL hh (by have:=h.n1;omega) k) L _
theorem zero_gd {S M lw:Nat} (h4:4≤S) (h6:S≤64) (hM:1≤M) (hm:S*M≤65536) (hl:lw=(S*M+63)/64):SlGd (zeroSl S (S*M) lw M) S lw (S*M) M:=by
 have z:∀m i,(List.replicate m (0:Int)).getD i 0=0:=fun m i=>by
  rw [List.getD_eq_getElem?_getD,List.getElem?_replicate];split<;>rfl
 have zb:∀i,bitW (zeroSl S (S*M) lw M).ws i=false:=fun i=>by
  rw [bitW,zeroSl];dsimp only;rw [z];exact bitI_zero _
 have zc:∀a d,(List.range' a d).countP (bitW (zeroSl S (S*M) lw M).ws)=0:=fun a d=>by
  rw [List.countP_eq_zero];intro i _;rw [zb i];decide
 have hn1:1≤S*M:=Nat.mul_pos xo hM;refine ⟨rfl,by simp [zeroSl],by simp [zeroSl],by simp [zeroSl],by simp [zeroSl],h4,h6,rfl,by omega,hn1,hm,?_,?_,fun i _=>zb i,?_⟩
 · intro x hx;obtain ⟨-,rfl⟩:=List.mem_replicate.1 hx;omega
 · intro k hk;rw [cntW,zc];simp only [zeroSl];rw [z];rfl
 · intro i _;exact ⟨z _ _,z _ _⟩
end
section
open Go.RowKit
structure Cfg where
 tag:Int
 most:Int
 seg:Int
 least:Int
 den:Int
 ll:Int
 rl:Int
 rh:Int
 lh:Int
@[reducible] def cfV (c:Cfg):Value:= .agg #[.int .u8 c.tag,.int .i64 c.most,.int .i64 c.seg,.int .i64 c.least,.int .i64 c.den,.int .i64 c.ll,.int .i64 c.rl,.int .i64 c.rh,.int .i64 c.lh]
def crossV (a b c d:Int):Int:=if 0<b*c-a*d then -1 else if b*c-a*d<0 then 1 else 0
def powB (n lo hi:Int):Bool:=decide (lo≤n)&&decide (n≤hi)&&pwB n
def takF (c:Cfg) (n:Int):Nat→Int→Int
  | 0,size=>size
  | k+1,size=>if c.rh*size<n*c.den then takF c n k (2*size) else size
def taks (c:Cfg) (n:Int):Int:=takF c n 20 c.least
def htC (c:Cfg) (size:Int):Nat:=(size/c.seg).toNat.log2
def cfHead (c:Cfg):Bool:=
  decide (1≤c.tag)&&decide (c.tag≤3)&&decide (1≤c.most)&&decide (c.most≤16384)&&powB c.seg 4 64&&powB c.least c.seg 256&&decide (1≤c.den)&&decide (c.den≤64) &&
  decide (0≤c.ll)&&decide (c.ll<c.rl)&&decide (c.rl<c.rh)&&decide (c.rh<c.lh)&&decide (c.lh≤c.den)&&decide (c.den≤2*c.rh)&&decide (8*c.rl≤c.den)&&decide (2*c.den≤c.rl*c.least)
def cfMay (c:Cfg):Bool:=cfHead c&&decide (c.den*htC c (taks c c.most)≤(c.lh-c.rh)*c.seg)
def cfE (c:Cfg):Int:=if cfMay c=true then 0 else 50
def cfHeadR (c:Cfg):Bool:=
  decide (1≤c.tag)&&decide (c.tag≤3)&&decide (1≤c.most)&&decide (c.most≤16384)&&powB c.seg 4 64&&powB c.least c.seg 256&&decide (1≤c.den)&&decide (c.den≤64) &&
  decide (0≤c.ll)&&decide (c.ll<c.rl)&&decide (c.rh<c.lh)&&decide (c.lh≤c.den)&&decide (c.rl≤c.den)&&decide (0≤c.rh)&&decide (c.den≤2*c.rh)&&decide (8*c.rl≤c.den)&&decide (2*c.den≤c.rl*c.least)
theorem powB_iff {n lo hi:Int}:powB n lo hi=true↔lo≤n∧n≤hi∧pwB n=true:=by
 simp only [powB,Bool.and_eq_true,decide_eq_true_eq];exact ⟨fun h=>⟨h.1.1,h.1.2,h.2⟩,fun h=>⟨⟨h.1,h.2.1⟩,h.2.2⟩⟩
theorem cfHeadR_eq (c:Cfg):cfHeadR c=cfHead c:=by
 rw [Bool.eq_iff_iff];simp only [cfHeadR,cfHead,Bool.and_eq_true,decide_eq_true_eq,powB_iff];constructor
 · rintro ⟨⟨⟨⟨⟨⟨⟨⟨⟨⟨⟨⟨⟨⟨⟨⟨h1,h2⟩,h3⟩,h4⟩,h5⟩,h6⟩,h7⟩,h8⟩,h9⟩,h10⟩,h11⟩,h12⟩,h13⟩,h14⟩,h15⟩,h16⟩,h17⟩;exact ⟨⟨⟨⟨⟨⟨⟨⟨⟨⟨⟨⟨⟨⟨⟨h1,h2⟩,h3⟩,h4⟩,h5⟩,h6⟩,h7⟩,h8⟩,h9⟩,h10⟩,by omega⟩,h11⟩,h12⟩,h15⟩,h16⟩,h17⟩
 · rintro ⟨⟨⟨⟨⟨⟨⟨⟨⟨⟨⟨⟨⟨⟨⟨h1,h2⟩,h3⟩,h4⟩,h5⟩,h6⟩,h7⟩,h8⟩,h9⟩,h10⟩,h11⟩,h12⟩,h13⟩,h14⟩,h15⟩,h16⟩;exact ⟨⟨⟨⟨⟨⟨⟨⟨⟨⟨⟨⟨⟨⟨⟨⟨h1,h2⟩,h3⟩,h4⟩,h5⟩,h6⟩,h7⟩,h8⟩,h9⟩,h10⟩,h12⟩,h13⟩,by omega⟩,by omega⟩,h14⟩,h15⟩,h16⟩
theorem takF_done {c:Cfg} {n size:Int} (h:¬c.rh*size<n*c.den):∀k,takF c n k size=size
  | 0=>rfl
  | k+1=>if_neg h
theorem takF_bd {c:Cfg} {n:Int}:∀(k:Nat) (size:Int),0≤size→size≤takF c n k size∧takF c n k size≤size*2^k:=by
 intro k;induction k with
 | zero=>intro size h0;rw [takF];simp
 | succ k ih=>
  intro size h0;rw [takF];split
  · obtain ⟨a,b⟩:=ih (2*size) xo;have e:2*size*2^k=size*2^(k+1):=by rw [Int.pow_succ,Int.mul_comm 2 size,Int.mul_assoc,Int.mul_comm 2]
    omega
  · have h2:(1:Int)≤2^(k+1):=by
      have:(2:Int)^(k+1)=((2^(k+1):Nat):Int):=by push_cast;rfl
      rw [this];have:=Nat.two_pow_pos (k+1);omega
    have:=Int.mul_le_mul_of_nonneg_left h2 h0;omega
theorem takF_takes {c:Cfg} {n:Int} (h1:1≤c.rh):∀(k:Nat) (size:Int),0≤size→n*c.den≤size*2^k→n*c.den≤c.rh*takF c n k size:=by
 intro k;induction k with
 | zero=>
  intro size h0 h2;have:=Int.mul_le_mul_of_nonneg_right h1 h0;rw [takF];simp at h2;omega
 | succ k ih=>
  intro size h0 h2;rw [takF];split
  · refine ih (2*size) xo ?_;rw [Int.pow_succ] at h2;have:2*size*2^k=size*(2^k*2):=by rw [Int.mul_comm 2 size,Int.mul_assoc,Int.mul_comm 2]
    omega
  · omega
def wdC (c:Cfg) (h:Nat):Int:=c.seg*2^h
def limF (leaf root:Int) (high h:Nat):Int:=leaf*high+(root-leaf)*h
def dnsV (c:Cfg) (high h:Nat) (n leaf root:Int):Int:=if 0<high then crossV n (wdC c h) (limF leaf root high h) (c.den*high) else crossV n (wdC c h) root c.den
def fulB (c:Cfg) (high h:Nat) (n:Int):Bool:=if high=0 then decide (n*c.den≤wdC c h*c.rh) else decide (n*high*c.den≤wdC c h*(c.lh*((high:Int)-h)+c.rh*h))
def sprB (c:Cfg) (size:Int) (high h:Nat) (n:Int):Bool:=decide (size=c.least)||decide (wdC c h*(c.ll*((high:Int)-h)+c.rl*h)≤(n+1)*high*c.den)
theorem cross_le (a b c d:Int):decide (crossV a b c d≤0)=decide (a*d≤b*c):=by
 unfold crossV;congr 1
 apply propext;split
 · omega
 · split<;>omega
theorem cross_ge (a b c d:Int):decide (0≤crossV a b c d)=decide (b*c≤a*d):=by
 unfold crossV;congr 1
 apply propext;split
 · omega
 · split<;>omega
theorem limF_eq (leaf root:Int) (high h:Nat):limF leaf root high h=leaf*((high:Int)-h)+root*h:=by
 rw [limF,Int.mul_sub,Int.sub_mul];omega
theorem fulB_dns (c:Cfg) (high h:Nat) (n:Int):decide (dnsV c high h n c.lh c.rh≤0)=fulB c high h n:=by
 unfold dnsV fulB;rcases Nat.eq_zero_or_pos high with e|e
 · rw [if_neg xo,if_pos e,cross_le]
 · rw [if_pos e,if_neg xo,cross_le,limF_eq,Int.mul_comm c.den,←Int.mul_assoc]
theorem sprB_dns (c:Cfg) (size:Int) (high h:Nat) (n:Int) (hz:0<high):(decide (0≤dnsV c high h (n+1) c.ll c.rl))=decide (wdC c h*(c.ll*((high:Int)-h)+c.rl*h)≤(n+1)*high*c.den):=by
 unfold dnsV;rw [if_pos hz,cross_ge,limF_eq,Int.mul_comm c.den,←Int.mul_assoc]
theorem cfHead_facts {c:Cfg} (h:cfHead c=true):1≤c.tag∧c.tag≤3∧1≤c.most∧c.most≤16384∧powB c.seg 4 64=true∧powB c.least c.seg 256=true∧1≤c.den∧c.den≤64∧0≤c.ll∧c.ll<c.rl∧c.rl<c.rh∧c.rh<c.lh∧c.lh≤c.den∧c.den≤2*c.rh∧8*c.rl≤c.den∧2*c.den≤c.rl*c.least:=by
 simp only [cfHead,Bool.and_eq_true,decide_eq_true_eq] at h;obtain ⟨⟨⟨⟨⟨⟨⟨⟨⟨⟨⟨⟨⟨⟨⟨h1,h2⟩,h3⟩,h4⟩,h5⟩,h6⟩,h7⟩,h8⟩,h9⟩,h10⟩,h11⟩,h12⟩,h13⟩,h14⟩,h15⟩,h16⟩:=h;exact ⟨h1,h2,h3,h4,h5,h6,h7,h8,h9,h10,h11,h12,h13,h14,h15,h16⟩
theorem powB_nat {n lo hi:Int} (h:powB n lo hi=true):lo≤n∧n≤hi∧∃k:Nat,n=((2^k:Nat):Int):=by
 obtain ⟨h1,h2,h3⟩:=powB_iff.1 h;refine ⟨h1,h2,?_⟩;rcases Int.lt_or_le 0 n with h0|h0
 · obtain ⟨m,rfl⟩:∃m:Nat,n=m:=⟨n.toNat,by omega⟩
   obtain ⟨k,rfl⟩:=pwB_pow h3;exact ⟨k,rfl⟩
 · rw [pwB_neg h0] at h3;cases h3
theorem pwB_two (k:Nat):pwB ((2^k:Nat):Int)=true:=by
 have:=Nat.two_pow_pos k;rw [pwB_iff this,Nat.log2_two_pow]
theorem takF_le {c:Cfg} {n:Int} (h1:1≤c.rh) (h2:c.den≤2*c.rh) (h3:0≤n):∀(k:Nat) (size m:Int),size≤m→4*n≤m→takF c n k size≤m:=by
 intro k;induction k with
 | zero=>intro size m hs hm;rw [takF];exact hs
 | succ k ih=>
  intro size m hs hm;rw [takF];split
  case isTrue h=>
   refine ih _ _ ?_ hm;have h4:n*c.den≤n*(2*c.rh):=Int.mul_le_mul_of_nonneg_left h2 h3;have h5:c.rh*size<c.rh*(2*n):=by
    have:n*(2*c.rh)=c.rh*(2*n):=by rw [Int.mul_comm n,Int.mul_assoc,Int.mul_left_comm]
    omega
   have:=Int.lt_of_mul_lt_mul_left h5 xo;omega
  · exact hs
theorem takF_pow (c:Cfg) (n:Int):∀(k:Nat) (size:Int),∃j:Nat,j≤k∧takF c n k size=size*2^j:=by
 intro k;induction k with
 | zero=>intro size;exact ⟨0,Nat.le_refl _,by rw [takF];simp⟩
 | succ k ih=>
  intro size;rw [takF];split
  · obtain ⟨j,hj,e⟩:=ih (2*size);refine ⟨j+1,by omega,?_⟩;rw [e,Int.pow_succ,Int.mul_comm 2 size,Int.mul_assoc,Int.mul_comm 2]
  · exact ⟨0,by omega,by simp⟩
def sumC (cs:List Int) (a b:Nat):Int:=((List.range' a (b-a)).map fun i=>cs.getD i 0).sum
theorem sumC_nil (cs:List Int) (a:Nat):sumC cs a a=0:=by simp [sumC]
theorem sumC_none (cs:List Int) {a b:Nat} (h:b≤a):sumC cs a b=0:=by rw [sumC,show b-a=0 by omega];rfl
theorem sum_snoc (l:List Int) (x:Int):(l++[x]).sum=l.sum+x:=by
 induction l with
 | nil=>simp
 | cons y l ih=>simp only [List.cons_append,List.sum_cons,ih];omega
theorem sumC_succ (cs:List Int) {a b:Nat} (h:a≤b):sumC cs a (b+1)=sumC cs a b+cs.getD b 0:=by
 rw [sumC,sumC,show b+1-a=(b-a)+1 by omega,List.range'_1_concat,List.map_append,List.map_singleton,sum_snoc,show a+(b-a)=b by omega]
def CntB (cs:List Int) (S:Nat):Prop:=∀i,0≤cs.getD i 0∧cs.getD i 0≤S
theorem sumC_bd {cs:List Int} {S:Nat} (h:CntB cs S) (a:Nat):∀d,0≤sumC cs a (a+d)∧sumC cs a (a+d)≤(S*d:Nat):=by
 intro d;induction d with
 | zero=>rw [Nat.add_zero,sumC_nil];simp
 | succ d ih=>
  rw [←Nat.add_assoc,sumC_succ cs xo,Nat.mul_succ];have:=h (a+d);push_cast
  push_cast at ih
  omega
theorem sumC_bd2 {cs:List Int} {S:Nat} (h:CntB cs S) (a b:Nat):0≤sumC cs a b∧sumC cs a b≤(S*(b-a):Nat):=by
 rcases Nat.le_total a b with e|e
 · have:=sumC_bd h a (b-a);rwa [show a+(b-a)=b by omega] at this
 · rw [sumC_none cs e];exact ⟨Int.le_refl _,by omega⟩
theorem cntB_bd {s:SlC} {S:Nat} (hs:s.seg=S) (h:cntB s=true):CntB s.cs S:=by
 intro i;rcases Nat.lt_or_ge i s.cs.length with hi|hi
 · have:=List.all_eq_true.1 h i (List.mem_range.2 hi);rw [beq_iff_eq,hs,Int.toNat_natCast] at this;have h2:=cntW_le s.ws (i*S) ((i+1)*S);rw [show (i+1)*S-i*S=S by rw [Nat.succ_mul];omega] at h2;rw [this];omega
 · rw [List.getD_eq_getElem?_getD,List.getElem?_eq_none hi];simp
def winB (c:Cfg) (s:SlC) (high h i:Nat):Bool:=fulB c high h (sumC s.cs (i*2^h) ((i+1)*2^h))&&sprB c s.ks.length high h (sumC s.cs (i*2^h) ((i+1)*2^h))
def rowB (c:Cfg) (s:SlC) (high h:Nat):Bool:=(List.range (s.cs.length/2^h)).all fun i=>winB c s high h i
def denB (c:Cfg) (s:SlC) (high:Nat):Bool:=(List.range (high+1)).all fun h=>rowB c s high h
def gapHead (c:Cfg) (s:SlC):Bool:=slMay s&&decide (s.seg=c.seg)&&powB s.ks.length c.least (taks c c.most)&&decide (sumC s.cs 0 s.cs.length≤c.most)
def gapMay (c:Cfg) (s:SlC):Bool:=gapHead c s&&denB c s (htC c s.ks.length)
def gapE (c:Cfg) (s:SlC):Int:=if cfMay c=true then (if gapMay c s=true then 0 else 8) else 50
theorem cntW_add (ws:List Int) {a b d:Nat} (h1:a≤b) (h2:b≤d):cntW ws a d=cntW ws a b+cntW ws b d:=by
 unfold cntW;rw [←List.countP_append];congr 1
 have e:List.range' a (b-a)++List.range' b (d-b)=List.range' a (d-a):=by
  have:=List.range'_append (s:=a) (m:=b-a) (n:=d-b) (step:=1);rw [show a+1*(b-a)=b by omega,show b-a+(d-b)=d-a by omega] at this;exact this
 rw [e]
theorem sumC_cnt {c:SlC} {S lw n lc:Nat} (h:SlGd c S lw n lc) (a:Nat):∀d,a+d≤lc→sumC c.cs a (a+d)=(cntW c.ws (a*S) ((a+d)*S):Int)
  | 0,_=>by rw [Nat.add_zero,sumC_nil,cntW_none (Nat.le_refl _)];rfl
  | d+1,hd=>by
   have ih:=sumC_cnt h a d xo;have e:=cntW_add c.ws (a:=a*S) (b:=(a+d)*S) (d:=(a+d+1)*S) (Nat.mul_le_mul_right _ xo) (Nat.mul_le_mul_right _ xo);rw [←Nat.add_assoc,sumC_succ c.cs xo,ih,h.cnt (a+d) xo,e];push_cast
   rfl
theorem sumC_cnt2 {c:SlC} {S lw n lc:Nat} (h:SlGd c S lw n lc) {a b:Nat} (hab:a≤b) (hb:b≤lc):sumC c.cs a b=(cntW c.ws (a*S) (b*S):Int):=by
 have:=sumC_cnt h a (b-a) xo;rwa [show a+(b-a)=b by omega] at this
theorem prs_in {c:SlC} {a b:Nat} {p:Int×Int}:p ∈ prs c a b↔∃j,(a≤j∧j<b∧bitW c.ws j=true)∧(c.ks.getD j 0,c.vs.getD j 0)=p:=by
 unfold prs plsW;rw [List.mem_map];constructor
 · rintro ⟨j,hj,rfl⟩;rw [List.mem_filter,List.mem_range'_1] at hj;exact ⟨j,⟨hj.1.1,by omega,hj.2⟩,rfl⟩
 · rintro ⟨j,⟨h1,h2,h3⟩,rfl⟩;exact ⟨j,List.mem_filter.2 ⟨List.mem_range'_1.2 ⟨h1,by omega⟩,h3⟩,rfl⟩
def fndL (l:List (Int×Int)) (key:Int):Option (Int×Int):=l.find? fun p=>p.1==key
end
section
open Go.RowKit Go.Shelf
attribute [local go_sem] Oper.semAt_some
structure PlBox (W:World) (b1 b2 b3:Nat) (m lo hi:Nat):Prop where
 n:W.cell? ⟨b1,0,none⟩=some (.int .i64 m)
 lo:W.cell? ⟨b2,0,none⟩=some (.int .i64 lo)
 hi:W.cell? ⟨b3,0,none⟩=some (.int .i64 hi)
theorem PlBox.below {W W':World} {b1 b2 b3 m lo hi:Nat} (h:PlBox W b1 b2 b3 m lo hi) (hb:Below W.heap.size W W'):PlBox W' b1 b2 b3 m lo hi:=
  ⟨(hb.cell (World.block_lt_of_cell? _ _ h.n)).trans h.n,(hb.cell (World.block_lt_of_cell? _ _ h.lo)).trans h.lo,(hb.cell (World.block_lt_of_cell? _ _ h.hi)).trans h.hi⟩
theorem PlBox.kept {S:Nat→Prop} {W W':World} {b1 b2 b3 m lo hi:Nat} (h:PlBox W b1 b2 b3 m lo hi) (hk:KpS S W W') (s1:S b1) (s2:S b2) (s3:S b3):PlBox W' b1 b2 b3 m lo hi:=
  ⟨hk.cell (a:=⟨b1,0,none⟩) s1 h.n,hk.cell (a:=⟨b2,0,none⟩) s2 h.lo,hk.cell (a:=⟨b3,0,none⟩) s3 h.hi⟩
structure AppN (l:List Int) (B:Nat) (w:World) (k:Nat) (W:World):Prop where
 own:∃v,W.cell? ⟨B,0,none⟩=some v∧W.ownsRow (B+1) 3 1 v k ((l.take k).map (Value.int .i64))
 fz:W.frozen? ⟨B,0,none⟩=false
 bel:Below B w W
theorem AppN.calm {l:List Int} {B M:Nat} {w:World} {k:Nat} {W W':World} (h:AppN l B w k W) (hc:Calm M W W') (hB:B≤M):AppN l B w k W':=by
 obtain ⟨⟨v,h1,h2⟩,h3,h4⟩:=h;exact ⟨⟨v,hc.cell h1,hc.owns h2⟩,hc.frozen h1 h3,hc.below hB h4⟩
end
section
open Go.RowKit
structure FilS (B:Nat) (W:World) (b g1 g2 g3 g4 k1 k2 k3 k4 lw n lc:Nat) (c:SlC):Prop where
 c0:W.cell? ⟨b,0,none⟩=some (.int .i64 c.seg)
 c1:W.cell? ⟨b,1,none⟩=some (.slice (some ⟨g1,0,none⟩) lw k1)
 c2:W.cell? ⟨b,2,none⟩=some (.slice (some ⟨g2,0,none⟩) n k2)
 c3:W.cell? ⟨b,3,none⟩=some (.slice (some ⟨g3,0,none⟩) n k3)
 c4:W.cell? ⟨b,4,none⟩=some (.slice (some ⟨g4,0,none⟩) lc k4)
 c5:W.cell? ⟨b,5,none⟩=some (.int .u64 c.laid)
 f1:W.frozen? ⟨b,1,none⟩=false
 f5:W.frozen? ⟨b,5,none⟩=false
 o1:W.ownsRow B 27 1 (.slice (some ⟨g1,0,none⟩) lw k1) lw (c.ws.map (Value.int .u64))
 o2:W.ownsRow B 2 1 (.slice (some ⟨g2,0,none⟩) n k2) n (c.ks.map (Value.int .i64))
 o3:W.ownsRow B 2 1 (.slice (some ⟨g3,0,none⟩) n k3) n (c.vs.map (Value.int .i64))
 o4:W.ownsRow B 3 1 (.slice (some ⟨g4,0,none⟩) lc k4) lc (c.cs.map (Value.int .i64))
 bB:b<B
 n23:g2≠g3
theorem owns_ne {w:World} {B g g' n n' k k':Nat} {e e':TypeId} {xs xs':List Value} (ha:w.ownsRow B e 1 (.slice (some ⟨g,0,none⟩) n k) n xs) (hb:w.ownsRow B e' 1 (.slice (some ⟨g',0,none⟩) n' k') n' xs') (hc:e≠e'):g≠g':=by
 rcases owns_apart ha hb hc with h|h
 · cases h
 · intro hgg;exact h (by subst hgg;rfl)
section
variable {B b g1 g2 g3 g4 k1 k2 k3 k4 lw n lc:Nat} {W W':World} {c:SlC}
theorem FilS.nums (h:FilS B W b g1 g2 g3 g4 k1 k2 k3 k4 lw n lc c):B≤g1∧B≤g2∧B≤g3∧B≤g4∧g1<W.heap.size∧g2<W.heap.size∧g3<W.heap.size∧g4<W.heap.size∧g1≠g2∧g1≠g3∧g1≠g4∧g2≠g4∧g3≠g4∧b<W.heap.size:=
  ⟨(h.o1.lt g1 rfl).1,(h.o2.lt g2 rfl).1,(h.o3.lt g3 rfl).1,(h.o4.lt g4 rfl).1,(h.o1.lt g1 rfl).2,(h.o2.lt g2 rfl).2,(h.o3.lt g3 rfl).2,(h.o4.lt g4 rfl).2,owns_ne h.o1 h.o2 xdd,owns_ne h.o1 h.o3 xdd,owns_ne h.o1 h.o4 xdd,owns_ne h.o2 h.o4 xdd,owns_ne h.o3 h.o4 xdd,World.block_lt_of_cell? _ _ h.c0⟩
theorem FilS.heap (h:FilS B W b g1 g2 g3 g4 k1 k2 k3 k4 lw n lc c) (hb:W'.heap[b]? =W.heap[b]?) (h1:W'.heap[g1]? =W.heap[g1]?) (h2:W'.heap[g2]? =W.heap[g2]?) (h3:W'.heap[g3]? =W.heap[g3]?) (h4:W'.heap[g4]? =W.heap[g4]?):FilS B W' b g1 g2 g3 g4 k1 k2 k3 k4 lw n lc c:=
  ⟨(World.cell?_of_block (a:=⟨b,0,none⟩) hb).trans h.c0,(World.cell?_of_block (a:=⟨b,1,none⟩) hb).trans h.c1,(World.cell?_of_block (a:=⟨b,2,none⟩) hb).trans h.c2,(World.cell?_of_block (a:=⟨b,3,none⟩) hb).trans h.c3,(World.cell?_of_block (a:=⟨b,4,none⟩) hb).trans h.c4,(World.cell?_of_block (a:=⟨b,5,none⟩) hb).trans h.c5,
    (World.frozen?_of_block (a:=⟨b,1,none⟩) hb).trans h.f1,(World.frozen?_of_block (a:=⟨b,5,none⟩) hb).trans h.f5,
    owns_heap h.o1 fun j hj=>by cases hj;exact h1,owns_heap h.o2 fun j hj=>by cases hj;exact h2,owns_heap h.o3 fun j hj=>by cases hj;exact h3,owns_heap h.o4 fun j hj=>by cases hj;exact h4,h.bB,h.n23⟩
theorem FilS.below (h:FilS B W b g1 g2 g3 g4 k1 k2 k3 k4 lw n lc c) (hb:Below W.heap.size W W'):FilS B W' b g1 g2 g3 g4 k1 k2 k3 k4 lw n lc c:=by
 have q:=h.nums;exact h.heap (hb.block _ xo) (hb.block _ xo) (hb.block _ xo) (hb.block _ xo) (hb.block _ xo)
theorem FilS.drew (h:FilS B W b g1 g2 g3 g4 k1 k2 k3 k4 lw n lc c):FilS B W.drew b g1 g2 g3 g4 k1 k2 k3 k4 lw n lc c:=h.heap rfl rfl rfl rfl rfl
theorem FilS.setL (h:FilS B W b g1 g2 g3 g4 k1 k2 k3 k4 lw n lc c) (y:Int):FilS B (W.setCell ⟨b,5,none⟩ (.int .u64 y)) b g1 g2 g3 g4 k1 k2 k3 k4 lw n lc ⟨c.seg,c.ws,c.ks,c.vs,c.cs,y⟩:=by
 have q:=h.nums;have hbB:=h.bB;have hk:∀z,z≠b→(W.setCell ⟨b,5,none⟩ (.int .u64 y)).heap[z]? =W.heap[z]? :=fun z hz=>heap_setCell_ne _ _ _ hz
 exact ⟨set_keep xsi h.c0,set_keep xsi h.c1,set_keep xsi h.c2,set_keep xsi h.c3,set_keep xsi h.c4,World.cell?_setCell_same _ _ _ h.c5,
   by rw [World.frozen?_setCell];exact h.f1,by rw [World.frozen?_setCell];exact h.f5,
   owns_heap h.o1 fun j hj=>by cases hj;exact hk _ xdo,owns_heap h.o2 fun j hj=>by cases hj;exact hk _ xdo,owns_heap h.o3 fun j hj=>by cases hj;exact hk _ xdo,owns_heap h.o4 fun j hj=>by cases hj;exact hk _ xdo,h.bB,h.n23⟩
end
end
section
open Go
def Rep (d:Ieee.Datum) (n:Int):Prop:=∃s m i b,d= .number s m i∧b≤i∧b≤0∧Ieee.signed s m (i-b).toNat=n*2^(-b).toNat
theorem sg_mul (s:Bool) (m u v:Nat):Ieee.signed s m (u+v)=Ieee.signed s m u*2^v:=by
 unfold Ieee.signed;rw [Nat.shiftLeft_eq,Nat.shiftLeft_eq,Nat.pow_add,←Nat.mul_assoc];cases s<;>simp [Int.neg_mul]
theorem sg_xor (s t:Bool) (m n u v:Nat):Ieee.signed (s ^^ t) (m*n) (u+v)=Ieee.signed s m u*Ieee.signed t n v:=by
 unfold Ieee.signed;rw [Nat.shiftLeft_eq,Nat.shiftLeft_eq,Nat.shiftLeft_eq,Nat.pow_add];have e:m*n*(2^u*2^v)=(m*2^u)*(n*2^v):=by
  rw [Nat.mul_assoc,Nat.mul_assoc,←Nat.mul_assoc n,Nat.mul_comm n (2^u),Nat.mul_assoc]
 rw [e];cases s<;>cases t<;>simp [Int.neg_mul,Int.mul_neg]
theorem two_ne (k:Nat):(2:Int)^k≠0:=by
 have:(2:Int)^k=((2^k:Nat):Int):=by push_cast;rfl
 rw [this];have:=Nat.two_pow_pos k;omega
theorem rep_at {s:Bool} {m:Nat} {i:Int} {n:Int} (h:Rep (.number s m i) n) {b:Int} (h1:b≤i) (h2:b≤0):Ieee.signed s m (i-b).toNat=n*2^(-b).toNat:=by
 obtain ⟨s',m',i',b',e,h3,h4,h5⟩:=h;cases e;rcases Int.le_total b b' with hb|hb
 · obtain ⟨k,hk⟩:∃k:Nat,b'-b=k:=⟨(b'-b).toNat,by omega⟩
   rw [show (i-b).toNat=(i-b').toNat+k by omega,sg_mul,h5,show (-b).toNat=(-b').toNat+k by omega,Int.pow_add,Int.mul_assoc]
 · obtain ⟨k,hk⟩:∃k:Nat,b-b'=k:=⟨(b-b').toNat,by omega⟩
   rw [show (i-b').toNat=(i-b).toNat+k by omega,sg_mul,show (-b').toNat=(-b).toNat+k by omega,Int.pow_add,←Int.mul_assoc] at h5;exact Int.eq_of_mul_eq_mul_right (two_ne k) h5
theorem rep_num {d:Ieee.Datum} {n:Int} (h:Rep d n):∃s m i,d= .number s m i:=by
 obtain ⟨s,m,i,b,e,-⟩:=h;exact ⟨s,m,i,e⟩
theorem rep_product {d d':Ieee.Datum} {n n':Int} (h:Rep d n) (h':Rep d' n'):∃r,d.product d'=some r∧Rep r (n*n'):=by
 obtain ⟨s,m,i,b,rfl,h1,h2,h3⟩:=h;obtain ⟨t,k,j,c,rfl,g1,g2,g3⟩:=h';refine ⟨_,rfl,s ^^ t,m*k,i+j,b+c,rfl,by omega,by omega,?_⟩;rw [show (i+j-(b+c)).toNat=(i-b).toNat+(j-c).toNat by omega,sg_xor,h3,g3,show (-(b+c)).toNat=(-b).toNat+(-c).toNat by omega,Int.pow_add];rw [Int.mul_assoc,Int.mul_assoc,←Int.mul_assoc _ n',Int.mul_comm (2^(-b).toNat) n',Int.mul_assoc]
theorem sg_abs (x:Int) (z:Bool) (u:Nat):Ieee.signed (if x=0 then z else x<0) x.natAbs u=x*2^u:=by
 unfold Ieee.signed;rw [Nat.shiftLeft_eq];have e:((x.natAbs*2^u:Nat):Int)=(x.natAbs:Int)*2^u:=by push_cast;rfl
 rw [e];by_cases h0:x=0
 · subst h0;cases z<;>simp
 · rw [if_neg h0];by_cases h:x<0
   · simp only [h,decide_true,if_true];rw [←Int.neg_mul];congr 1
     omega
   · simp only [h,decide_false,Bool.false_eq_true,if_false];congr 1
     omega
theorem rep_sum {d d':Ieee.Datum} {n n':Int} (h:Rep d n) (h':Rep d' n'):∃r,d.sum d'=some r∧Rep r (n+n'):=by
 obtain ⟨s,m,i,rfl⟩:=rep_num h;obtain ⟨t,k,j,rfl⟩:=rep_num h';refine ⟨_,rfl,?_⟩;obtain ⟨b,hb⟩:∃b,min (min i j) 0=b:=⟨_,rfl⟩
 have r1:=rep_at h (b:=b) xo xo;have r2:=rep_at h' (b:=b) xo xo;refine ⟨_,_,_,b,rfl,by omega,by omega,?_⟩;rw [sg_abs];obtain ⟨c,hc⟩:∃c:Nat,min i j-b=c:=⟨(min i j-b).toNat,by omega⟩
 rw [Int.add_mul,show (min i j-b).toNat=c by omega,←sg_mul,←sg_mul,show (i-min i j).toNat+c=(i-b).toNat by omega,show (j-min i j).toNat+c=(j-b).toNat by omega,r1,r2,Int.add_mul]
theorem rep_opposite {d:Ieee.Datum} {n:Int} (h:Rep d n):Rep d.opposite (-n):=by
 obtain ⟨s,m,i,b,rfl,h1,h2,h3⟩:=h;refine ⟨!s,m,i,b,rfl,h1,h2,?_⟩;rw [Int.neg_mul,←h3];unfold Ieee.signed;cases s<;>simp
theorem rep_order {d d':Ieee.Datum} {n n':Int} (h:Rep d n) (h':Rep d' n'):d.order d'=some (compare n n'):=by
 obtain ⟨s,m,i,rfl⟩:=rep_num h;obtain ⟨t,k,j,rfl⟩:=rep_num h';obtain ⟨b,hb⟩:∃b,min (min i j) 0=b:=⟨_,rfl⟩
 have r1:=rep_at h (b:=b) xo xo;have r2:=rep_at h' (b:=b) xo xo;obtain ⟨c,hc⟩:∃c:Nat,min i j-b=c:=⟨(min i j-b).toNat,by omega⟩
 rw [show (i-b).toNat=(i-min i j).toNat+c by omega,sg_mul] at r1;rw [show (j-b).toNat=(j-min i j).toNat+c by omega,sg_mul] at r2;unfold Ieee.Datum.order;simp only [Option.some.injEq];generalize Ieee.signed s m (i-min i j).toNat=x at *;generalize Ieee.signed t k (j-min i j).toNat=y at *;have p1:(0:Int)<2^c:=by
  have:(2:Int)^c=((2^c:Nat):Int):=by push_cast;rfl
  rw [this];have:=Nat.two_pow_pos c;omega
 have p2:(0:Int)<2^(-b).toNat:=by
  have:(2:Int)^(-b).toNat=((2^(-b).toNat:Nat):Int):=by push_cast;rfl
  rw [this];have:=Nat.two_pow_pos (-b).toNat;omega
 have key:x<y↔n<n':=by
  constructor
  · intro hlt;have:=Int.mul_lt_mul_of_pos_right hlt p1;rw [r1,r2] at this;exact Int.lt_of_mul_lt_mul_right this (Int.le_of_lt p2)
  · intro hlt;have:=Int.mul_lt_mul_of_pos_right hlt p2;rw [←r1,←r2] at this;exact Int.lt_of_mul_lt_mul_right this (Int.le_of_lt p1)
 have key2:x=y↔n=n':=by
  constructor
  · rintro rfl;rw [r1] at r2;exact Int.eq_of_mul_eq_mul_right (Int.ne_of_gt p2) r2
  · rintro rfl;rw [←r2] at r1;exact Int.eq_of_mul_eq_mul_right (Int.ne_of_gt p1) r1
 simp only [compare,compareOfLessAndEq,key,key2]
theorem log2_mul_two (m:Nat) (hm:0<m) (u:Nat):(m*2^u).log2=m.log2+u:=by
 have hp:=Nat.two_pow_pos u;have h1:2^m.log2≤m:=(Nat.le_log2 xo).1 (Nat.le_refl _);have h2:m<2^(m.log2+1):=(Nat.log2_lt xo).1 (Nat.lt_succ_self _);have hne:m*2^u≠0:=Nat.mul_ne_zero xo xo;refine (Nat.log2_eq_iff hne).2 ⟨?_,?_⟩
 · rw [Nat.pow_add];exact Nat.mul_le_mul_right _ h1
 · rw [show m.log2+u+1=(m.log2+1)+u by omega,Nat.pow_add];exact (Nat.mul_lt_mul_right hp).2 h2
theorem read_at (w r:Nat) (neg:Bool) (h1:(w/Ieee.double.signWeight%2==1)=neg) (h2:w%Ieee.double.signWeight=r) (h3:¬r<Ieee.double.binade) (h4:r<Ieee.double.infRung):
    Ieee.double.read w= .number neg (Ieee.double.binade+r%Ieee.double.binade) (Ieee.double.leastPlace+(r/Ieee.double.binade-1:Nat)):=by
 unfold Ieee.Format.read;simp only [h1,h2,if_neg h3,if_pos h4]
theorem read_rung {s:Bool} {t K:Nat} (ht:t≤52) (h1:4503599627370496≤K) (h2:K<9007199254740992):
    Ieee.double.read (Ieee.double.word s (min ((1074-t)*4503599627370496+K) Ieee.double.infRung))= .number s K (-(t:Int)):=by
 have e1:Ieee.double.infRung=9218868437227405312:=by decide
 have e2:Ieee.double.signWeight=9223372036854775808:=by decide
 have e3:Ieee.double.binade=4503599627370496:=by decide
 have e4:Ieee.double.leastPlace= -1074:=by decide
 obtain ⟨r,hr⟩:∃r,(1074-t)*4503599627370496+K=r:=⟨_,rfl⟩
 have hm:min r Ieee.double.infRung=r:=Nat.min_eq_left (by rw [e1];omega);rw [hr,hm];have a1:Ieee.double.binade+r%Ieee.double.binade=K:=by rw [e3];omega
 have a2:Ieee.double.leastPlace+((r/Ieee.double.binade-1:Nat):Int)= -(t:Int):=by rw [e3,e4];omega
 have h3:¬r<Ieee.double.binade:=by rw [e3];omega
 have h4:r<Ieee.double.infRung:=by rw [e1];omega
 have hw:Ieee.double.word s r=if s then 9223372036854775808+r else r:=by unfold Ieee.Format.word;rw [e2]
 rw [hw];cases s with
 | true=>
  rw [if_pos rfl,read_at _ r true (by rw [e2,beq_iff_eq];omega) (by rw [e2];omega) h3 h4,a1,a2]
 | false=>
  rw [if_neg xdd,read_at _ r false (by rw [e2,beq_eq_false_iff_ne];omega) (by rw [e2];omega) h3 h4,a1,a2]
theorem cut_none (s:Bool) (n:Nat):Ieee.Toward.cut .even s n 0=n:=by
 simp [Ieee.Toward.cut,Nat.mod_one]
theorem cut_exact (s:Bool) (n d:Nat):Ieee.Toward.cut .even s (n*2^d) d=n:=by
 have hp:=Nat.two_pow_pos d;by_cases h0:n=0
 · subst h0;simp [Ieee.Toward.cut]
 · have hg:(1 <<< min d ((n*2^d).log2+2))=2^d:=by
     rw [log2_mul_two n xo,Nat.shiftLeft_eq,Nat.one_mul,Nat.min_eq_left xo]
   unfold Ieee.Toward.cut;simp only [hg,Nat.mul_div_cancel _ hp,Nat.mul_mod_left];simp
theorem rep_write {d:Ieee.Datum} {n:Int} (h:Rep d n) (hn:n.natAbs<9007199254740992):Rep (Ieee.double.read (Ieee.double.write d)) n:=by
 obtain ⟨s,m,e,rfl⟩:=rep_num h;obtain ⟨b,hb⟩:∃b,min e 0=b:=⟨_,rfl⟩
 have r:=rep_at h (b:=b) xo xo;obtain ⟨u,hu⟩:∃u,(e-b).toNat=u:=⟨_,rfl⟩
 obtain ⟨v,hv⟩:∃v,(-b).toNat=v:=⟨_,rfl⟩
 rw [hu,hv] at r;have huv:u=0∨v=0:=xo;have hev:e=(u:Int)-v:=xo
 -- the sizes alone
 have ra:m*2^u=n.natAbs*2^v:=by
  have:=congrArg Int.natAbs r;rw [Int.natAbs_mul] at this;have e2:((2:Int)^v).natAbs=2^v:=by
   have:(2:Int)^v=((2^v:Nat):Int):=by push_cast;rfl
   rw [this];rfl
  rw [e2] at this;rw [←this];unfold Ieee.signed;rw [Nat.shiftLeft_eq];cases s
  · rfl
  · simp only [if_true];omega
 have rs:s=true→n≤0:=fun hs=>by
  subst hs;apply Int.not_lt.1;intro hpos;unfold Ieee.signed at r;simp only [if_true] at r;have:(0:Int)<n*2^v:=Int.mul_pos hpos (by
   have:(2:Int)^v=((2^v:Nat):Int):=by push_cast;rfl
   rw [this];have:=Nat.two_pow_pos v;omega)
  omega
 have rs2:s=false→0≤n:=fun hs=>by
  subst hs;apply Int.not_lt.1;intro hneg;unfold Ieee.signed at r;simp only [Bool.false_eq_true,if_false] at r;have:n*2^v<0:=Int.mul_neg_of_neg_of_pos hneg (by
   have:(2:Int)^v=((2^v:Nat):Int):=by push_cast;rfl
   rw [this];have:=Nat.two_pow_pos v;omega)
  omega
 have hsn:∀K:Nat,∀t:Nat,K=n.natAbs*2^t→Rep (.number s K (-(t:Int))) n:=fun K t hK=>by
  refine ⟨s,K,_,-(t:Int),rfl,Int.le_refl _,by omega,?_⟩;rw [Int.sub_self,Int.neg_neg];unfold Ieee.signed;simp only [Int.toNat_zero,Nat.shiftLeft_zero,Int.toNat_natCast];have e2:((n.natAbs*2^t:Nat):Int)=(n.natAbs:Int)*2^t:=by push_cast;rfl
  rw [hK,e2];cases s with
  | true=>
   have:=rs rfl;simp only [if_true];rw [←Int.neg_mul];congr 1
   omega
  | false=>
   have:=rs2 rfl;simp only [Bool.false_eq_true,if_false];congr 1
   omega
 unfold Ieee.Format.write Ieee.Format.nearest;simp only;by_cases hm:m=0
 · rw [if_pos hm];have hn0:n=0:=by
    rw [hm,Nat.zero_mul] at ra;have:=Nat.two_pow_pos v;have:n.natAbs=0:=by
     rcases Nat.mul_eq_zero.1 ra.symm with h|h<;>omega
    omega
   subst hn0;refine ⟨s,0,-1074,-1074,?_,Int.le_refl _,by decide,?_⟩
   · cases s<;>decide
   · rw [Int.zero_mul];unfold Ieee.signed;rw [Nat.zero_shiftLeft];cases s<;>rfl
 · rw [if_neg hm];have hN:0<n.natAbs:=by
    apply Nat.pos_of_ne_zero;intro h0;rw [h0,Nat.zero_mul] at ra;have:=Nat.two_pow_pos u;rcases Nat.mul_eq_zero.1 ra with h|h<;>omega
   have hl:=congrArg Nat.log2 ra;rw [log2_mul_two m xo,log2_mul_two n.natAbs hN] at hl;have hN52:n.natAbs.log2≤52:=by
    have:n.natAbs.log2<53:=(Nat.log2_lt xo).2 (by simpa using hn);omega
   obtain ⟨t,ht⟩:∃t:Nat,52-n.natAbs.log2=t:=⟨_,rfl⟩
   have hlast:max (e+(m.log2:Int)-(Ieee.double.fractionBits:Nat)) Ieee.double.leastPlace= -(t:Int):=by
    have e4:Ieee.double.leastPlace= -1074:=by decide
    have e5:((Ieee.double.fractionBits:Nat):Int)=52:=by decide
    rw [e4,e5];omega
   rw [hlast]
   have hkept:Ieee.Toward.cut .even s (m <<< (e - -(t:Int)).toNat) (-(t:Int)-e).toNat=n.natAbs*2^t:=by
    rw [Nat.shiftLeft_eq];by_cases hc: -(t:Int)≤e
    · rw [show (-(t:Int)-e).toNat=0 by omega,cut_none];rcases huv with h|h
      · subst h;rw [Nat.pow_zero,Nat.mul_one] at ra;rw [ra,Nat.mul_assoc,←Nat.pow_add];congr 2
        omega
      · subst h;rw [Nat.pow_zero,Nat.mul_one] at ra;rw [←ra,Nat.mul_assoc,←Nat.pow_add];congr 2
        omega
    · rw [show (e - -(t:Int)).toNat=0 by omega,Nat.pow_zero,Nat.mul_one];obtain ⟨dp,hdp⟩:∃dp,(-(t:Int)-e).toNat=dp:=⟨_,rfl⟩
      rw [hdp];have hu0:u=0:=xo;subst hu0;rw [Nat.pow_zero,Nat.mul_one] at ra;have em:m=(n.natAbs*2^t)*2^dp:=by
       rw [ra,Nat.mul_assoc,←Nat.pow_add];congr 2
       omega
      rw [em];exact cut_exact s _ dp
   rw [hkept];have hK1:4503599627370496≤n.natAbs*2^t∧n.natAbs*2^t<9007199254740992:=by
    have h1:2^n.natAbs.log2≤n.natAbs:=(Nat.le_log2 xo).1 (Nat.le_refl _);have h2:n.natAbs<2^(n.natAbs.log2+1):=(Nat.log2_lt xo).1 (Nat.lt_succ_self _);have hp:=Nat.two_pow_pos t;constructor
    · have:=Nat.mul_le_mul_right (2^t) h1;rw [←Nat.pow_add,show n.natAbs.log2+t=52 by omega] at this;exact this
    · have:=(Nat.mul_lt_mul_right hp).2 h2;rw [←Nat.pow_add,show n.natAbs.log2+1+t=53 by omega] at this;exact this
   have e3:Ieee.double.binade=4503599627370496:=by decide
   have e4:(-(t:Int)-Ieee.double.leastPlace).toNat=1074-t:=by
    have e4:Ieee.double.leastPlace= -1074:=by decide
    rw [e4];omega
   rw [e3,e4,read_rung xo hK1.1 hK1.2];exact hsn _ t rfl
theorem read_neg (x:Nat):Ieee.double.read (x ^^^ 2^63)=(Ieee.double.read x).opposite:=by
 have e2:Ieee.double.signWeight=2^63:=by decide
 have h1:((x ^^^ 2^63)/Ieee.double.signWeight%2==1)= !(x/Ieee.double.signWeight%2==1):=by
  rw [e2];have t:∀y:Nat,(y/2^63%2==1)=y.testBit 63:=fun y=>by
   rw [Nat.testBit_eq_decide_div_mod_eq];rfl
  rw [t,t,Nat.testBit_xor,Nat.testBit_two_pow_self];simp
 have h2:(x ^^^ 2^63)%Ieee.double.signWeight=x%Ieee.double.signWeight:=by
  rw [e2];apply Nat.eq_of_testBit_eq;intro i;rw [Nat.testBit_mod_two_pow,Nat.testBit_mod_two_pow,Nat.testBit_xor,Nat.testBit_two_pow];by_cases h:i<63
  · have:¬63=i:=xo;simp [this]
  · simp [h]
 unfold Ieee.Format.read;simp only [h1,h2];split
 · rfl
 · split
   · rfl
   · split<;>rfl
theorem rep_neg {x:Nat} {n:Int} (h:Rep (Ieee.double.read x) n):Rep (Ieee.double.read (x ^^^ 2^63)) (-n):=by
 rw [read_neg];exact rep_opposite h
theorem rep_of (n:Int) (hn:n.natAbs<9007199254740992):Rep (Ieee.double.read (floatOfInt .f64 n)) n:=by
 refine rep_write (d:= .number (n<0) n.natAbs 0) ⟨_,_,0,0,rfl,Int.le_refl _,Int.le_refl _,?_⟩ hn;unfold Ieee.signed;by_cases h:n<0
 · simp [h];omega
 · simp [h];omega
theorem f64_mul {x y:Nat} {n m:Int} (hx:Rep (Ieee.double.read x) n) (hy:Rep (Ieee.double.read y) m) (h:(n*m).natAbs<9007199254740992):∃r,floatBits .mul .f64 x y=some r∧Rep (Ieee.double.read r) (n*m):=by
 obtain ⟨d,h1,h2⟩:=rep_product hx hy;exact ⟨_,by show ((Ieee.double.read x).product (Ieee.double.read y)).map _=_;rw [h1];rfl,rep_write h2 h⟩
theorem f64_add {x y:Nat} {n m:Int} (hx:Rep (Ieee.double.read x) n) (hy:Rep (Ieee.double.read y) m) (h:(n+m).natAbs<9007199254740992):∃r,floatBits .add .f64 x y=some r∧Rep (Ieee.double.read r) (n+m):=by
 obtain ⟨d,h1,h2⟩:=rep_sum hx hy;exact ⟨_,by show ((Ieee.double.read x).sum (Ieee.double.read y)).map _=_;rw [h1];rfl,rep_write h2 h⟩
theorem f64_sub {x y:Nat} {n m:Int} (hx:Rep (Ieee.double.read x) n) (hy:Rep (Ieee.double.read y) m) (h:(n-m).natAbs<9007199254740992):∃r,floatBits .sub .f64 x y=some r∧Rep (Ieee.double.read r) (n-m):=by
 obtain ⟨d,h1,h2⟩:=rep_sum hx (rep_opposite hy);rw [←Int.sub_eq_add_neg] at h2;exact ⟨_,by show ((Ieee.double.read x).sum (Ieee.double.read y).opposite).map _=_;rw [h1];rfl,rep_write h2 h⟩
theorem abs_mul_lt {a b:Int} (ha:a.natAbs<67108864) (hb:b.natAbs<67108864):(a*b).natAbs<4503599627370496:=by
 rw [Int.natAbs_mul];have h1:a.natAbs*b.natAbs≤67108863*67108863:=Nat.mul_le_mul xo xo;omega
theorem cross_bits {a b c d:Nat} {A B C D:Int} (ha:Rep (Ieee.double.read a) A) (hb:Rep (Ieee.double.read b) B) (hc:Rep (Ieee.double.read c) C) (hd:Rep (Ieee.double.read d) D)
    (bA:A.natAbs<67108864) (bB:B.natAbs<67108864) (bC:C.natAbs<67108864) (bD:D.natAbs<67108864):
    ∃re im,cMulBits a b c (d ^^^ 2^63)=some (re,im)∧Rep (Ieee.double.read im) (B*C-A*D):=by
 have hd':=rep_neg hd;have bD':(-D).natAbs<67108864:=xo;have p1:=abs_mul_lt bA bC;have p2:=abs_mul_lt bB bD';have p3:=abs_mul_lt bA bD';have p4:=abs_mul_lt bB bC;obtain ⟨ac,e1,r1⟩:=f64_mul ha hc xo;obtain ⟨bd,e2,r2⟩:=f64_mul hb hd' xo;obtain ⟨re,e3,r3⟩:=f64_sub r1 r2 xo;obtain ⟨ad,e4,r4⟩:=f64_mul ha hd' xo;obtain ⟨bc,e5,r5⟩:=f64_mul hb hc xo;obtain ⟨im,e6,r6⟩:=f64_add r4 r5 xo;refine ⟨re,im,?_,?_⟩
 · unfold cMulBits;simp only [e1,e2,e3,e4,e5,e6,Option.bind_some]
 · rw [show B*C-A*D=A * -D+B*C by rw [Int.mul_neg];omega];exact r6
theorem order_zero {x:Nat} {n:Int} (h:Rep (Ieee.double.read x) n):Ieee.double.order x 0=some (compare n 0):=by
 have h0:Rep (Ieee.double.read 0) 0:=by
  refine ⟨false,0,-1074,-1074,by decide,Int.le_refl _,by decide,?_⟩;rw [Int.zero_mul];unfold Ieee.signed;rw [Nat.zero_shiftLeft];rfl
 exact rep_order h h0
end
section
open Go.RowKit
theorem row_alloc (k:IntKind) (w:World) (xs:List Int) (t:TypeId):IsRow k (w.alloc (.cells (xs.map (Value.int k)).toArray t)) (some ⟨w.heap.size,0,none⟩) xs:=by
 intro i hi;refine ⟨w.heap.size,0,rfl,by simp,fun j hj=> ?_⟩;rw [World.cell?_alloc_at _ _ _ _ rfl,Nat.zero_add];simp [List.getD_eq_getElem?_getD,hj]
theorem small_ok (xs:List Int) (ca:Nat) (hl:xs.length≤100) (p:Option Addr) (w:World) (hw:IsRow .i64 w p xs) (hs:∀i,-67108864<xs.getD i 0∧xs.getD i 0<67108864):
    Calls Tryz.prog 155 #[.slice p xs.length ca] w fun e w'=>e= .returned (.bool true)∧w=w':=by
 have HW:=hid hw;have HS:=hid hs;obtain ⟨m,hm⟩:∃m,xs.length=m:=⟨_,rfl⟩
 have HM:=hid hm;rw [hm] at hl ⊢;clear hw hs hm;go_enter Tryz.func155,Tryz.ntmps155
 go_wp2
 go_loopg [7] m (fun gk iv wr=>∃i:Nat,i+gk=m∧iv= .int .i64 i∧wr=w)
 case atStart=>exact ⟨0,by omega,rfl,rfl⟩
 case round=>
  obtain ⟨i,hi,rfl,rfl⟩:=hrel;by_cases hlt:i<m
  · obtain ⟨b,off,x,rfl,hx,hc,-⟩:=HW.out.get (i:=i) (by rw [HM.out];exact hlt);have hb:=HS.out i;rw [hx.out] at hb;obtain ⟨hb1,hb2⟩:=hb;clear hx;go_wp2
    go_roundg (gk-1)
    case measure=>omega
    case rel=>exact ⟨i+1,by omega,by go_num,rfl⟩
  · go_wp2
    go_ret
    exact ⟨rfl,rfl⟩
def IsBools (w:World) (b:Nat) (l:List Bool):Prop:=∀i,i<l.length→w.cell? ⟨b,i,none⟩=some (.bool (l.getD i false))
theorem bools_alloc (w:World) (l:List Bool) (t:TypeId):IsBools (w.alloc (.cells (l.map Value.bool).toArray t)) w.heap.size l:=by
 intro i hi;rw [World.cell?_alloc_at _ _ _ _ rfl];simp [List.getD_eq_getElem?_getD,hi]
theorem all_ok (l:List Bool) (ca b:Nat) (hl:l.length≤100) (w:World) (hw:IsBools w b l):
    Calls Tryz.prog 112 #[.slice (some ⟨b,0,none⟩) l.length ca] w fun e w'=>e= .returned (.bool (l.all id))∧w=w':=by
 have HW:=hid hw;obtain ⟨m,hm⟩:∃m,l.length=m:=⟨_,rfl⟩
 have HM:=hid hm;obtain ⟨z,hz⟩:∃z,l.all id=z:=⟨_,rfl⟩
 have HZ:=hid hz;rw [hm] at hl ⊢;rw [hz];clear hw hm hz;go_enter Tryz.func112,Tryz.ntmps112
 go_wp2
 go_loopg [7] m (fun gk iv wr=>∃i:Nat,i+gk=m∧iv= .int .i64 i∧wr=w∧Hid (∀j,j<i→l.getD j false=true))
 case atStart=>exact ⟨0,by omega,rfl,rfl,hid fun j hj=>by omega⟩
 case round=>
  obtain ⟨i,hi,rfl,rfl,HF⟩:=hrel;by_cases hlt:i<m
  · have hc:=HW.out i (by rw [HM.out];exact hlt);cases hb:l.getD i false with
    | true=>
     rw [hb] at hc;have HB:=hid hb;clear hb;go_wp2
     go_roundg (gk-1)
     case measure=>omega
     case rel=>
      refine ⟨i+1,by omega,by go_num,rfl,hid fun j hj=> ?_⟩;by_cases e:j=i
      · rw [e];exact HB.out
      · exact HF.out j xo
    | false=>
     rw [hb] at hc;have hzf:z=false:=by
      rw [←HZ.out,List.all_eq_false];have hlm:i<l.length:=by rw [HM.out];exact hlt
      refine ⟨l[i],List.getElem_mem _,?_⟩;rw [List.getD_eq_getElem?_getD,List.getElem?_eq_getElem hlm,Option.getD_some] at hb;simp [hb]
     subst hzf;clear hb;go_wp2
     go_ret
     exact ⟨rfl,rfl⟩
  · have hzt:z=true:=by
      rw [←HZ.out,List.all_eq_true];intro x hx;obtain ⟨j,hj,rfl⟩:=List.mem_iff_getElem.1 hx;have:=HF.out j (by rw [HM.out] at hj;omega);rw [List.getD_eq_getElem?_getD,List.getElem?_eq_getElem hj,Option.getD_some] at this;exact this
    subst hzt;go_wp2
    go_ret
    exact ⟨rfl,rfl⟩
theorem cpower_ok (n lo hi:Int) (hh:hi≤9223372036854775807) (w:World):
    Calls Tryz.prog 113 #[.int .i64 n,.int .i64 lo,.int .i64 hi] w fun e w'=>e= .returned (.bool (powB n lo hi))∧w=w':=by
 by_cases c1:lo≤n
 · by_cases c2:n≤hi
   · have e:powB n lo hi=pwB n:=by simp [powB,c1,c2]
     rw [e];have PW:=hid (fun w=>Power_ok n xo w);generalize pwB n=b at *;clear e;go_enter Tryz.func113,Tryz.ntmps113
     go_wp2_with (go_at_call 140;refine (PW.out _).mono ?_;rintro e w' ⟨rfl,rfl⟩)
     go_ret
     exact ⟨rfl,rfl⟩
   · have e:powB n lo hi=false:=by simp [powB,c2]
     rw [e];clear e;go_enter Tryz.func113,Tryz.ntmps113
     go_wp2
     go_ret
     exact ⟨rfl,rfl⟩
 · have e:powB n lo hi=false:=by simp [powB,c1]
   rw [e];clear e;go_enter Tryz.func113,Tryz.ntmps113
   go_wp2
   go_ret
   exact ⟨rfl,rfl⟩
def SmI (n:Int):Prop:= -67108864<n∧n<67108864
theorem sm4 {a b c d:Int} (ha:SmI a) (hb:SmI b) (hc:SmI c) (hd:SmI d):∀i,-67108864 < [a,b,c,d].getD i 0∧ [a,b,c,d].getD i 0<67108864
  | 0=>ha
  | 1=>hb
  | 2=>hc
  | 3=>hd
  | _+4=>by simp
theorem Between_ok (a b c d:Int) (ha:SmI a) (hb:SmI b) (hc:SmI c) (hd:SmI d) (h1:1≤d) (h2:0≤c) (h3:c≤d) (r:Int) (hr:a*d+(b-a)*c=r) (w1:IntKind.i64.wrap (a*d)=a*d) (w2:IntKind.i64.wrap ((b-a)*c)=(b-a)*c) (w3:IntKind.i64.wrap (a*d+(b-a)*c)=a*d+(b-a)*c) (w4:IntKind.i64.wrap (b-a)=b-a) (w:World):
    Calls Tryz.prog 150 #[.int .i64 a,.int .i64 b,.int .i64 c,.int .i64 d] w (AnsB w (.tuple #[.int .i64 r,.int .i64 0])):=by
 have SM:=hid (fun W hw=>small_ok [a,b,c,d] 4 xsi (some ⟨w.heap.size,0,none⟩) W hw (sm4 ha hb hc hd));have HR:=hid hr;clear ha hb hc hd hr;go_enter Tryz.func150,Tryz.ntmps150
 go_wp2_with fail
 refine (SM.out _ (row_alloc .i64 w [a,b,c,d] _)).mono ?_;rintro e w' ⟨rfl,rfl⟩;go_wp2
 go_ret2
 exact ⟨by rw [←HR.out];rfl,br.alloc (Nat.le_refl _) _⟩
theorem Cross_ok (a b c d:Int) (ha:SmI a) (hb:SmI b) (hc:SmI c) (hd:SmI d) (w:World):
    Calls Tryz.prog 141 #[.int .i64 a,.int .i64 b,.int .i64 c,.int .i64 d] w (AnsB w (.tuple #[.int .i64 (crossV a b c d),.int .i64 0])):=by
 have ba:a.natAbs<67108864:=by have:=ha.1;have:=ha.2;omega
 have bb:b.natAbs<67108864:=by have:=hb.1;have:=hb.2;omega
 have bc:c.natAbs<67108864:=by have:=hc.1;have:=hc.2;omega
 have bd:d.natAbs<67108864:=by have:=hd.1;have:=hd.2;omega
 obtain ⟨re,im,hm,hi⟩:=cross_bits (rep_of a xo) (rep_of b xo) (rep_of c xo) (rep_of d xo) ba bb bc bd;have ho:=order_zero hi;rw [show (2:Nat)^63=9223372036854775808 by decide] at hm;have hop:=fun t w=>run_complex_mul (P:=Tryz.prog) w t _ _ _ _ re im hm
 have hng:∀x:Nat,Op.unary .neg (.float .f64 x)=pure (.float .f64 (x ^^^ 9223372036854775808)):=fun _=>rfl
 have SM:=hid (fun W hw=>small_ok [a,b,c,d] 4 xsi (some ⟨w.heap.size,0,none⟩) W hw (sm4 ha hb hc hd));unfold crossV;generalize b*c-a*d=z at *;clear ha hb hc hd ba bb bc bd hm hi;have hgt:∀t,binOp .gtr t (.float .f64 im) (.float .f64 0)=pure (.bool (decide (0<z))):=fun t=>by
  rw [binOp_float_cmp_gtr,show FloatKind.f64.format.order im 0=some (compare z 0) from ho];congr 2
  rcases Int.lt_trichotomy z 0 with h|h|h
  · rw [show compare z 0= .lt by simp [compare,compareOfLessAndEq,h]];simp;omega
  · subst h;rfl
  · rw [show compare z 0= .gt by simp [compare,compareOfLessAndEq,show ¬z<0 by omega,show ¬z=0 by omega]];simp;omega
 have hlt:∀t,binOp .lss t (.float .f64 im) (.float .f64 0)=pure (.bool (decide (z<0))):=fun t=>by
  rw [binOp_float_cmp_lss,show FloatKind.f64.format.order im 0=some (compare z 0) from ho];congr 2
  rcases Int.lt_trichotomy z 0 with h|h|h
  · rw [show compare z 0= .lt by simp [compare,compareOfLessAndEq,h]];simp;omega
  · subst h;rfl
  · rw [show compare z 0= .gt by simp [compare,compareOfLessAndEq,show ¬z<0 by omega,show ¬z=0 by omega]];simp;omega
 clear ho;by_cases c1:0<z
 · rw [if_pos c1];go_enter Tryz.func141,Tryz.ntmps141
   go_wp2_with fail
   refine (SM.out _ (row_alloc .i64 w [a,b,c,d] _)).mono ?_;rintro e w' ⟨rfl,rfl⟩;go_wp2_with (first|(simp only [hop])|(simp only [hng])|(simp only [hgt])|(simp only [hlt]))
   go_ret2
   exact ⟨rfl,br.alloc (Nat.le_refl _) _⟩
 · rw [if_neg c1];by_cases c2:z<0
   · rw [if_pos c2];go_enter Tryz.func141,Tryz.ntmps141
     go_wp2_with fail
     refine (SM.out _ (row_alloc .i64 w [a,b,c,d] _)).mono ?_;rintro e w' ⟨rfl,rfl⟩;go_wp2_with (first|(simp only [hop])|(simp only [hng])|(simp only [hgt])|(simp only [hlt]))
     go_ret2
     exact ⟨rfl,br.alloc (Nat.le_refl _) _⟩
   · rw [if_neg c2];go_enter Tryz.func141,Tryz.ntmps141
     go_wp2_with fail
     refine (SM.out _ (row_alloc .i64 w [a,b,c,d] _)).mono ?_;rintro e w' ⟨rfl,rfl⟩;go_wp2_with (first|(simp only [hop])|(simp only [hng])|(simp only [hgt])|(simp only [hlt]))
     go_ret2
     exact ⟨rfl,br.alloc (Nat.le_refl _) _⟩
end
section
open Go.RowKit Go.Shelf
attribute [local go_sem] Oper.semAt_some
theorem mul_bd {a b A B:Int} (h0:0≤a) (h1:a≤A) (h2:0≤b) (h3:b≤B):0≤a*b∧a*b≤A*B:=
  ⟨Int.mul_nonneg h0 h2,Int.mul_le_mul h1 h3 h2 (Int.le_trans h0 h1)⟩
theorem cfHead_num {c:Cfg} (h:cfHead c=true):1≤c.tag∧c.tag≤3∧1≤c.most∧c.most≤16384∧4≤c.seg∧c.seg≤64∧c.seg≤c.least∧c.least≤256∧1≤c.den∧c.den≤64∧0≤c.ll∧c.ll<c.rl∧c.rl<c.rh∧c.rh<c.lh∧c.lh≤c.den∧c.den≤2*c.rh∧8*c.rl≤c.den∧2*c.den≤c.rl*c.least∧c.rl*c.least≤64*256∧0≤c.rl*c.least:=by
 obtain ⟨h1,h2,h3,h4,h5,h6,h7,h8,h9,h10,h11,h12,h13,h14,h15,h16⟩:=cfHead_facts h;have s:=powB_iff.1 h5;have l:=powB_iff.1 h6;have q:=mul_bd (show 0≤c.rl by omega) (show c.rl≤64 by omega) (show 0≤c.least by omega) l.2.1;exact ⟨h1,h2,h3,h4,s.1,s.2.1,l.1,l.2.1,h7,h8,h9,h10,h11,h12,h13,h14,h15,h16,q.2,q.1⟩
theorem taks_bd {c:Cfg} (h:cfHead c=true) {n:Int} (h0:0≤n) (h1:n≤16384):1≤taks c n∧taks c n≤65536∧c.least≤taks c n:=by
 have f:=cfHead_num h;have a:=takF_bd (c:=c) (n:=n) 20 c.least xo;have b:=takF_le (c:=c) (n:=n) xo xo h0 20 c.least 65536 xo xo;unfold taks;exact ⟨by omega,b,a.1⟩
theorem htC_bd {c:Cfg} (h:1≤c.seg) {size:Int} (h0:0≤size) (h1:size≤65536):htC c size≤16:=by
 have hq0:0≤size/c.seg:=Int.ediv_nonneg h0 xo;have hq1:size/c.seg≤65536:=Int.le_trans (Int.ediv_le_self _ h0) h1;unfold htC;generalize size/c.seg=q at *;by_cases hz:q.toNat=0
 · rw [hz];decide
 · have:q.toNat.log2<17:=(Nat.log2_lt hz).2 xo;omega
theorem wdC_bd {c:Cfg} {a H h:Nat} (hs:c.seg=((2^a:Nat):Int)) (hb:2^a*2^H≤65536) (hh:h≤H):0≤wdC c h∧wdC c h≤65536:=by
 have e:wdC c h=((2^a*2^h:Nat):Int):=by rw [wdC,hs];push_cast;rfl
 have:2^a*2^h≤2^a*2^H:=Nat.mul_le_mul_left _ (Nat.pow_le_pow_right xo hh);rw [e];omega
theorem tak_turn {c:Cfg} {n size T X Y:Int} {k:Nat} (hX:n*c.den=X) (hY:c.rh*size=Y) (h0:0≤n) (h1:n≤16384) (h6:1≤c.rh) (h8:c.den≤2*c.rh) (hK:takF c n k size=T∧X≤size*2^k) (z0:0≤size) (hY2:size≤Y):
    (¬Y<X→size=T)∧(Y<X→size≤32768∧∃j,k=j+1∧takF c n j (2*size)=T∧X≤2*size*2^j):=by
 obtain ⟨k1,k2⟩:=hK;constructor
 · intro hlt;rw [takF_done (by rw [hX,hY];exact hlt)] at k1;exact k1
 · intro hlt;constructor
   · have h9:n*c.den≤n*(2*c.rh):=Int.mul_le_mul_of_nonneg_left h8 h0;have h10:n*(2*c.rh)=c.rh*(2*n):=by rw [Int.mul_comm n,Int.mul_assoc,Int.mul_left_comm]
     have:=Int.lt_of_mul_lt_mul_left (show c.rh*size<c.rh*(2*n) by omega) xo;omega
   · cases k with
     | zero=>
      simp at k2;omega
     | succ j=>
      rw [takF,if_pos (by rw [hX,hY];exact hlt)] at k1;refine ⟨j,rfl,k1,?_⟩;rw [Int.pow_succ] at k2;have:2*size*2^j=size*(2^j*2):=by rw [Int.mul_comm 2 size,Int.mul_assoc,Int.mul_comm 2]
      omega
theorem tak_start {c:Cfg} {n:Int} (h0:0≤n) (h1:n≤16384) (h2:1≤c.least) (h4:1≤c.den) (h5:c.den≤64):n*c.den≤c.least*2^20∧0≤n*c.den∧n*c.den≤16384*64:=by
 have m:=mul_bd h0 h1 (show 0≤c.den by omega) h5;have:=Int.mul_le_mul_of_nonneg_right h2 (show (0:Int)≤2^20 by decide);have e:(2:Int)^20=1048576:=by decide
 rw [e] at this ⊢;exact ⟨by omega,m⟩
theorem takes_ok (c:Cfg) (hc:cfHead c=true) (n:Int) (h0:0≤n) (h1:n≤16384) (w:World):
    Calls Tryz.prog 115 #[.agg #[.int .u8 c.tag,.int .i64 c.most,.int .i64 c.seg,.int .i64 c.least,.int .i64 c.den,.int .i64 c.ll,.int .i64 c.rl,.int .i64 c.rh,.int .i64 c.lh],.int .i64 n] w (AnsB w (.int .i64 (taks c n))):=by
 obtain ⟨d0,d1,d2,d3,d4,d5,d6,d7,d8,d9,d10,d11,d12,d13,d14,d15,d16,d17⟩:=cfHead_num hc;obtain ⟨s1,s2,s3⟩:=tak_start (c:=c) h0 h1 xo d8 d9;have HQ:=hid (And.intro h0 (And.intro h1 (And.intro (show 1≤c.rh by omega) d15)));unfold taks;obtain ⟨T,hT⟩:∃T,takF c n 20 c.least=T:=⟨_,rfl⟩
 rw [hT];have HT:=hid hT;obtain ⟨X,hX⟩:∃X,n*c.den=X:=⟨_,rfl⟩
 rw [hX] at s1 s2 s3;have HX:=hid hX;have H1:=hid s1;have hl1:1≤c.least:=xo;have hrb:1≤c.rh∧c.rh≤64:=xo;clear hT hX s1 hc d17;obtain ⟨hr1,hr2⟩:=hrb;have CR:=hid (fun size (z0:SmI size) W=>Cross_ok n size c.rh c.den ⟨by omega,by omega⟩ z0 ⟨by omega,by omega⟩ ⟨by omega,by omega⟩ W);generalize hrh:c.rh=rh at *;generalize hden:c.den=den at *;generalize hle:c.least=le at *;have HE:=hid (And.intro hrh (And.intro hden hle));clear hrh hden hle;go_enter Tryz.func115,Tryz.ntmps115
 go_wp2
 refine wp_scope_loop 0 (fun g a' w'=>∃size:Int,(∃u:Nat→Value,a'= {tmps:= #[.agg #[.int .u8 c.tag,.int .i64 c.most,.int .i64 c.seg,.int .i64 le,.int .i64 den,.int .i64 c.ll,.int .i64 c.rl,.int .i64 rh,.int .i64 c.lh],.int .i64 n,.pointer (some ⟨w.heap.size,0,none⟩),u 3,u 4,.int .i64 size,u 6,u 7,u 8,u 9,u 10,u 11,u 12,u 13,u 14,u 15,u 16,u 17,u 18,u 19,u 20,u 21,u 22,u 23,u 24],defers:=[]})∧Hid (Below w.heap.size w w')∧w.heap.size<w'.heap.size∧w'.cell? ⟨w.heap.size,7,none⟩=some (.int .i64 rh)∧w'.cell? ⟨w.heap.size,4,none⟩=some (.int .i64 den)∧0≤size∧size≤65536∧Hid (takF c n g size=T∧X≤size*2^g)) rfl ?_ ?_
 · rintro g a wo ⟨size,⟨u,rfl⟩,HB,hz,c7,c4,z0,z1,HK⟩ H hH;obtain ⟨Y,hY⟩:∃Y,rh*size=Y:=⟨_,rfl⟩
   have hY2:size≤Y:=by
    rw [←hY];have a2:=Int.mul_le_mul_of_nonneg_right hr1 z0;omega
   have tt:=tak_turn (by rw [HE.out.2.1];exact HX.out) (by rw [HE.out.1];exact hY) HQ.out.1 HQ.out.2.1 (by have:=HQ.out.2.2.1;have:=HE.out;omega) (by have:=HQ.out.2.2.2;have:=HE.out;omega) HK.out z0 hY2;have cv:crossV n size rh den=if Y<X then 1 else if X<Y then -1 else 0:=by
    unfold crossV;have e1:size*rh=Y:=by rw [Int.mul_comm];exact hY
    have e2:n*den=X:=HX.out;rw [e1,e2];split<;>split<;>(try split)<;>first|rfl|omega
   have C1:=hid (CR.out size ⟨by omega,by omega⟩);rw [cv] at C1;clear CR cv hY hY2 HK;have hzw:=HB.out.size;by_cases hlt:Y<X
   · rw [if_pos hlt] at C1;obtain ⟨hs,j,rfl,hj⟩:=tt.2 hlt;have HJ:=hid hj;clear tt hj;go_wp2_with fail
     refine (C1.out _).mono ?_;rintro e w1 ⟨rfl,hb1⟩;have b7:=(hb1.cell (p:=⟨w.heap.size,7,none⟩) hz).trans c7;have b4:=(hb1.cell (p:=⟨w.heap.size,4,none⟩) hz).trans c4;have hz1:=hb1.size;have HB1:=hid (below_via hb1 HB.out hzw);clear hb1 c7 c4;go_wp2
     refine wp_goto ?_;refine show (0=0∧H _ _) from ⟨rfl,hH j _ _ xo ⟨2*size,frame_mk _ _ _ ?_,HB1,by omega,b7,b4,by omega,by omega,HJ⟩⟩
     rw [show 2*size=size*2 by omega];rfl
   · rw [if_neg hlt] at C1;have hfin:=tt.1 hlt;subst hfin;clear tt;obtain ⟨v,hv⟩:∃v:Int,(if X<Y then (-1:Int) else 0)=v:=⟨_,rfl⟩
     have hv0:v≤0:=by rw [←hv];split<;>omega
     rw [hv] at C1;clear hv;go_wp2_with fail
     refine (C1.out _).mono ?_;rintro e w1 ⟨rfl,hb1⟩;have HB1:=hid (below_via hb1 HB.out hzw);clear hb1;go_wp2
     simp only [Exit.jump];go_ret
     exact ⟨rfl,HB1.out⟩
 · intro H hH hpass;go_wp2
   refine wp_label ?_;go_step
   go_step
   refine hpass 20 _ _ ?_;refine ⟨le,frame_mk _ _ _ rfl,hid (br.alloc (Nat.le_refl _) _),by simp,by rw [World.cell?_alloc_at _ _ _ _ rfl];rfl,by rw [World.cell?_alloc_at _ _ _ _ rfl];rfl,by omega,by omega,hid ⟨HT.out,H1.out⟩⟩
theorem height_ok (c:Cfg) (size:Int) (h0:c.seg≤size) (h1:size≤65536) (h2:1≤c.seg) (w:World):
    Calls Tryz.prog 114 #[.agg #[.int .u8 c.tag,.int .i64 c.most,.int .i64 c.seg,.int .i64 c.least,.int .i64 c.den,.int .i64 c.ll,.int .i64 c.rl,.int .i64 c.rh,.int .i64 c.lh],.int .i64 size] w (AnsB w (.int .i64 (htC c size:Nat))):=by
 have hq0:1≤size/c.seg:=by
  have:=Int.ediv_le_ediv (c:=c.seg) xo h0;rwa [Int.ediv_self xo] at this
 have hq1:size/c.seg≤65536:=Int.le_trans (Int.ediv_le_self _ xo) h1;have hq2:size.tdiv c.seg=size/c.seg:=Int.tdiv_eq_ediv_of_nonneg xo;have hs0:(c.seg==0)=false:=by simp;omega
 unfold htC;generalize size/c.seg=q at *;obtain ⟨m,rfl⟩:=Int.eq_ofNat_of_zero_le (show 0≤q by omega);rw [Int.toNat_natCast];have LG:=hid (fun w=>Down_ok m m rfl xo xo w);generalize m.log2=z at *;have hwm:IntKind.i64.wrap (m:Int)=(m:Int):=IntWalk.i64_in _ xo;go_enter Tryz.func114,Tryz.ntmps114
 go_wp2_with (go_at_call 81;refine (LG.out _).mono ?_;rintro e w' ⟨rfl,rfl⟩)
 go_ret
 exact ⟨rfl,br.alloc (Nat.le_refl _) _⟩
end
end Go.Proofs.YtbedhbpgnfffmaaGreat

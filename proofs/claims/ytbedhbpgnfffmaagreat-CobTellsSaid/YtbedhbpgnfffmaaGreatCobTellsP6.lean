/- Merged: IdxLaw, Split, DownLaw, LeafLaw, HomLaw, DownPl, Find, IdxTwin, IdxFns, IdxLeaf, HeapFirst, Tree18. -/
import Derived.Test.YtbedhbpgnfffmaaGreatCobTellsP5
import Derived.Test.YtbedhbpgnfffmaaGreatCobTellsP3
import Derived.Test.YtbedhbpgnfffmaaGreatCobTellsP1
import Derived.Test.YtbedhbpgnfffmaaGreatCobTellsP2
namespace Go.Proofs.YtbedhbpgnfffmaaGreat
set_option maxRecDepth 100000
set_option maxHeartbeats 40000000
set_option linter.unusedVariables false
set_option linter.unusedSimpArgs false
section
open Go.RowKit
def tellT (l:List (Int×Int)):Int×Int:=if l=[] then (0,0) else ((l.getD (l.length-1) (0,0)).1,(l.length:Nat))
theorem leafT_tell (c:SlC) (k:Nat):leafT c k=tellT (prs c (k*c.seg.toNat) ((k+1)*c.seg.toNat)):=rfl
theorem tellT_cnt (l:List (Int×Int)):(tellT l).2=l.length:=by
 unfold tellT;split
 · rename_i h;rw [h];rfl
 · rfl
theorem tellT_max {l:List (Int×Int)} (h:l≠ []):(tellT l).1=(l.getD (l.length-1) (0,0)).1:=by rw [tellT,if_neg h]
theorem plsW_append (ws:List Int) {a b d:Nat} (h1:a≤b) (h2:b≤d):plsW ws a b++plsW ws b d=plsW ws a d:=by
 unfold plsW;rw [←List.filter_append];congr 1
 have:=List.range'_append_1 (s:=a) (m:=b-a) (n:=d-b);rw [show a+(b-a)=b by omega,show b-a+(d-b)=d-a by omega] at this;exact this
theorem prs_append (c:SlC) {a b d:Nat} (h1:a≤b) (h2:b≤d):prs c a b++prs c b d=prs c a d:=by
 unfold prs;rw [←List.map_append,plsW_append c.ws h1 h2]
theorem tell_append (a b:List (Int×Int)):tellT (a++b)=abvT (tellT a) (tellT b):=by
 by_cases hb:b=[]
 · subst hb;rw [List.append_nil,abvT,tellT_cnt,tellT_cnt];simp only [abM,abC,List.length_nil,Int.ofNat_zero,Int.lt_irrefl,if_false,Int.natCast_zero];rw [←tellT_cnt]
 · have hl:0<b.length:=List.length_pos_iff.2 hb;have hne:a++b≠ []:=by simp [hb]
   rw [abvT,tellT_cnt,tellT_cnt,tellT_max hb];simp only [abM,abC];rw [if_pos xo,if_pos xo];refine Prod.ext ?_ ?_
   · rw [tellT_max hne];dsimp only;rw [List.length_append,List.getD_eq_getElem?_getD,List.getElem?_append_right xo,show a.length+b.length-1-a.length=b.length-1 by omega,←List.getD_eq_getElem?_getD]
   · rw [tellT_cnt,List.length_append];dsimp only;push_cast
     rfl
def Ris (l:List (Int×Int)):Prop:=l.Pairwise fun p q=>p.1<q.1
theorem ris_of {l:List (Int×Int)} (h:risB l=true):Ris l:=by
 unfold risB at h;rw [List.all_eq_true] at h;have h1:∀i,i+1<l.length→(l.getD i (0,0)).1<(l.getD (i+1) (0,0)).1:=fun i hi=>by
  have:=h (i+1) (List.mem_range.2 hi);simpa [risAt] using this
 have h2:∀j i,i<j→j<l.length→(l.getD i (0,0)).1<(l.getD j (0,0)).1:=by
  intro j;induction j with
  | zero=>intro i hi;omega
  | succ j ih=>
   intro i hi hj;have:=h1 j hj;by_cases e:i=j
   · subst e;exact this
   · have:=ih i xo xo;omega
 refine List.pairwise_iff_getElem.2 fun i j hi hj hij=> ?_
 have:=h2 j i hij hj;simpa [List.getD_eq_getElem?_getD,hi,hj] using this
theorem Ris.apart {a b:List (Int×Int)} (h:Ris (a++b)):Ris a∧Ris b∧∀p ∈ a,∀q ∈ b,p.1<q.1:=by
 have:=List.pairwise_append.1 h;exact this
theorem Ris.prs {c:SlC} {n:Nat} (h:Ris (prs c 0 n)) {a b:Nat} (h1:a≤b) (h2:b≤n):Ris (Go.Proofs.YtbedhbpgnfffmaaGreat.prs c a b):=by
 rw [←prs_append c (Nat.zero_le b) h2] at h;have h3:=h.apart.1;rw [←prs_append c (Nat.zero_le a) h1] at h3;exact h3.apart.2.1
theorem last_mem {l:List (Int×Int)} (h:l≠ []):l.getD (l.length-1) (0,0) ∈ l:=by
 have hl:0<l.length:=List.length_pos_iff.2 h;rw [List.getD_eq_getElem?_getD,List.getElem?_eq_getElem xo];exact List.getElem_mem _
theorem tell_own {l:List (Int×Int)} (h:l.length≤65536):ownB (tellT l).1 (tellT l).2=true:=by
 rw [tellT_cnt];by_cases e:l=[]
 · subst e;decide
 · have hl:0<l.length:=List.length_pos_iff.2 e;simp [ownB,e];omega
theorem tell_join {a b:List (Int×Int)} (h:Ris (a++b)):joinR (tellT (a++b)).1 (tellT (a++b)).2 (tellT a).1 (tellT a).2 (tellT b).1 (tellT b).2=true:=by
 have e1:=congrArg Prod.fst (tell_append a b);have e2:=congrArg Prod.snd (tell_append a b);have e3:=tellT_cnt (a++b);rw [List.length_append] at e3;push_cast at e3
 have ea:=tellT_cnt a;have eb:=tellT_cnt b;simp only [abvT] at e1 e2;simp only [joinR,Bool.and_eq_true,Bool.or_eq_true,decide_eq_true_eq];refine ⟨⟨⟨⟨⟨by omega,by omega⟩,by omega⟩,by omega⟩,e1,e2⟩,?_⟩;by_cases ha:a=[]
 · exact .inl (.inl (by rw [ea,ha];rfl))
 · by_cases hb:b=[]
   · exact .inl (.inr (by rw [eb,hb];rfl))
   · refine .inr ?_;rw [tellT_max ha,tellT_max hb];exact h.apart.2.2 _ (last_mem ha) _ (last_mem hb)
theorem trH_run {c:SlC} {S M:Nat} (hS:c.seg.toNat=S):∀d n,M≤n*2^d→trH c M d n=tellT (prs c ((n*2^d-M)*S) ((n*2^d-M+2^d)*S)):=by
 intro d;induction d with
 | zero=>
  intro n h;rw [Nat.pow_zero,Nat.mul_one] at *;rw [trH,leafT_tell,hS]
 | succ d ih=>
  intro n h;have e1:n*2^(d+1)=2*n*2^d:=by rw [Nat.pow_succ,Nat.mul_comm 2 n,Nat.mul_assoc,Nat.mul_comm 2]
  have e2:(2*n+1)*2^d=2*n*2^d+2^d:=by rw [Nat.add_mul,Nat.one_mul]
  have e3:2^(d+1)=2^d+2^d:=by rw [Nat.pow_succ];omega
  rw [e1] at h ⊢;have h2:M≤(2*n+1)*2^d:=by rw [e2];exact Nat.le_trans h (Nat.le_add_right _ _)
  rw [trH,ih (2*n) h,ih (2*n+1) h2,←tell_append,e2,e3];generalize 2*n*2^d=X at *;generalize 2^d=Y at *;have e4:X+Y-M=X-M+Y:=xo;rw [e4,prs_append c (Nat.mul_le_mul_right _ xo) (Nat.mul_le_mul_right _ xo),Nat.add_assoc]
def unF (D n:Nat):Nat:=n*2^(D-n.log2)-2^D
def unT (D n:Nat):Nat:=unF D n+2^(D-n.log2)
theorem un_bd {D n:Nat} (h1:1≤n) (h2:n<2^(D+1)):2^D≤n*2^(D-n.log2)∧n*2^(D-n.log2)+2^(D-n.log2)≤2*2^D∧unT D n≤2^D:=by
 obtain ⟨k1,k2⟩:=node_dj h1;have hl:n.log2<D+1:=(Nat.log2_lt xo).2 h2;have e:2^D=2^n.log2*2^(D-n.log2):=by rw [←Nat.pow_add];congr 1;omega
 have k3:2^n.log2*2^(D-n.log2)≤n*2^(D-n.log2):=Nat.mul_le_mul_right _ k1;have k4:(n+1)*2^(D-n.log2)≤(2*2^n.log2)*2^(D-n.log2):=Nat.mul_le_mul_right _ xo;rw [Nat.mul_assoc,←e,Nat.add_mul,Nat.one_mul] at k4;rw [←e] at k3;unfold unT unF;omega
theorem trN_run {c:SlC} {S D n:Nat} (hS:c.seg.toNat=S) (h1:1≤n) (h2:n<2^(D+1)):trN c D n=tellT (prs c (unF D n*S) (unT D n*S)):=by
 rw [trN,trH_run hS _ _ (un_bd h1 h2).1];rfl
theorem tlF_map {L:Nat} (hL:1≤L) (f:Nat→Int) {n:Nat} (h1:1≤n) (h2:n<2^L):tlF L ((lay L 1).map f) n=f n:=by
 have:=bltF_get hL f (fun _=>true) h1 h2;rw [bltF_all L hL f (fun _ _ _=>rfl),if_pos rfl] at this;rw [tlF,if_neg xo,pcF,if_neg xo,plc_get hL h1 h2,Int.toNat_natCast];exact this
theorem seek_ris {c:SlC} (h:seekE c=0):Ris (prs c 0 c.ks.length):=by
 have hm:=seekE_may h;rw [seekE,if_pos hm] at h;split at h
 · exact ris_of (by assumption)
 · cases h
theorem bld_vals {c:SlC} (h:bldE c=0):∃S D:Nat,c.seg=S∧c.seg.toNat=S∧4≤S∧S≤64∧c.cs.length=2^D∧D≤13∧c.ks.length=S*2^D∧S*2^D≤65536∧bldL c=((D+1:Nat):Int)∧(bldM c).length=2^(D+1)-1∧(bldC c).length=2^(D+1)-1∧
    (∀n,1≤n→n<2^(D+1)→tlF (D+1) (bldM c) n=(tellT (prs c (unF D n*S) (unT D n*S))).1∧tlF (D+1) (bldC c) n=(tellT (prs c (unF D n*S) (unT D n*S))).2):=by
 obtain ⟨h1,h2⟩:=bldE_seek h;obtain ⟨S,D,M,hS,hS2,h4,h64,hM,hlog,hpow,hD,hSM,hk,-⟩:=bld_facts (seekE_may h1) h2;have hL:bLev c=D+1:=by rw [bLev,hM,hlog]
 have e1:bldM c=(lay (D+1) 1).map fun n=>(trN c D n).1:=by rw [bldM,if_pos h,bMax,hL,hM,hlog]
 have e2:bldC c=(lay (D+1) 1).map fun n=>(trN c D n).2:=by rw [bldC,if_pos h,bCnt,hL,hM,hlog]
 refine ⟨S,D,hS,hS2,h4,h64,by omega,hD,by rw [hpow];exact hk,by rw [hpow];exact hSM,by rw [bldL,if_pos h,hL],?_,?_,fun n k1 k2=>⟨?_,?_⟩⟩
 · rw [e1,List.length_map,lay_len 1 xo]
 · rw [e2,List.length_map,lay_len 1 xo]
 · rw [e1,tlF_map xo _ k1 k2,trN_run hS2 k1 k2]
 · rw [e2,tlF_map xo _ k1 k2,trN_run hS2 k1 k2]
theorem prs_le {c:SlC} {a b:Nat}:(prs c a b).length≤b-a:=by
 rw [prs_length];exact cntW_le _ _ _
theorem un_two {D n:Nat} (h1:1≤n) (h2:n<2^D):unF D (2*n)=unF D n∧unT D (2*n)=unF D (2*n+1)∧unT D (2*n+1)=unT D n:=by
 have hl:n.log2<D:=(Nat.log2_lt xo).2 h2;have l1:(2*n).log2=n.log2+1:=by rw [log2_two xo];congr 2;omega
 have l2:(2*n+1).log2=n.log2+1:=by rw [log2_two xo];congr 2;omega
 have e:2^(D-n.log2)=2*2^(D-(n.log2+1)):=by rw [show D-n.log2=D-(n.log2+1)+1 by omega,Nat.pow_succ];omega
 have e1:n*2^(D-n.log2)=2*n*2^(D-(n.log2+1)):=by rw [e,Nat.mul_comm 2 n,Nat.mul_assoc]
 have e2:(2*n+1)*2^(D-(n.log2+1))=2*n*2^(D-(n.log2+1))+2^(D-(n.log2+1)):=by rw [Nat.add_mul,Nat.one_mul]
 obtain ⟨k1,k2,k3⟩:=un_bd (D:=D) h1 (by rw [Nat.pow_succ];omega);unfold unT unF;rw [l1,l2,e1,e2,e];rw [e1] at k1;omega
theorem bld_may {c:SlC} (h:bldE c=0):ixMay (bldL c) (bldM c) (bldC c)=true:=by
 obtain ⟨S,D,hS,hS2,h4,h64,hcs,hD,hk,hSM,hL,hlm,hlc,hv⟩:=bld_vals h;have hr:=seek_ris (bldE_seek h).1;rw [hk] at hr;have hp:=Nat.two_pow_pos D;have hp2:2^(D+1)=2*2^D:=by rw [Nat.pow_succ];omega
 have hmul:∀x,x≤2^D→x*S≤S*2^D:=fun x hx=>by rw [Nat.mul_comm];exact Nat.mul_le_mul_left _ hx
 rw [hL];generalize bldM c=ms at *;generalize bldC c=cs at *;simp only [ixMay,Bool.and_eq_true,decide_eq_true_eq,Int.toNat_natCast];refine ⟨⟨by omega,by omega,by simpa using hlm,by simpa using hlc⟩,allFrom_iff.2 fun n n1 n2=> ?_⟩;have n3:n<2^(D+1):=xo;obtain ⟨u1,u2,u3⟩:=un_bd n1 n3;have hm3:=hmul _ u3;have v:=hv n n1 n3;unfold ndB;rw [Bool.and_eq_true,v.1,v.2];refine ⟨tell_own (Nat.le_trans prs_le xo),?_⟩;by_cases hn:n<2^D
 · obtain ⟨t1,t2,t3⟩:=un_two n1 hn;have va:=hv (2*n) xo xo;have vb:=hv (2*n+1) xo xo;rw [t1] at va;rw [t3,←t2] at vb;rw [va.1,va.2,vb.1,vb.2];have o1:unF D n≤unT D (2*n):=by rw [←t1];exact Nat.le_add_right _ _
   have o2:unT D (2*n)≤unT D n:=by rw [←t3,t2];exact Nat.le_add_right _ _
   have o3:=Nat.mul_le_mul_right S o1;have o4:=Nat.mul_le_mul_right S o2;have e:=prs_append c o3 o4;rw [←e,tell_join (by rw [e];exact hr.prs xo hm3),Bool.or_true]
 · rw [decide_eq_true xo,Bool.true_or]
end
section
open Go.RowKit Go.Shelf
structure FrR (ws ks:List Int) (n:Nat) (key:Int) (r:Nat):Prop where
 le:r≤n
 low:∀j,j<r→bitW ws j=true→ks.getD j 0<key
 hit:r<n→bitW ws r=true∧key≤ks.getD r 0
def frS (ws ks:List Int) (n:Nat) (key:Int):Nat:=((List.range' 0 n).find? fun i=>bitW ws i&&decide (key≤ks.getD i 0)).getD n
theorem frS_is (ws ks:List Int) (n:Nat) (key:Int):FrR ws ks n key (frS ws ks n key):=by
 unfold frS;cases h:(List.range' 0 n).find? fun i=>bitW ws i&&decide (key≤ks.getD i 0) with
 | none=>
  rw [List.find?_eq_none] at h;refine ⟨Nat.le_refl _,fun j hj hb=> ?_,fun hn=>absurd hn (Nat.lt_irrefl _)⟩;have:=h j (List.mem_range'_1.2 ⟨Nat.zero_le _,by simpa using hj⟩);rw [hb] at this;simpa using this
 | some i=>
  rw [List.find?_eq_some_iff_getElem] at h;obtain ⟨h1,k,hk,h2,h3⟩:=h;rw [List.getElem_range'] at h2;rw [List.length_range'] at hk;obtain rfl:k=i:=xo;simp only [Bool.and_eq_true,decide_eq_true_eq] at h1;refine ⟨by simp;omega,fun j hj hb=> ?_,fun _=>h1⟩;have:=h3 j hj;rw [List.getElem_range',show 0+1*j=j by omega,hb] at this;simpa using this
end
section
open Go.RowKit
def lvsR (l:Int) (ms cs:List Int):List (Int×Int):=lvs (tlF l.toNat ms) (tlF l.toNat cs) (l.toNat-1) 1
def homT (l:Int) (ms cs:List Int) (key:Int):Int×Int×Int:=if ixMay l ms cs=true then homeL key (lvsR l ms cs) 0 0 else (0,0,8)
def nthT (l:Int) (ms cs:List Int) (k:Int):Int×Int×Int:=if ixMay l ms cs=true then (if k<0 then (0,0,290) else nthL (lvsR l ms cs) 0 k) else (0,0,8)
theorem ixMay_parts {l:Int} {ms cs:List Int} (h:ixMay l ms cs=true):∃L D N F:Nat,l=L∧1≤L∧L≤14∧N+1=2^L∧D+1=L∧2^D=F∧N+1=2*F∧F≤8192∧0<F∧l.toNat=L∧l.toNat-1=D∧ms.length=N∧cs.length=N∧Good (tlF L ms) (tlF L cs) D 1:=by
 unfold ixMay at h;rw [Bool.and_eq_true,decide_eq_true_eq] at h;obtain ⟨⟨h1,h2,h3,h4⟩,h5⟩:=h;have hp:=Nat.two_pow_pos l.toNat;have e:2^l.toNat=2*2^(l.toNat-1):=by rw [show l.toNat=l.toNat-1+1 by omega,Nat.pow_succ];simp;omega
 refine ⟨l.toNat,l.toNat-1,2^l.toNat-1,2^(l.toNat-1),by omega,by omega,by omega,by omega,by omega,rfl,by omega,Nat.pow_le_pow_right xo (by omega:l.toNat-1≤13),Nat.two_pow_pos _,rfl,rfl,h3,h4,good_root xo h5⟩
theorem pcF_root {L:Nat} (h:1≤L):pcF L 1=0:=by
 have h2:2^1≤2^L:=Nat.pow_le_pow_right xo h;rw [pcF,if_neg xo,plc_get h xo xo,vpos,log2_one (Nat.le_refl _)];have:=pos_zero L L (Nat.le_refl _);simp [this]
theorem tlF_root {L:Nat} (h:1≤L) (ms:List Int):tlF L ms 1=ms.getD 0 0:=by
 rw [tlF,if_neg xo,pcF_root h];rfl
def HomeP (key:Int) (f g:Nat→Int) (D d n:Nat) (s:Int):Prop:=
  Good f g d n∧srv key (f n) (g n)∧homeL key (lvs f g D 1) 0 0=homeL key (lvs f g d n) (((n*2^d:Nat):Int)-((2^D:Nat):Int)) s∧0≤s∧s+g n≤65536
theorem down_left (n d:Nat):2*n*2^d=n*2^(d+1):=by rw [Nat.pow_succ,Nat.mul_comm 2 n,Nat.mul_assoc,Nat.mul_comm 2]
theorem down_right (n d:Nat):(2*n+1)*2^d=n*2^(d+1)+2^d:=by rw [Nat.add_mul,Nat.one_mul,down_left]
theorem HomeP.step {key:Int} {f g:Nat→Int} {D d n:Nat} {s:Int} (h:HomeP key f g D (d+1) n s):
    (0≤s∧s≤65536∧0≤s+g (2*n)∧s+g (2*n)≤65536)∧if decide (srv key (f (2*n)) (g (2*n)))=true then HomeP key f g D d (2*n) s else HomeP key f g D d (2*n+1) (s+g (2*n)):=by
 obtain ⟨hg,hs,he,h0,h1⟩:=h;have hst:=hg.home_step key hs (((n*2^(d+1):Nat):Int)-((2^D:Nat):Int)) s;obtain ⟨o1,o2,-⟩:=own_facts hg.own;obtain ⟨-,j,hl,hr⟩:=hg;obtain ⟨j1,-⟩:=join_facts j;obtain ⟨l1,l2,-⟩:=own_facts hl.own;obtain ⟨r1,r2,-⟩:=own_facts hr.own;refine ⟨⟨h0,by omega,by omega,by omega⟩,?_⟩;by_cases hk:srv key (f (2*n)) (g (2*n))
 · rw [if_pos hk] at hst;rw [if_pos (decide_eq_true hk)];refine ⟨hl,hk,?_,h0,by omega⟩;rw [he,hst,down_left]
 · rw [if_neg hk] at hst;rw [if_neg (by simp [hk])];refine ⟨hr,hst.1,?_,by omega,by omega⟩;rw [he,hst.2,down_right];congr 1
   push_cast
   omega
theorem HomeP.root {key:Int} {f g:Nat→Int} {D:Nat} (hg:Good f g D 1) (hs:srv key (f 1) (g 1)):HomeP key f g D D 1 0:=by
 obtain ⟨o1,o2,-⟩:=own_facts hg.own;refine ⟨hg,hs,?_,Int.le_refl _,by omega⟩;rw [Nat.one_mul,Int.sub_self]
theorem HomeP.last {key:Int} {f g:Nat→Int} {D n F:Nat} {s:Int} (h:HomeP key f g D 0 n s) (hF:2^D=F):homeL key (lvs f g D 1) 0 0=((n:Int)-F,s,0):=by
 obtain ⟨hg,hs,he,h0,h1⟩:=h;rw [he,lvs,homeL,if_pos hs,hF,Nat.pow_zero,Nat.mul_one]
def NthP (k:Int) (f g:Nat→Int) (D d n:Nat) (s:Int):Prop:=
  Good f g d n∧(0≤k-s∧k-s<g n)∧nthL (lvs f g D 1) 0 k=nthL (lvs f g d n) (((n*2^d:Nat):Int)-((2^D:Nat):Int)) (k-s)∧0≤s∧s+g n≤65536
theorem NthP.step {k:Int} {f g:Nat→Int} {D d n:Nat} {s:Int} (h:NthP k f g D (d+1) n s):
    (0≤s∧s≤65536∧0≤s+g (2*n)∧s+g (2*n)≤65536)∧if decide (k-s<g (2*n))=true then NthP k f g D d (2*n) s else NthP k f g D d (2*n+1) (s+g (2*n)):=by
 obtain ⟨hg,⟨hs1,hs2⟩,he,h0,h1⟩:=h;have hst:=hg.nth_step (((n*2^(d+1):Nat):Int)-((2^D:Nat):Int)) (k-s) hs1 hs2;obtain ⟨o1,o2,-⟩:=own_facts hg.own;obtain ⟨-,j,hl,hr⟩:=hg;obtain ⟨j1,-⟩:=join_facts j;obtain ⟨l1,l2,-⟩:=own_facts hl.own;obtain ⟨r1,r2,-⟩:=own_facts hr.own;refine ⟨⟨h0,by omega,by omega,by omega⟩,?_⟩;by_cases hk:k-s<g (2*n)
 · rw [if_pos hk] at hst;rw [if_pos (decide_eq_true hk)];refine ⟨hl,⟨hs1,hk⟩,?_,h0,by omega⟩;rw [he,hst,down_left]
 · rw [if_neg hk] at hst;rw [if_neg (by simp [hk])];refine ⟨hr,by omega,?_,by omega,by omega⟩;rw [he,hst.2,down_right];congr 1
   · push_cast
     omega
   · omega
theorem NthP.root {k:Int} {f g:Nat→Int} {D:Nat} (hg:Good f g D 1) (h0:0≤k) (h1:k<g 1):NthP k f g D D 1 0:=by
 obtain ⟨o1,o2,-⟩:=own_facts hg.own;refine ⟨hg,by omega,?_,Int.le_refl _,by omega⟩;rw [Nat.one_mul,Int.sub_self,Int.sub_zero]
theorem NthP.last {k:Int} {f g:Nat→Int} {D n F:Nat} {s:Int} (h:NthP k f g D 0 n s) (hF:2^D=F):nthL (lvs f g D 1) 0 k=((n:Int)-F,k-s,0):=by
 obtain ⟨hg,hs,he,h0,h1⟩:=h;rw [he,lvs,nthL,if_pos hs.2,hF,Nat.pow_zero,Nat.mul_one]
theorem prs_mem {c:SlC} {a b:Nat} {p:Int×Int}:p ∈ prs c a b↔∃j,(a≤j∧j<b∧bitW c.ws j=true)∧(c.ks.getD j 0,c.vs.getD j 0)=p:=by
 unfold prs plsW;rw [List.mem_map];constructor
 · rintro ⟨j,hj,rfl⟩;rw [List.mem_filter,List.mem_range'_1] at hj;exact ⟨j,⟨hj.1.1,by omega,hj.2⟩,rfl⟩
 · rintro ⟨j,⟨h1,h2,h3⟩,rfl⟩;exact ⟨j,List.mem_filter.2 ⟨List.mem_range'_1.2 ⟨h1,by omega⟩,h3⟩,rfl⟩
theorem Ris.last {l:List (Int×Int)} (h:Ris l) {p:Int×Int} (hp:p ∈ l):p.1≤(l.getD (l.length-1) (0,0)).1:=by
 obtain ⟨i,hi,rfl⟩:=List.getElem_of_mem hp;rw [List.getD_eq_getElem?_getD,List.getElem?_eq_getElem xo,Option.getD_some];by_cases e:i=l.length-1
 · subst e;exact Int.le_refl _
 · exact Int.le_of_lt (List.pairwise_iff_getElem.1 h i (l.length-1) hi xo xo)
theorem tell_srv {c:SlC} {a b:Nat} {key:Int} (hr:Ris (prs c a b)):
    srv key (tellT (prs c a b)).1 (tellT (prs c a b)).2↔∃j,a≤j∧j<b∧bitW c.ws j=true∧key≤c.ks.getD j 0:=by
 constructor
 · rintro ⟨h1,h2⟩;rw [tellT_cnt] at h1;have hne:prs c a b≠ []:=by intro e;rw [e] at h1;simp at h1
   rw [tellT_max hne] at h2;obtain ⟨j,⟨j1,j2,j3⟩,e⟩:=prs_mem.1 (last_mem hne);rw [←e] at h2;exact ⟨j,j1,j2,j3,h2⟩
 · rintro ⟨j,j1,j2,j3,j4⟩;have hp:(c.ks.getD j 0,c.vs.getD j 0) ∈ prs c a b:=prs_mem.2 ⟨j,⟨j1,j2,j3⟩,rfl⟩;have hne:prs c a b≠ []:=List.ne_nil_of_mem hp;refine ⟨?_,?_⟩
   · rw [tellT_cnt];have:=List.length_pos_of_mem hp;omega
   · rw [tellT_max hne];have:=hr.last hp;dsimp only at this;omega
theorem leaf_vals {c:SlC} (h:bldE c=0):∃S D:Nat,c.seg=S∧4≤S∧S≤64∧c.cs.length=2^D∧D≤13∧c.ks.length=S*2^D∧S*2^D≤65536∧bldL c=((D+1:Nat):Int)∧
    ∀k,k<2^D→tlF (D+1) (bldM c) (2^D+k)=(tellT (prs c (k*S) ((k+1)*S))).1∧tlF (D+1) (bldC c) (2^D+k)=(tellT (prs c (k*S) ((k+1)*S))).2:=by
 obtain ⟨S,D,hS,hS2,h4,h64,hcs,hD,hk,hSM,hL,hlm,hlc,hv⟩:=bld_vals h;refine ⟨S,D,hS,h4,h64,hcs,hD,hk,hSM,hL,fun k hk'=> ?_⟩;have hp:=Nat.two_pow_pos D;have hp2:2^(D+1)=2*2^D:=by rw [Nat.pow_succ];omega
 have hlog:(2^D+k).log2=D:=(Nat.log2_eq_iff xo).2 ⟨by omega,by omega⟩;have u1:unF D (2^D+k)=k:=by rw [unF,hlog,Nat.sub_self,Nat.pow_zero];omega
 have u2:unT D (2^D+k)=k+1:=by rw [unT,u1,hlog,Nat.sub_self,Nat.pow_zero]
 have:=hv (2^D+k) xo xo;rw [u1,u2] at this;exact this
theorem seg_ris {c:SlC} (h:seekE c=0) {S D k:Nat} (hk:c.ks.length=S*2^D) (hk':k<2^D):Ris (prs c (k*S) ((k+1)*S)):=by
 have hr:=seek_ris h;have h1:(k+1)*S≤S*2^D:=by rw [Nat.mul_comm S];exact Nat.mul_le_mul_right _ hk'
 exact hr.prs (Nat.mul_le_mul_right _ xo) xo
theorem leaf_first {c:SlC} (h:bldE c=0) {key:Int} {S D r q:Nat} (hS:4≤S) (hk:c.ks.length=S*2^D) (hr:r=frS c.ws c.ks c.ks.length key) (hq:q=r/S):
    (∀k,k<q→k<2^D→¬srv key (tellT (prs c (k*S) ((k+1)*S))).1 (tellT (prs c (k*S) ((k+1)*S))).2)∧
    (r<c.ks.length→q<2^D∧srv key (tellT (prs c (q*S) ((q+1)*S))).1 (tellT (prs c (q*S) ((q+1)*S))).2):=by
 have hs:=(bldE_seek h).1;have F:=frS_is c.ws c.ks c.ks.length key;rw [←hr] at F;have hqr:q*S≤r:=by rw [hq];exact Nat.div_mul_le_self r S
 have hrq:r<(q+1)*S:=by rw [hq,Nat.mul_comm];exact Nat.lt_mul_div_succ r xo
 refine ⟨fun k hk1 hk2 hsv=> ?_,fun hrn=> ?_⟩
 · obtain ⟨j,j1,j2,j3,j4⟩:=(tell_srv (seg_ris hs hk hk2)).1 hsv;have:(k+1)*S≤q*S:=Nat.mul_le_mul_right _ hk1;have:=F.low j xo j3;omega
 · have hq2:q<2^D:=by
     apply Nat.lt_of_not_le;intro hle;have:2^D*S≤q*S:=Nat.mul_le_mul_right _ hle;rw [hk,Nat.mul_comm] at hrn;omega
   obtain ⟨f1,f2⟩:=F.hit hrn;exact ⟨hq2,(tell_srv (seg_ris hs hk hq2)).2 ⟨r,hqr,hrq,f1,f2⟩⟩
theorem homeL_first {key:Int} {l:List (Int×Int)} {q:Nat} {p:Int×Int} (hq:l[q]? =some p) (hs:srv key p.1 p.2) (hn:∀(k:Nat) (x:Int×Int),k<q→l[k]? =some x→¬srv key x.1 x.2) (i s:Int):
    homeL key l i s=(i+(q:Int),s+cntL (l.take q),0):=by
 have hlt:q<l.length:=(List.getElem?_eq_some_iff.1 hq).1;have e:l=l.take q++(p::l.drop (q+1)):=by
  have h1:=List.take_append_drop q l;rw [List.drop_eq_getElem_cons hlt] at h1;rw [(List.getElem?_eq_some_iff.1 hq).2] at h1;exact h1.symm
 have hno:∀x ∈ l.take q,¬srv key x.1 x.2:=fun x hx=>by
  obtain ⟨k,hk,rfl⟩:=List.getElem_of_mem hx;rw [List.length_take] at hk;refine hn k _ xo ?_;rw [List.getElem_take,List.getElem?_eq_getElem]
 rw [show homeL key l i s=homeL key (l.take q++(p::l.drop (q+1))) i s by rw [←e],homeL_none _ _ _ _ hno,homeL,if_pos hs,List.length_take,Nat.min_eq_left xo]
theorem cnt_segs {c:SlC} {S F:Nat} {l:List (Int×Int)} (hl:∀k,k<F→∃m,l[k]? =some (m,((prs c (k*S) ((k+1)*S)).length:Int))):∀q,q≤F→cntL (l.take q)=(cntW c.ws 0 (q*S):Nat):=by
 intro q;induction q with
 | zero=>intro _;simp [cntL,cntW]
 | succ q ih=>
  intro hq;obtain ⟨m,hm⟩:=hl q xo;have e:l.take (q+1)=l.take q++[(m,((prs c (q*S) ((q+1)*S)).length:Int))]:=by rw [List.take_add_one,hm];rfl
  have hmul:q*S≤(q+1)*S:=Nat.mul_le_mul_right _ xo;rw [e,cntL_append,ih xo,cntL_cons,←prs_length,←prs_length,←prs_append c (Nat.zero_le _) hmul,List.length_append];simp [cntL]
theorem hom_bld {c:SlC} (h:bldE c=0) (key:Int):
    (frS c.ws c.ks c.ks.length key=c.ks.length→homT (bldL c) (bldM c) (bldC c) key=(0,0,6))∧
    (frS c.ws c.ks c.ks.length key<c.ks.length→homT (bldL c) (bldM c) (bldC c) key=(((frS c.ws c.ks c.ks.length key/c.seg.toNat:Nat):Int),((cntW c.ws 0 (frS c.ws c.ks c.ks.length key/c.seg.toNat* c.seg.toNat):Nat):Int),0)):=by
 obtain ⟨S,D,hS,h4,h64,hcs,hD,hk,hSM,hL,hv⟩:=leaf_vals h;have hmay:=bld_may h;have hS2:c.seg.toNat=S:=xo;have hls:lvsR (bldL c) (bldM c) (bldC c)=lvs (tlF (D+1) (bldM c)) (tlF (D+1) (bldC c)) D 1:=by rw [lvsR,hL,Int.toNat_natCast,Nat.add_sub_cancel]
 have hget:∀k,k<2^D→(lvsR (bldL c) (bldM c) (bldC c))[k]? =some (tellT (prs c (k*S) ((k+1)*S))):=fun k hk'=>by
  have:=lvs_get (f:=tlF (D+1) (bldM c)) (g:=tlF (D+1) (bldC c)) D 1 k hk';rw [←hls,Nat.one_mul,(hv k hk').1,(hv k hk').2] at this;exact this
 have hlen:(lvsR (bldL c) (bldM c) (bldC c)).length=2^D:=by rw [hls,lvs_length]
 have ea:homT (bldL c) (bldM c) (bldC c) key=homeL key (lvsR (bldL c) (bldM c) (bldC c)) 0 0:=if_pos hmay;rw [ea,hS2];generalize lvsR (bldL c) (bldM c) (bldC c)=l at *;obtain ⟨l1,l2⟩:=leaf_first h h4 hk (key:=key) rfl rfl;refine ⟨fun hr=> ?_,fun hr=> ?_⟩
 · have:=homeL_none (key:=key) l [] 0 0 (fun p hp hs=>by
     obtain ⟨k,hkl,rfl⟩:=List.getElem_of_mem hp;have hk2:k<2^D:=xo;have hg:=hget k hk2;rw [List.getElem?_eq_getElem hkl] at hg;have hg:=Option.some.inj hg;rw [hg] at hs;refine l1 k ?_ hk2 hs;rw [hr,hk,Nat.mul_div_cancel_left _ xo];exact hk2)
   rw [List.append_nil] at this;rw [this];rfl
 · obtain ⟨l3,l4⟩:=l2 hr;have hf:=homeL_first (hget _ l3) l4 (fun k x hk1 hx hs=>by
    rw [hget k xo] at hx;cases hx;exact l1 k hk1 xo hs) 0 0
   rw [hf,cnt_segs (c:=c) (S:=S) (F:=2^D) (fun k hk'=>⟨_,by rw [hget k hk',←tellT_cnt]⟩) _ xo];simp
theorem nthL_at:∀(l:List (Int×Int)) (i k:Int),0≤k→nthL l i k=(0,0,290) ∨
    ∃(j:Nat) (m c:Int),l[j]? =some (m,c)∧nthL l i k=(i+j,k-cntL (l.take j),0)∧0≤k-cntL (l.take j)∧k-cntL (l.take j)<c:=by
 intro l;induction l with
 | nil=>intro i k h;exact .inl rfl
 | cons p r ih=>
  intro i k h;by_cases hp:k<p.2
  · refine .inr ⟨0,p.1,p.2,rfl,?_,?_,?_⟩
    · rw [nthL,if_pos hp];simp [cntL]
    · simpa [cntL] using h
    · simpa [cntL] using hp
  · rw [nthL,if_neg hp];rcases ih (i+1) (k-p.2) xo with h1 | ⟨j,m,c,h1,h2,h3,h4⟩
    · exact .inl h1
    · have es:k-p.2-cntL (r.take j)=k-cntL ((p::r).take (j+1)):=by rw [List.take_succ_cons,cntL_cons];omega
      refine .inr ⟨j+1,m,c,by simpa using h1,?_,by omega,by omega⟩;rw [h2,es];congr 1
      push_cast
      omega
end
section
open Go.RowKit Go.Shelf
end
section
open Go.RowKit
abbrev ixV (L:Int) (ma:Option Addr) (m mc:Nat) (ca:Option Addr) (c cc:Nat):Value:= .agg #[.int .i64 L,.slice ma m mc,.slice ca c cc]
theorem info_int64:(Tryz.prog.info? 2).map (fun i=>(i.zero,i.size,i.bytes))=some (some (.int .i64 0),1,8):=by kernel_rfl
theorem ints_news {w:World} {ga:Option Addr} {xs:List Int} (h:IsInts w ga xs):∀ad,ga=some ad→∀j u,(xs.map (Value.int .i64))[j]? =some u→w.cell? (ad.add j)=some u:=by
 rintro ad rfl j u hj;rw [List.getElem?_map] at hj;cases hx:xs[j]? with
 | none=>rw [hx] at hj;cases hj
 | some v=>
  rw [hx] at hj;have hjl:=(List.getElem?_eq_some_iff.1 hx).1;obtain ⟨b,o,h1,_,hc⟩:=h j hjl;cases h1;rw [Addr.add_lit,hc j hjl,List.getD_eq_getElem?_getD,hx];exact hj
def FreshIx (w:World) (L:Int) (ms cs:List Int) (e:Ending) (w':World):Prop:=
  ∃v u,e= .returned (.agg #[.int .i64 L,v,u])∧w'.ownsRow w.heap.size 2 1 v ms.length (ms.map (Value.int .i64))∧w'.ownsRow w.heap.size 3 1 u cs.length (cs.map (Value.int .i64))∧Below w.heap.size w w'
theorem Twin18_ok (L:Int) (ma ca:Option Addr) (mc cc:Nat) (ms cs:List Int) (w:World) (hm:IsInts w ma ms) (hc:IsInts w ca cs) (hlm:ms.length≤100000) (hlc:cs.length≤100000) (hmn:ma=none→ms.length=0∧mc=0) (hcn:ca=none→cs.length=0∧cc=0):
    Calls Tryz.prog 25 #[ixV L ma ms.length mc ca cs.length cc] w (FreshIx w L ms cs):=by
 have HM:=hid hm;have HC:=hid hc;clear hm hc;go_enter Tryz.func25,Tryz.ntmps25
 go_wp2
 have hS:Below w.heap.size w ((w.alloc (.cells #[.int .i64 L,.slice ma ms.length mc,.slice ca cs.length cc] 33)).alloc (.cells #[.int .i64 0,.slice none 0 0,.slice none 0 0] 33)):=(br.alloc (Nat.le_refl _) _).alloc xsi _;have HS:=hid hS;clear hS;generalize hw1:((w.alloc (.cells #[.int .i64 L,.slice ma ms.length mc,.slice ca cs.length cc] 33)).alloc (.cells #[.int .i64 0,.slice none 0 0,.slice none 0 0] 33))=wz at *;have hz:wz.heap.size=w.heap.size+1+1:=by rw [←hw1];simp
 have f0:wz.cell? ⟨w.heap.size,0,none⟩=some (.int .i64 L):=by rw [←hw1];(exact xcw)
 have f1:wz.cell? ⟨w.heap.size,1,none⟩=some (.slice ma ms.length mc):=by rw [←hw1];(exact xcw)
 have f2:wz.cell? ⟨w.heap.size,2,none⟩=some (.slice ca cs.length cc):=by rw [←hw1];(exact xcw)
 have d0:wz.cell? ⟨w.heap.size+1,0,none⟩=some (.int .i64 0):=by rw [←hw1];(exact xcw)
 have d1:wz.cell? ⟨w.heap.size+1,1,none⟩=some (.slice none 0 0):=by rw [←hw1];(exact xcw)
 have d2:wz.cell? ⟨w.heap.size+1,2,none⟩=some (.slice none 0 0):=by rw [←hw1];(exact xcw)
 have q0:wz.frozen? ⟨w.heap.size+1,0,none⟩=false:=by rw [←hw1];(exact xcw)
 have q1:wz.frozen? ⟨w.heap.size+1,1,none⟩=false:=by rw [←hw1];(exact xcw)
 have q2:wz.frozen? ⟨w.heap.size+1,2,none⟩=false:=by rw [←hw1];(exact xcw)
 clear hw1;refine wp_region_facts 11 xk (N:=14) rfl xk xk xdd (fun w'=>Below wz.heap.size wz w') (Ext 33) (factAt [
   .is (.pointer (some ⟨w.heap.size,0,none⟩)),.is (.int .i64 L),.empty wz.heap.size 2 xdd,.is (.pointer (some ⟨w.heap.size,1,none⟩)),.is (.slice ma ms.length mc),.row wz.heap.size 2 xdd 1 ms.length (ms.map (Value.int .i64)),
   .empty wz.heap.size 3 xdd,.is (.pointer (some ⟨w.heap.size,2,none⟩)),.is (.slice ca cs.length cc),.row wz.heap.size 3 xdd 1 cs.length (cs.map (Value.int .i64)),
   .agg3 (.is (.int .i64 L)) (.row wz.heap.size 2 xdd 1 ms.length (ms.map (Value.int .i64))) (.row wz.heap.size 3 xdd 1 cs.length (cs.map (Value.int .i64)))]) (factAt_stays _) br.drew ?steps ?fin
 case steps=>
  refine ⟨?o0,?o1,?o2,?o3,?o4,?o5,?o6,?o7,?o8,?o9,?o10,trivial⟩<;>intro u a w' ev hJ hd K hK
  case o0=>
   have e1:tg a 1= .pointer (some ⟨w.heap.size,0,none⟩):=ev 1 xdd;have HK:=hid hK;clear hK ev hd;go_simp;exact HK.out _ _ xzc hJ rfl (Ext.refl _ _)
  case o1=>
   have e3:tg a 3= .pointer (some ⟨w.heap.size,0,none⟩):=(ev 3 xdd).trans (hd 0 _ xk rfl);have g0:=(hJ.cell (p:=⟨w.heap.size,0,none⟩) (by show w.heap.size<_;omega)).trans f0;have HK:=hid hK;clear hK ev hd;go_simp;exact HK.out _ _ xzc hJ rfl (Ext.refl _ _)
  case o2=>
   have HK:=hid hK;have hz':=hJ.size;clear hK ev hd;go_simp;exact HK.out _ _ xzc (hJ.alloc hz' _) ⟨_,rfl,owns_empty (alloc_new _ _) hz'⟩ (Ext.below (br.alloc (Nat.le_refl _) _))
  case o3=>
   have e1:tg a 1= .pointer (some ⟨w.heap.size,0,none⟩):=ev 1 xdd;have HK:=hid hK;clear hK ev hd;go_simp;exact HK.out _ _ xzc hJ rfl (Ext.refl _ _)
  case o4=>
   have e6:tg a 6= .pointer (some ⟨w.heap.size,1,none⟩):=(ev 6 xdd).trans (hd 3 _ xk rfl);have g0:=(hJ.cell (p:=⟨w.heap.size,1,none⟩) (by show w.heap.size<_;omega)).trans f1;have HK:=hid hK;clear hK ev hd;go_simp;exact HK.out _ _ xzc hJ rfl (Ext.refl _ _)
  case o5=>
   obtain ⟨g,h1,h2⟩:(Fact.empty (T:=33) wz.heap.size 2 xdd).holds (u 5) w':=hd 2 _ xk rfl;have h3:u 7= .slice ma ms.length mc:=hd 4 _ xk rfl;have e1:tg a 5= .slice (some ⟨g,0,none⟩) 0 0:=(ev 5 xdd).trans h1;have e2:tg a 7= .slice ma ms.length mc:=(ev 7 xdd).trans h3;rw [h1] at h2;have hIn:=HM.out.below (below_via hJ HS.out xo);exact wp_append_empty (.tmp 5) (.tmp 7) 25 2 (.int .i64 0) 8 Tryz.underlying25 info_int64 rfl xdd wz.heap.size g ma ms.length mc (ms.map (Value.int .i64)) h2 xsi hmn (ints_news hIn) (oneCells _) xo hJ.size rfl e1 e2
     (fun v' w'' k1 k2=>hK _ _ xzc (hJ.trans (k2.mono hJ.size)) k1 (Ext.below k2))
  case o6=>
   have HK:=hid hK;have hz':=hJ.size;clear hK ev hd;go_simp;exact HK.out _ _ xzc (hJ.alloc hz' _) ⟨_,rfl,owns_empty (alloc_new _ _) hz'⟩ (Ext.below (br.alloc (Nat.le_refl _) _))
  case o7=>
   have e1:tg a 1= .pointer (some ⟨w.heap.size,0,none⟩):=ev 1 xdd;have HK:=hid hK;clear hK ev hd;go_simp;exact HK.out _ _ xzc hJ rfl (Ext.refl _ _)
  case o8=>
   have e10:tg a 10= .pointer (some ⟨w.heap.size,2,none⟩):=(ev 10 xdd).trans (hd 7 _ xk rfl);have g0:=(hJ.cell (p:=⟨w.heap.size,2,none⟩) (by show w.heap.size<_;omega)).trans f2;have HK:=hid hK;clear hK ev hd;go_simp;exact HK.out _ _ xzc hJ rfl (Ext.refl _ _)
  case o9=>
   obtain ⟨g,h1,h2⟩:(Fact.empty (T:=33) wz.heap.size 3 xdd).holds (u 9) w':=hd 6 _ xk rfl;have h3:u 11= .slice ca cs.length cc:=hd 8 _ xk rfl;have e1:tg a 9= .slice (some ⟨g,0,none⟩) 0 0:=(ev 9 xdd).trans h1;have e2:tg a 11= .slice ca cs.length cc:=(ev 11 xdd).trans h3;rw [h1] at h2;have hIn:=HC.out.below (below_via hJ HS.out xo);exact wp_append_empty (.tmp 9) (.tmp 11) 26 3 (.int .i64 0) 8 Tryz.underlying26 info_int rfl xdd wz.heap.size g ca cs.length cc (cs.map (Value.int .i64)) h2 xsi hcn (ints_news hIn) (oneCells _) xo hJ.size rfl e1 e2
     (fun v' w'' k1 k2=>hK _ _ xzc (hJ.trans (k2.mono hJ.size)) k1 (Ext.below k2))
  case o10=>
   have h1:u 4= .int .i64 L:=hd 1 _ xk rfl;have h2:(Fact.row (T:=33) wz.heap.size 2 xdd 1 ms.length (ms.map (Value.int .i64))).holds (u 8) w':=hd 5 _ xk rfl;have h3:(Fact.row (T:=33) wz.heap.size 3 xdd 1 cs.length (cs.map (Value.int .i64))).holds (u 12) w':=hd 9 _ xk rfl;obtain ⟨a8,c8,k8,-⟩:=owns_news h2;obtain ⟨a12,c12,k12,-⟩:=owns_news h3;have e4:tg a 4= .int .i64 L:=(ev 4 xdd).trans h1;have e8:tg a 8= .slice a8 ms.length c8:=(ev 8 xdd).trans k8;have e12:tg a 12= .slice a12 cs.length c12:=(ev 12 xdd).trans k12;have f4:a.tmps[4]?.getD undef= .int .i64 L:=by rw [←Array.getD_eq_getD_getElem?];exact e4
   have f8:a.tmps[8]?.getD undef= .slice a8 ms.length c8:=by rw [←Array.getD_eq_getD_getElem?];exact e8
   have f12:a.tmps[12]?.getD undef= .slice a12 cs.length c12:=by rw [←Array.getD_eq_getD_getElem?];exact e12
   rw [k8] at h2;rw [k12] at h3;have HK:=hid hK;have H2:=hid h2;have H3:=hid h3;clear hK ev hd h1 h2 h3 k8 k12;go_simp;exact HK.out _ _ xzc hJ ⟨_,_,_,rfl,rfl,H2.out,H3.out⟩ (Ext.refl _ _)
 case fin=>
  intro u w2 hJ hG;obtain ⟨x,y,z,h1,rfl,h3,h4⟩:(Fact.agg3 (T:=33) (.is (.int .i64 L)) (.row wz.heap.size 2 xdd 1 ms.length (ms.map (Value.int .i64))) (.row wz.heap.size 3 xdd 1 cs.length (cs.map (Value.int .i64)))).holds (u 13) w2:=hG 10 _ rfl;obtain ⟨a8,c8,rfl,-⟩:=owns_news h3;obtain ⟨a12,c12,rfl,-⟩:=owns_news h4;have HG3:=hid h3;have HG4:=hid h4;have zl:w.heap.size+1<wz.heap.size:=xo;have b0:=(hJ.cell (p:=⟨w.heap.size+1,0,none⟩) zl).trans d0;have b1:=(hJ.cell (p:=⟨w.heap.size+1,1,none⟩) zl).trans d1;have b2:=(hJ.cell (p:=⟨w.heap.size+1,2,none⟩) zl).trans d2;have r0:=(hJ.frozen (p:=⟨w.heap.size+1,0,none⟩) zl).trans q0;have r1:=(hJ.frozen (p:=⟨w.heap.size+1,1,none⟩) zl).trans q1;have r2:=(hJ.frozen (p:=⟨w.heap.size+1,2,none⟩) zl).trans q2;have HJ:=hid hJ;clear hG h3 h4 d0 d1 d2 q0 q1 q2 f0 f1 f2 hJ;simp only [mixFrame,mixL,dstsOf,List.take_succ_cons,List.take_zero,List.filterMap_cons,List.filterMap_nil,List.contains_cons,List.contains_nil,Nat.reduceBEq,Bool.or_false,Bool.false_or,Bool.or_true,Bool.true_or,if_true,if_false,Bool.false_eq_true,Nat.reduceAdd,Nat.zero_add,List.drop_succ_cons,List.drop_zero];go_wp2
  have t0:∀j v,[Value.int .i64 L,.slice a8 ms.length c8,.slice a12 cs.length c12][j]? =some v→(((w2.setCell ⟨w.heap.size+1,0,none⟩ (.int .i64 L)).setCell ⟨w.heap.size+1,1,none⟩ (.slice a8 ms.length c8)).setCell ⟨w.heap.size+1,2,none⟩ (.slice a12 cs.length c12)).cell? ⟨w.heap.size+1,j,none⟩=some v:=
    three_at (by rw [World.cell?_setCell_other _ _ _ _ (by intro e;simp at e),World.cell?_setCell_other _ _ _ _ (by intro e;simp at e)];exact World.cell?_setCell_same _ _ _ b0)
      (by rw [World.cell?_setCell_other _ _ _ _ (by intro e;simp at e)];exact World.cell?_setCell_same _ _ _ (by rw [World.cell?_setCell_other _ _ _ _ (by intro e;simp at e)];exact b1))
      (World.cell?_setCell_same _ _ _ (by rw [World.cell?_setCell_other _ _ _ _ (by intro e;simp at e),World.cell?_setCell_other _ _ _ _ (by intro e;simp at e)];exact b2))
  refine bodyPost_ret (results_c rfl rfl (run_loadVar_many _ Tryz.underlying33 rfl xk t0)) rfl ⟨_,_,rfl,?_,?_,?_⟩
  · exact owns_base (owns_heap HG3.out fun k hk=>by have:=(HG3.out.lt k hk).1;rw [heap_setCell_ne _ _ _ (by show k≠w.heap.size+1;omega),heap_setCell_ne _ _ _ (by show k≠w.heap.size+1;omega),heap_setCell_ne _ _ _ (by show k≠w.heap.size+1;omega)]) xo
  · exact owns_base (owns_heap HG4.out fun k hk=>by have:=(HG4.out.lt k hk).1;rw [heap_setCell_ne _ _ _ (by show k≠w.heap.size+1;omega),heap_setCell_ne _ _ _ (by show k≠w.heap.size+1;omega),heap_setCell_ne _ _ _ (by show k≠w.heap.size+1;omega)]) xo
  · exact (((below_via HJ.out HS.out xo).setCell (by show w.heap.size≤w.heap.size+1;omega) _).setCell (by show w.heap.size≤w.heap.size+1;omega) _).setCell (by show w.heap.size≤w.heap.size+1;omega) _
def Ans (w:World) (v:Value) (e:Ending) (w':World):Prop:=e= .returned v∧Below w.heap.size w w'
theorem Great18_no (L:Int) (ma ca:Option Addr) (m mc c cc:Nat) (hm:m≤600) (hc:c≤600) (w:World):
    Calls Tryz.prog 23 #[ixV L ma m mc ca c cc] w (Ans w (.bool false)):=by
 go_enter Tryz.func23,Tryz.ntmps23
 go_wp2
 go_ret
 exact ⟨by first|rfl|(simp;omega),br.alloc (Nat.le_refl _) _⟩
theorem Great18_yes (L:Int) (ma ca:Option Addr) (m mc c cc:Nat) (h:600<m∨600<c) (w:World):
    Calls Tryz.prog 23 #[ixV L ma m mc ca c cc] w (Ans w (.bool true)):=by
 by_cases hm:600<m
 · go_enter Tryz.func23,Tryz.ntmps23
   go_wp2
   go_ret
   exact ⟨by first|rfl|(simp;omega),br.alloc (Nat.le_refl _) _⟩
 · have hc:600<c:=xo;clear h;go_enter Tryz.func23,Tryz.ntmps23
   go_wp2
   go_ret
   exact ⟨by first|rfl|(simp;omega),br.alloc (Nat.le_refl _) _⟩
abbrev tdV (m c:Int):Value:= .agg #[.int .i64 m,.int .i64 c]
theorem above_ok (am ac bm bc:Int) (h1:0≤ac) (h2:ac≤65536) (h3:0≤bc) (h4:bc≤65536) (w:World):
    Calls Tryz.prog 84 #[tdV am ac,tdV bm bc] w (Ans w (tdV (abM am bm bc) (abC ac bc))):=by
 by_cases h:0<bc
 · have e1:abM am bm bc=bm:=if_pos h;have e2:abC ac bc=ac+bc:=if_pos h;rw [e1,e2];clear e1 e2;go_enter Tryz.func84,Tryz.ntmps84
   go_wp2
   refine bodyPost_ret (results_c rfl rfl (run_loadVar_two Tryz.underlying135 rfl xk (v:= .int .i64 bm) (u:= .int .i64 (ac+bc)) xcg xcg)) rfl ⟨rfl,by (exact xbel)⟩
 · have e1:abM am bm bc=am:=if_neg h;have e2:abC ac bc=ac:=if_neg h;rw [e1,e2];clear e1 e2;go_enter Tryz.func84,Tryz.ntmps84
   go_wp2
   refine bodyPost_ret (results_c rfl rfl (run_loadVar_two Tryz.underlying135 rfl xk (v:= .int .i64 am) (u:= .int .i64 ac) xcg xcg)) rfl ⟨rfl,by (exact xbel)⟩
theorem above18_ok (am ac bm bc:Int) (h1:0≤ac) (h2:ac≤65536) (h3:0≤bc) (h4:bc≤65536) (w:World):
    Calls Tryz.prog 109 #[tdV am ac,tdV bm bc] w (Ans w (tdV (abM am bm bc) (abC ac bc))):=by
 by_cases h:0<bc
 · have e1:abM am bm bc=bm:=if_pos h;have e2:abC ac bc=ac+bc:=if_pos h;rw [e1,e2];clear e1 e2;go_enter Tryz.func109,Tryz.ntmps109
   go_wp2
   refine bodyPost_ret (results_c rfl rfl (run_loadVar_two Tryz.underlying125 rfl xk (v:= .int .i64 bm) (u:= .int .i64 (ac+bc)) xcg xcg)) rfl ⟨rfl,by (exact xbel)⟩
 · have e1:abM am bm bc=am:=if_neg h;have e2:abC ac bc=ac:=if_neg h;rw [e1,e2];clear e1 e2;go_enter Tryz.func109,Tryz.ntmps109
   go_wp2
   refine bodyPost_ret (results_c rfl rfl (run_loadVar_two Tryz.underlying125 rfl xk (v:= .int .i64 am) (u:= .int .i64 ac) xcg xcg)) rfl ⟨rfl,by (exact xbel)⟩
def ixEq (L:Int) (ms cs:List Int) (L':Int) (ms' cs':List Int):Bool:=decide (L=L')&&decide (ms=ms')&&decide (cs=cs')
theorem Same18_ix (L L':Int) (ma ca ma' ca':Option Addr) (mc cc mc' cc':Nat) (ms cs ms' cs':List Int) (w:World) (hm:IsRow .i64 w ma ms) (hc:IsRow .i64 w ca cs) (hm':IsRow .i64 w ma' ms') (hc':IsRow .i64 w ca' cs') (hl:ms.length≤100000) (hl2:cs.length≤100000):
    Calls Tryz.prog 43 #[ixV L ma ms.length mc ca cs.length cc,ixV L' ma' ms'.length mc' ca' cs'.length cc'] w (Ans w (.bool (ixEq L ms cs L' ms' cs'))):=by
 have HE1:=hid (fun (W:World) (hb:Below w.heap.size w W)=>SameKeys_ok ma ma' mc mc' ms ms' W (hm.below hb) (hm'.below hb) xo);have HE2:=hid (fun (W:World) (hb:Below w.heap.size w W)=>SameNums_ok ca ca' cc cc' cs cs' W (hc.below hb) (hc'.below hb) xo);clear hm hc hm' hc' hl hl2;unfold ixEq;by_cases h1:L=L'
 · have e1:(L==L')=true:=by simpa using h1
   have e2:decide (L=L')=true:=by simpa using h1
   rw [e2];clear h1 e2;generalize hb1:decide (ms=ms')=b1 at HE1 ⊢;clear hb1;generalize hb2:decide (cs=cs')=b2 at HE2 ⊢;clear hb2;cases b1 with
   | true=>
    go_enter Tryz.func43,Tryz.ntmps43
    go_wp2_with (first
      | (go_at_call 68;refine (HE1.out _ xbel).mono ?_;rintro e w1 ⟨rfl,n1,rfl⟩)
      | (go_at_call 69;refine (HE2.out _ xbel).mono ?_;rintro e w2 ⟨rfl,n2,rfl⟩))
    go_ret
    exact ⟨by simp,by (exact xbel)⟩
   | false=>
    go_enter Tryz.func43,Tryz.ntmps43
    go_wp2_with (first
      | (go_at_call 68;refine (HE1.out _ xbel).mono ?_;rintro e w1 ⟨rfl,n1,rfl⟩)
      | (go_at_call 69;refine (HE2.out _ xbel).mono ?_;rintro e w2 ⟨rfl,n2,rfl⟩))
    go_ret
    exact ⟨by simp,by (exact xbel)⟩
 · have e1:(L==L')=false:=by simpa using h1
   have e2:decide (L=L')=false:=by simpa using h1
   rw [e2];clear h1 e2;go_enter Tryz.func43,Tryz.ntmps43
   go_wp2
   go_ret
   exact ⟨by simp,by (exact xbel)⟩
theorem prsR_seg {c:SlC} {S M:Nat} (hm:slMay c=true) (hS:c.seg=S) (hk:c.ks.length=S*M) {k:Nat} (h:k<M):
    partE c ((k*S:Nat):Int) (((k+1)*S:Nat):Int)=0∧prsR c ((k*S:Nat):Int) (((k+1)*S:Nat):Int)=prs c (k*S) ((k+1)*S):=by
 have h1:(k+1)*S≤S*M:=by rw [Nat.mul_comm S];exact Nat.mul_le_mul_right _ xo
 have h2:k*S≤(k+1)*S:=Nat.mul_le_mul_right _ xo;have e:partE c ((k*S:Nat):Int) (((k+1)*S:Nat):Int)=0:=by rw [partE,if_pos hm,if_pos xo]
 refine ⟨e,?_⟩;rw [prsR,if_pos e,Int.toNat_natCast,Int.toNat_natCast]
theorem leaf_ok (c:SlC) (a:SlA) (hm:slMay c=true) (hM:c.cs.length≤8192) (k:Nat) (hk:k<c.cs.length) (w:World) (hin:SlIn w c a):
    Calls Tryz.prog 83 #[slV c a,.int .i64 k] w (AnsB w (tdV (leafT c k).1 (leafT c k).2)):=by
 obtain ⟨S,D,M,hS,hS2,hS4,hS64,hcm,-,-,-,hSM,hks,-,hws,hwl⟩:=bld_facts hm hM;obtain ⟨e1,e2⟩:=prsR_seg hm hS hks (k:=k) xo;have PR:=hid (fun W (hb:Below w.heap.size w W)=>Pairs_ok c a xo xo ((k*S:Nat):Int) (((k+1)*S:Nat):Int) W (hin.below hb));rw [e1,e2] at PR;have hlf:leafT c k=if prs c (k*S) ((k+1)*S)=[] then (0,0) else (((prs c (k*S) ((k+1)*S)).getD ((prs c (k*S) ((k+1)*S)).length-1) (0,0)).1,(((prs c (k*S) ((k+1)*S)).length:Nat):Int)):=by unfold leafT;rw [hS2]
 have hlen:(prs c (k*S) ((k+1)*S)).length≤64:=by
  rw [prs_length];have:=cntW_le c.ws (k*S) ((k+1)*S);have e:(k+1)*S=k*S+S:=by rw [Nat.add_mul,Nat.one_mul]
  omega
 have hk1:(k:Int)*(S:Int)=((k*S:Nat):Int):=by push_cast;rfl
 have hk2:((k:Int)+1)*(S:Int)=(((k+1)*S:Nat):Int):=by push_cast;rfl
 have hkb1:k*S≤65536:=by
  have:k*S≤M*S:=Nat.mul_le_mul_right _ xo;rw [Nat.mul_comm M] at this;omega
 have hkb2:(k+1)*S≤65536:=by
  have:(k+1)*S≤M*S:=Nat.mul_le_mul_right _ xo;rw [Nat.mul_comm M] at this;omega
 obtain ⟨V,hV⟩:∃V,leafT c k=V:=⟨_,rfl⟩
 rw [hV] at hlf ⊢;generalize prs c (k*S) ((k+1)*S)=L at *;generalize k*S=p1 at *;generalize (k+1)*S=p2 at *;obtain ⟨seg,ws,ks,vs,cs,laid⟩:=c;obtain ⟨wa,ka,va,ca,wc,kc,vc,cc⟩:=a;dsimp only [slV] at *;subst hS;have hkb:k≤8192:=xo;clear hin hm hM hks hws hwl e1 e2 hV hcm hk hSM hS2;cases L with
 | nil=>
  rw [if_pos rfl] at hlf;subst hlf;go_enter Tryz.func83,Tryz.ntmps83
  go_wp2_with fail
  refine (PR.out _ xbel).mono ?_;rintro e w1 ⟨vl,rfl,hol,hb1⟩;have hz_w1:=hb1.size;try simp only [World.size_alloc,World.size_setCell] at hz_w1
  have hh:=bc6 hb1 (au6 (al6 (b:=w.heap.size) xsi));obtain ⟨c_t0,c_t1,c_t2,c_t3,c_t4,c_t5⟩:=hh;have z_t:=blt hb1 (auz (alz (b:=w.heap.size) xsi));have hh:=bc2 hb1 (al2 (b:=w.heap.size+1) xsi);obtain ⟨c_r0,c_r1⟩:=hh;have hh:=bf2 hb1 (alz (b:=w.heap.size+1) xsi) (alf2 (b:=w.heap.size+1) xsi);obtain ⟨f_r0,f_r1⟩:=hh;have z_r:=blt hb1 (alz (b:=w.heap.size+1) xsi);have hB1:Below w.heap.size w w1:=xbel;obtain ⟨la,lc,hvl,-⟩:=owns_news hol;replace hvl:vl= .slice la 0 lc:=hvl;subst hvl;clear hol;go_wp2
  exact bodyPost_ret (results_c rfl rfl (run_loadVar_two Tryz.underlying135 rfl xk (v:= .int .i64 0) (u:= .int .i64 0) ((World.cell?_setCell_other _ _ _ _ xsi).trans (World.cell?_setCell_same _ _ _ c_r0)) (World.cell?_setCell_same _ _ _ ((World.cell?_setCell_other _ _ _ _ xsi).trans c_r1)))) rfl ⟨rfl,by (exact xbel)⟩
 | cons p r=>
  rw [if_neg xsi] at hlf;obtain ⟨m,hmm⟩:∃m,(p::r).length=m+1:=⟨r.length,rfl⟩
  rw [hmm,Nat.add_sub_cancel] at hlf;have HMM:=hid hmm;go_enter Tryz.func83,Tryz.ntmps83
  go_wp2_with fail
  refine (PR.out _ xbel).mono ?_;rintro e w1 ⟨vl,rfl,hol,hb1⟩;have hz_w1:=hb1.size;try simp only [World.size_alloc,World.size_setCell] at hz_w1
  have hh:=bc6 hb1 (au6 (al6 (b:=w.heap.size) xsi));obtain ⟨c_t0,c_t1,c_t2,c_t3,c_t4,c_t5⟩:=hh;have z_t:=blt hb1 (auz (alz (b:=w.heap.size) xsi));have hh:=bc2 hb1 (al2 (b:=w.heap.size+1) xsi);obtain ⟨c_r0,c_r1⟩:=hh;have hh:=bf2 hb1 (alz (b:=w.heap.size+1) xsi) (alf2 (b:=w.heap.size+1) xsi);obtain ⟨f_r0,f_r1⟩:=hh;have z_r:=blt hb1 (alz (b:=w.heap.size+1) xsi);have hB1:Below w.heap.size w w1:=xbel;obtain ⟨la,lc,hvl,hil,-,-,-,-⟩:=row_of_owns hol;rw [HMM.out] at hvl;subst hvl;obtain ⟨bl,ol,rfl,c0,-,zl⟩:=pr_get hil (i:=m) (by rw [hmm];omega);rw [HMM.out] at hlen;generalize ((p::r).getD m (0,0)).1=x at *;have hx0:((m:Int)+1==0)=false:=by simp;omega
  subst hlf;clear hol hil;go_wp2
  exact bodyPost_ret (results_c rfl rfl (run_loadVar_two Tryz.underlying135 rfl xk (v:= .int .i64 x) (u:= .int .i64 ((m:Int)+1)) ((World.cell?_setCell_other _ _ _ _ xsi).trans (World.cell?_setCell_same _ _ _ c_r0)) (World.cell?_setCell_same _ _ _ ((World.cell?_setCell_other _ _ _ _ xsi).trans c_r1)))) rfl ⟨by push_cast;rfl,by (exact xbel)⟩
theorem Leaf18_ok (c:SlC) (a:SlA) (hm:slMay c=true) (hM:c.cs.length≤8192) (k:Nat) (hk:k<c.cs.length) (w:World) (hin:SlIn w c a):
    Calls Tryz.prog 108 #[slV c a,.int .i64 k] w (AnsB w (tdV (leafT c k).1 (leafT c k).2)):=by
 obtain ⟨S,D,M,hS,hS2,hS4,hS64,hcm,-,-,-,hSM,hks,hvs,hws,hwl⟩:=bld_facts hm hM;have hlf:leafT c k=if prs c (k*S) ((k+1)*S)=[] then (0,0) else (((prs c (k*S) ((k+1)*S)).getD ((prs c (k*S) ((k+1)*S)).length-1) (0,0)).1,(((prs c (k*S) ((k+1)*S)).length:Nat):Int)):=by unfold leafT;rw [hS2]
 have hlen:(prs c (k*S) ((k+1)*S)).length≤64:=by
  rw [prs_length];have:=cntW_le c.ws (k*S) ((k+1)*S);have e:(k+1)*S=k*S+S:=by rw [Nat.add_mul,Nat.one_mul]
  omega
 have hk1:(k:Int)*(S:Int)=((k*S:Nat):Int):=by push_cast;rfl
 have hk2:((k:Int)+1)*(S:Int)=(((k+1)*S:Nat):Int):=by push_cast;rfl
 have hkb1:k*S≤S*M:=by rw [Nat.mul_comm S];exact Nat.mul_le_mul_right _ xo
 have hkb2:(k+1)*S≤S*M:=by rw [Nat.mul_comm S];exact Nat.mul_le_mul_right _ xo
 have PR:=hid (fun W (hb:Below w.heap.size w W)=>Of04_ok c a (k*S) ((k+1)*S) xo xo xo xo xo W (hin.below hb));obtain ⟨V,hV⟩:∃V,leafT c k=V:=⟨_,rfl⟩
 rw [hV] at hlf ⊢;generalize prs c (k*S) ((k+1)*S)=L at *;generalize k*S=p1 at *;generalize (k+1)*S=p2 at *;obtain ⟨seg,ws,ks,vs,cs,laid⟩:=c;obtain ⟨wa,ka,va,ca,wc,kc,vc,cc⟩:=a;dsimp only [slV] at *;subst hS;have hkb:k≤8192:=xo;have hp1:p1≤65536:=xo;have hp2:p2≤65536:=xo;clear hin hm hM hks hws hwl hV hcm hk hSM hS2 hvs hkb1 hkb2;cases L with
 | nil=>
  rw [if_pos rfl] at hlf;subst hlf;go_enter Tryz.func108,Tryz.ntmps108
  go_wp2_with fail
  refine (PR.out _ xbel).mono ?_;rintro e w1 ⟨vl,rfl,hol,hb1⟩;have hz_w1:=hb1.size;try simp only [World.size_alloc,World.size_setCell] at hz_w1
  have hh:=bc6 hb1 (au6 (al6 (b:=w.heap.size) xsi));obtain ⟨c_t0,c_t1,c_t2,c_t3,c_t4,c_t5⟩:=hh;have z_t:=blt hb1 (auz (alz (b:=w.heap.size) xsi));have hh:=bc2 hb1 (al2 (b:=w.heap.size+1) xsi);obtain ⟨c_r0,c_r1⟩:=hh;have hh:=bf2 hb1 (alz (b:=w.heap.size+1) xsi) (alf2 (b:=w.heap.size+1) xsi);obtain ⟨f_r0,f_r1⟩:=hh;have z_r:=blt hb1 (alz (b:=w.heap.size+1) xsi);have hB1:Below w.heap.size w w1:=xbel;obtain ⟨la,lc,hvl,-⟩:=owns_news hol;replace hvl:vl= .slice la 0 lc:=hvl;subst hvl;clear hol;go_wp2
  exact bodyPost_ret (results_c rfl rfl (run_loadVar_two Tryz.underlying125 rfl xk (v:= .int .i64 0) (u:= .int .i64 0) ((World.cell?_setCell_other _ _ _ _ xsi).trans (World.cell?_setCell_same _ _ _ c_r0)) (World.cell?_setCell_same _ _ _ ((World.cell?_setCell_other _ _ _ _ xsi).trans c_r1)))) rfl ⟨rfl,by (exact xbel)⟩
 | cons p r=>
  rw [if_neg xsi] at hlf;obtain ⟨m,hmm⟩:∃m,(p::r).length=m+1:=⟨r.length,rfl⟩
  rw [hmm,Nat.add_sub_cancel] at hlf;have HMM:=hid hmm;go_enter Tryz.func108,Tryz.ntmps108
  go_wp2_with fail
  refine (PR.out _ xbel).mono ?_;rintro e w1 ⟨vl,rfl,hol,hb1⟩;have hz_w1:=hb1.size;try simp only [World.size_alloc,World.size_setCell] at hz_w1
  have hh:=bc6 hb1 (au6 (al6 (b:=w.heap.size) xsi));obtain ⟨c_t0,c_t1,c_t2,c_t3,c_t4,c_t5⟩:=hh;have z_t:=blt hb1 (auz (alz (b:=w.heap.size) xsi));have hh:=bc2 hb1 (al2 (b:=w.heap.size+1) xsi);obtain ⟨c_r0,c_r1⟩:=hh;have hh:=bf2 hb1 (alz (b:=w.heap.size+1) xsi) (alf2 (b:=w.heap.size+1) xsi);obtain ⟨f_r0,f_r1⟩:=hh;have z_r:=blt hb1 (alz (b:=w.heap.size+1) xsi);have hB1:Below w.heap.size w w1:=xbel;obtain ⟨la,lc,hvl,hil,-,-,-,-⟩:=row_of_owns hol;rw [HMM.out] at hvl;subst hvl;obtain ⟨bl,ol,rfl,c0,-,zl⟩:=pr_get hil (i:=m) (by rw [hmm];omega);rw [HMM.out] at hlen;generalize ((p::r).getD m (0,0)).1=x at *;have hx0:((m:Int)+1==0)=false:=by simp;omega
  subst hlf;clear hol hil;go_wp2
  exact bodyPost_ret (results_c rfl rfl (run_loadVar_two Tryz.underlying125 rfl xk (v:= .int .i64 x) (u:= .int .i64 ((m:Int)+1)) ((World.cell?_setCell_other _ _ _ _ xsi).trans (World.cell?_setCell_same _ _ _ c_r0)) (World.cell?_setCell_same _ _ _ ((World.cell?_setCell_other _ _ _ _ xsi).trans c_r1)))) rfl ⟨by push_cast;rfl,by (exact xbel)⟩
theorem First_ok (l:Int) (h1:1≤l) (h2:l≤14) (w:World):
    Calls Tryz.prog 107 #[.int .i64 l] w fun e w'=>e= .returned (.int .i64 (2^(l.toNat-1)))∧w=w':=by
 have e:(l-1).toNat=l.toNat-1:=xo;have E:=hid (fun w=>Pow_ok (l-1) xo xo w);rw [e] at E;clear e;go_enter Tryz.func107,Tryz.ntmps107
 go_wp2_with fail
 refine (E.out _).mono ?_;rintro e w' ⟨rfl,rfl⟩;go_wp2
 go_ret
 exact ⟨rfl,rfl⟩
end
section
open Go.RowKit Go.Shelf
attribute [local go_sem] Oper.semAt_some
theorem Tree18_leaf (seg:Int) (wa ka va ca:Option Addr) (wc kc vc cc lw lk lv lc:Nat) (laid:Int) (w:World) (l:Int) (M n:Nat) (hl1:1≤l) (hl2:l≤14) (hM:(2:Int)^(l.toNat-1)=M) (hM2:M≤8192) (h1:M≤n) (h2:n<2*M) (tm tc:Int)
    (LF:Hid (∀W,Below w.heap.size w W→Calls Tryz.prog 108 #[.agg #[.int .i64 seg,.slice wa lw wc,.slice ka lk kc,.slice va lv vc,.slice ca lc cc,.int .u64 laid],.int .i64 ((n:Int)-M)] W (AnsB W (tdV tm tc)))):
    Calls Tryz.prog 73 #[.agg #[.int .i64 seg,.slice wa lw wc,.slice ka lk kc,.slice va lv vc,.slice ca lc cc,.int .u64 laid],.int .i64 l,.int .i64 n] w (AnsB w (tdV tm tc)):=by
    have FI:=hid (fun w=>First_ok l hl1 hl2 w);rw [hM] at FI;have hcmp:decide ((n:Int)≥M)=true:=by simp;omega
    clear hM;go_enter Tryz.func73,Tryz.ntmps73
    go_wp2_with fail
    refine (FI.out _).mono ?_;rintro e w' ⟨rfl,rfl⟩;go_wp2
    generalize hwz:((w.alloc _).alloc _)=wz;have hh:=ec6 hwz (au6 (al6 (b:=w.heap.size) xsi));obtain ⟨c_t0,c_t1,c_t2,c_t3,c_t4,c_t5⟩:=hh;have z_t:=elt hwz (auz (alz (b:=w.heap.size) xsi));have hh:=ec2 hwz (al2 (b:=w.heap.size+1) xsi);obtain ⟨c_r0,c_r1⟩:=hh;have hh:=ef2 hwz (alf2 (b:=w.heap.size+1) xsi);obtain ⟨f_r0,f_r1⟩:=hh;have z_r:=elt hwz (alz (b:=w.heap.size+1) xsi);have HS:Hid (Below w.heap.size w wz):=by rw [←hwz];exact hid ((br.alloc (Nat.le_refl _) _).alloc xsi _)
    have hz:w.heap.size+2=wz.heap.size:=by rw [←hwz];simp
    clear hwz;refine wp_region_facts 6 xk (N:=29) rfl xk xk xdd (fun w'=>Below wz.heap.size wz w') (Ext 33) (factAt [.is (.agg #[.int .i64 seg,.slice wa lw wc,.slice ka lk kc,.slice va lv vc,.slice ca lc cc,.int .u64 laid]),.is (.int .i64 n),.is (.int .i64 l),.is (.int .i64 M),.is (.int .i64 ((n:Int)-M)),.is (tdV tm tc)]) (factAt_stays _) br.drew ?steps ?fin
    case steps=>
     refine ⟨?o0,?o1,?o2,?o3,?o4,?o5,trivial⟩<;>intro u a w' ev hJ hd K hK
     case o0=>
      have e3:tg a 3= .pointer (some ⟨w.heap.size,0,none⟩):=ev 3 xdd;have g0:=xjc hJ c_t0;have g1:=xjc hJ c_t1;have g2:=xjc hJ c_t2;have g3:=xjc hJ c_t3;have g4:=xjc hJ c_t4;have g5:=xjc hJ c_t5;have HK:=hid hK;clear hK ev hd;go_simp;exact HK.out _ _ xzc hJ rfl (Ext.refl _ _)
     case o1=>
      have e2:tg a 2= .int .i64 n:=ev 2 xdd;have HK:=hid hK;clear hK ev hd;go_simp;exact HK.out _ _ xzc hJ rfl (Ext.refl _ _)
     case o2=>
      have e1:tg a 1= .int .i64 l:=ev 1 xdd;have HK:=hid hK;clear hK ev hd;go_simp;exact HK.out _ _ xzc hJ rfl (Ext.refl _ _)
     case o3=>
      have e13:tg a 13= .int .i64 l:=(ev 13 xdd).trans (hd 2 _ xk rfl);have HK:=hid hK;have HC:=hid (FI.out w');clear hK ev hd;go_simp;refine HC.out.mono ?_;rintro e w'' ⟨rfl,rfl⟩;exact HK.out _ _ xzc hJ rfl (Ext.refl _ _)
     case o4=>
      have e12:tg a 12= .int .i64 n:=(ev 12 xdd).trans (hd 1 _ xk rfl);have e14:tg a 14= .int .i64 M:=(ev 14 xdd).trans (hd 3 _ xk rfl);have HK:=hid hK;clear hK ev hd;go_simp;rw [IntWalk.i64_in _ xo];exact HK.out _ _ xzc hJ rfl (Ext.refl _ _)
     case o5=>
      have e11:tg a 11= .agg #[.int .i64 seg,.slice wa lw wc,.slice ka lk kc,.slice va lv vc,.slice ca lc cc,.int .u64 laid]:=(ev 11 xdd).trans (hd 0 _ xk rfl);have e15:tg a 15= .int .i64 ((n:Int)-M):=(ev 15 xdd).trans (hd 4 _ xk rfl);have HK:=hid hK;have HC:=hid (LF.out w' (below_via hJ HS.out xo));have hzJ:=hJ.size;clear hK ev hd;go_simp;refine HC.out.mono ?_;rintro e w'' ⟨rfl,hb⟩;exact HK.out _ _ xzc (hJ.trans (hb.mono hzJ)) rfl (Ext.below hb)
    case fin=>
     intro u w2 hJ hG;have h1:u 16=tdV tm tc:=hG 5 _ rfl;have d0:=xjc hJ c_r0;have d1:=xjc hJ c_r1;have q0:=xjf hJ f_r0;have q1:=xjf hJ f_r1;have HB2:=below_via hJ HS.out xo;have hz2:=hJ.size;clear hG hJ;simp only [mixFrame,mixL,dstsOf,List.take_succ_cons,List.take_zero,List.filterMap_cons,List.filterMap_nil,List.contains_cons,List.contains_nil,Nat.reduceBEq,Bool.or_false,Bool.false_or,Bool.or_true,Bool.true_or,if_true,if_false,Bool.false_eq_true,Nat.reduceAdd,Nat.zero_add,List.drop_succ_cons,List.drop_zero,h1];go_wp2
     exact bodyPost_ret (results_c rfl rfl (run_loadVar_two Tryz.underlying125 rfl xk (v:= .int .i64 tm) (u:= .int .i64 tc) ((World.cell?_setCell_other _ _ _ _ xsi).trans (World.cell?_setCell_same _ _ _ d0)) (World.cell?_setCell_same _ _ _ ((World.cell?_setCell_other _ _ _ _ xsi).trans d1)))) rfl ⟨rfl,by (exact xbel)⟩
theorem Tree18_node (seg:Int) (wa ka va ca:Option Addr) (wc kc vc cc lw lk lv lc:Nat) (laid:Int) (w:World) (l:Int) (M n:Nat) (hl1:1≤l) (hl2:l≤14) (hM:(2:Int)^(l.toNat-1)=M) (hM2:M≤8192) (h1:n<M) (am ac bm bc tm tc:Int)
    (TA:Hid (∀W,Below w.heap.size w W→Calls Tryz.prog 73 #[.agg #[.int .i64 seg,.slice wa lw wc,.slice ka lk kc,.slice va lv vc,.slice ca lc cc,.int .u64 laid],.int .i64 l,.int .i64 (2*(n:Int))] W (AnsB W (tdV am ac))))
    (TB:Hid (∀W,Below w.heap.size w W→Calls Tryz.prog 73 #[.agg #[.int .i64 seg,.slice wa lw wc,.slice ka lk kc,.slice va lv vc,.slice ca lc cc,.int .u64 laid],.int .i64 l,.int .i64 (2*(n:Int)+1)] W (AnsB W (tdV bm bc))))
    (AB:Hid (∀W,Calls Tryz.prog 109 #[tdV am ac,tdV bm bc] W (AnsB W (tdV tm tc)))):
    Calls Tryz.prog 73 #[.agg #[.int .i64 seg,.slice wa lw wc,.slice ka lk kc,.slice va lv vc,.slice ca lc cc,.int .u64 laid],.int .i64 l,.int .i64 n] w (AnsB w (tdV tm tc)):=by
    have FI:=hid (fun w=>First_ok l hl1 hl2 w);rw [hM] at FI;have hcmp:decide ((n:Int)≥M)=false:=by simp;omega
    clear hM;go_enter Tryz.func73,Tryz.ntmps73
    go_wp2_with fail
    refine (FI.out _).mono ?_;rintro e w' ⟨rfl,rfl⟩;go_wp2
    generalize hwz:((w.alloc _).alloc _)=wz;have hh:=ec6 hwz (au6 (al6 (b:=w.heap.size) xsi));obtain ⟨c_t0,c_t1,c_t2,c_t3,c_t4,c_t5⟩:=hh;have z_t:=elt hwz (auz (alz (b:=w.heap.size) xsi));have hh:=ec2 hwz (al2 (b:=w.heap.size+1) xsi);obtain ⟨c_r0,c_r1⟩:=hh;have hh:=ef2 hwz (alf2 (b:=w.heap.size+1) xsi);obtain ⟨f_r0,f_r1⟩:=hh;have z_r:=elt hwz (alz (b:=w.heap.size+1) xsi);have HS:Hid (Below w.heap.size w wz):=by rw [←hwz];exact hid ((br.alloc (Nat.le_refl _) _).alloc xsi _)
    have hz:w.heap.size+2=wz.heap.size:=by rw [←hwz];simp
    clear hwz;refine wp_region_facts 12 xk (N:=29) rfl xk xk xdd (fun w'=>Below wz.heap.size wz w') (Ext 33) (factAt [.is (.agg #[.int .i64 seg,.slice wa lw wc,.slice ka lk kc,.slice va lv vc,.slice ca lc cc,.int .u64 laid]),.is (.int .i64 l),.is (.int .i64 n),.is (.int .i64 (2*(n:Int))),.is (tdV am ac),.is (.agg #[.int .i64 seg,.slice wa lw wc,.slice ka lk kc,.slice va lv vc,.slice ca lc cc,.int .u64 laid]),.is (.int .i64 l),.is (.int .i64 n),.is (.int .i64 (2*(n:Int))),.is (.int .i64 (2*(n:Int)+1)),.is (tdV bm bc),.is (tdV tm tc)]) (factAt_stays _) br.drew ?steps ?fin
    case steps=>
     refine ⟨?o0,?o1,?o2,?o3,?o4,?o5,?o6,?o7,?o8,?o9,?o10,?o11,trivial⟩<;>intro u a w' ev hJ hd K hK
     case o0=>
      have e3:tg a 3= .pointer (some ⟨w.heap.size,0,none⟩):=ev 3 xdd;have g0:=xjc hJ c_t0;have g1:=xjc hJ c_t1;have g2:=xjc hJ c_t2;have g3:=xjc hJ c_t3;have g4:=xjc hJ c_t4;have g5:=xjc hJ c_t5;have HK:=hid hK;clear hK ev hd;go_simp;exact HK.out _ _ xzc hJ rfl (Ext.refl _ _)
     case o1=>
      have e1:tg a 1= .int .i64 l:=ev 1 xdd;have HK:=hid hK;clear hK ev hd;go_simp;exact HK.out _ _ xzc hJ rfl (Ext.refl _ _)
     case o2=>
      have e2:tg a 2= .int .i64 n:=ev 2 xdd;have HK:=hid hK;clear hK ev hd;go_simp;exact HK.out _ _ xzc hJ rfl (Ext.refl _ _)
     case o3=>
      have e19:tg a 19= .int .i64 n:=(ev 19 xdd).trans (hd 2 _ xk rfl);have HK:=hid hK;clear hK ev hd;go_simp;rw [IntWalk.i64_in _ xo];exact HK.out _ _ xzc hJ rfl (Ext.refl _ _)
     case o4=>
      have e17:tg a 17= .agg #[.int .i64 seg,.slice wa lw wc,.slice ka lk kc,.slice va lv vc,.slice ca lc cc,.int .u64 laid]:=(ev 17 xdd).trans (hd 0 _ xk rfl);have e18:tg a 18= .int .i64 l:=(ev 18 xdd).trans (hd 1 _ xk rfl);have e20:tg a 20= .int .i64 (2*(n:Int)):=(ev 20 xdd).trans (hd 3 _ xk rfl);have HK:=hid hK;have HC:=hid (TA.out w' (below_via hJ HS.out xo));have hzJ:=hJ.size;clear hK ev hd;go_simp;refine HC.out.mono ?_;rintro e w'' ⟨rfl,hb⟩;exact HK.out _ _ xzc (hJ.trans (hb.mono hzJ)) rfl (Ext.below hb)
     case o5=>
      have e3:tg a 3= .pointer (some ⟨w.heap.size,0,none⟩):=ev 3 xdd;have g0:=xjc hJ c_t0;have g1:=xjc hJ c_t1;have g2:=xjc hJ c_t2;have g3:=xjc hJ c_t3;have g4:=xjc hJ c_t4;have g5:=xjc hJ c_t5;have HK:=hid hK;clear hK ev hd;go_simp;exact HK.out _ _ xzc hJ rfl (Ext.refl _ _)
     case o6=>
      have e1:tg a 1= .int .i64 l:=ev 1 xdd;have HK:=hid hK;clear hK ev hd;go_simp;exact HK.out _ _ xzc hJ rfl (Ext.refl _ _)
     case o7=>
      have e2:tg a 2= .int .i64 n:=ev 2 xdd;have HK:=hid hK;clear hK ev hd;go_simp;exact HK.out _ _ xzc hJ rfl (Ext.refl _ _)
     case o8=>
      have e24:tg a 24= .int .i64 n:=(ev 24 xdd).trans (hd 7 _ xk rfl);have HK:=hid hK;clear hK ev hd;go_simp;rw [IntWalk.i64_in _ xo];exact HK.out _ _ xzc hJ rfl (Ext.refl _ _)
     case o9=>
      have e25:tg a 25= .int .i64 (2*(n:Int)):=(ev 25 xdd).trans (hd 8 _ xk rfl);have HK:=hid hK;clear hK ev hd;go_simp;rw [IntWalk.i64_in _ xo];exact HK.out _ _ xzc hJ rfl (Ext.refl _ _)
     case o10=>
      have e22:tg a 22= .agg #[.int .i64 seg,.slice wa lw wc,.slice ka lk kc,.slice va lv vc,.slice ca lc cc,.int .u64 laid]:=(ev 22 xdd).trans (hd 5 _ xk rfl);have e23:tg a 23= .int .i64 l:=(ev 23 xdd).trans (hd 6 _ xk rfl);have e26:tg a 26= .int .i64 (2*(n:Int)+1):=(ev 26 xdd).trans (hd 9 _ xk rfl);have HK:=hid hK;have HC:=hid (TB.out w' (below_via hJ HS.out xo));have hzJ:=hJ.size;clear hK ev hd;go_simp;refine HC.out.mono ?_;rintro e w'' ⟨rfl,hb⟩;exact HK.out _ _ xzc (hJ.trans (hb.mono hzJ)) rfl (Ext.below hb)
     case o11=>
      have e21:tg a 21=tdV am ac:=(ev 21 xdd).trans (hd 4 _ xk rfl);have e27:tg a 27=tdV bm bc:=(ev 27 xdd).trans (hd 10 _ xk rfl);have HK:=hid hK;have HC:=hid (AB.out w');have hzJ:=hJ.size;clear hK ev hd;go_simp;refine HC.out.mono ?_;rintro e w'' ⟨rfl,hb⟩;exact HK.out _ _ xzc (hJ.trans (hb.mono hzJ)) rfl (Ext.below hb)
    case fin=>
     intro u w2 hJ hG;have h1:u 28=tdV tm tc:=hG 11 _ rfl;have d0:=xjc hJ c_r0;have d1:=xjc hJ c_r1;have q0:=xjf hJ f_r0;have q1:=xjf hJ f_r1;have HB2:=below_via hJ HS.out xo;have hz2:=hJ.size;clear hG hJ;simp only [mixFrame,mixL,dstsOf,List.take_succ_cons,List.take_zero,List.filterMap_cons,List.filterMap_nil,List.contains_cons,List.contains_nil,Nat.reduceBEq,Bool.or_false,Bool.false_or,Bool.or_true,Bool.true_or,if_true,if_false,Bool.false_eq_true,Nat.reduceAdd,Nat.zero_add,List.drop_succ_cons,List.drop_zero,h1];go_wp2
     exact bodyPost_ret (results_c rfl rfl (run_loadVar_two Tryz.underlying125 rfl xk (v:= .int .i64 tm) (u:= .int .i64 tc) ((World.cell?_setCell_other _ _ _ _ xsi).trans (World.cell?_setCell_same _ _ _ d0)) (World.cell?_setCell_same _ _ _ ((World.cell?_setCell_other _ _ _ _ xsi).trans d1)))) rfl ⟨rfl,by (exact xbel)⟩
theorem Tree18_ok (c:SlC) (a:SlA) (hm:slMay c=true) (hM:c.cs.length≤8192) (l:Int) (hl:l=(c.cs.length.log2:Nat)+1):∀d n:Nat,1≤n→n.log2+d=c.cs.length.log2→∀w,SlIn w c a→
    Calls Tryz.prog 73 #[slV c a,.int .i64 l,.int .i64 n] w (AnsB w (tdV (trN c c.cs.length.log2 n).1 (trN c c.cs.length.log2 n).2)):=by
 obtain ⟨S,D,M,hS,hS2,hS4,hS64,hcm,hMD,hDM,hD13,hSM,hks,hvs,hws,hwl⟩:=bld_facts hm hM;have hlt:l.toNat-1=D:=by rw [hcm,hMD] at hl;omega
 have hM1:(2:Int)^(l.toNat-1)=M:=by rw [hlt,←hDM];push_cast;rfl
 have hM8:M≤8192:=xo;have hlb:1≤l∧l≤14:=xo;rw [hcm,hMD];intro d;induction d with
 | zero=>
  intro n hn hd w hin;rw [Nat.add_zero] at hd;have h1:M≤n:=by rw [←hDM,←hd];exact Nat.log2_self_le xo
  have h2:n<2*M:=by
   have h3:n<2^(n.log2+1):=Nat.lt_log2_self;rw [hd,Nat.pow_succ,hDM] at h3;omega
  have ht:trN c D n=leafT c (n-M):=by rw [trN_leaf (by rw [hDM];exact h1),hDM]
  have LF:=hid (fun W (hb:Below w.heap.size w W)=>Leaf18_ok c a hm hM (n-M) xo W (hin.below hb));rw [←ht,show ((n-M:Nat):Int)=(n:Int)-M by omega] at LF;exact Tree18_leaf _ _ _ _ _ _ _ _ _ _ _ _ _ _ w l M n hlb.1 hlb.2 hM1 hM8 h1 h2 _ _ LF
 | succ d ih=>
  intro n hn hd w hin;have h1:n<M:=by
   rw [←hDM];exact (Nat.log2_lt xo).1 xo
  have e1:(2*n).log2=n.log2+1:=by rw [log2_two xo];congr 2;omega
  have e2:(2*n+1).log2=n.log2+1:=by rw [log2_two xo];congr 2;omega
  have TA:=hid (fun W (hb:Below w.heap.size w W)=>ih (2*n) xo xo W (hin.below hb));have TB:=hid (fun W (hb:Below w.heap.size w W)=>ih (2*n+1) xo xo W (hin.below hb));rw [show ((2*n:Nat):Int)=2*(n:Int) by omega] at TA;rw [show ((2*n+1:Nat):Int)=2*(n:Int)+1 by omega] at TB;have hb1:=trN_bd c D (2*n);have hb2:=trN_bd c D (2*n+1);have hbs:((c.seg.toNat* 2^D:Nat):Int)≤65536:=by rw [hS2,hDM];omega
  have AB:=hid (fun W=>above18_ok (trN c D (2*n)).1 (trN c D (2*n)).2 (trN c D (2*n+1)).1 (trN c D (2*n+1)).2 xo xo xo xo W);have ht:=trN_node (c:=c) (D:=D) hn (by rw [hDM];exact h1);rw [ht];exact Tree18_node _ _ _ _ _ _ _ _ _ _ _ _ _ _ w l M n hlb.1 hlb.2 hM1 hM8 h1 _ _ _ _ _ _ TA TB AB
end
end Go.Proofs.YtbedhbpgnfffmaaGreat

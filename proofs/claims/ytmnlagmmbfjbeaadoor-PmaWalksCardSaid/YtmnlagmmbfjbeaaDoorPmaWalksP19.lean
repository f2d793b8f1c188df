/- Merged: Share, GetPl, Ref08, Plc. -/
import Derived.Test.YtmnlagmmbfjbeaaDoorPmaWalksP18
import Derived.Test.YtmnlagmmbfjbeaaDoorPmaWalksP3
import Derived.Test.YtmnlagmmbfjbeaaDoorPmaWalksP14
import Derived.Test.YtmnlagmmbfjbeaaDoorPmaWalksP15
import Derived.Deep.CutRange
import Derived.Test.YtmnlagmmbfjbeaaDoorPmaWalksP10
namespace Go.Proofs.YtmnlagmmbfjbeaaDoor
set_option maxRecDepth 100000
set_option maxHeartbeats 40000000
set_option linter.unusedVariables false
set_option linter.unusedSimpArgs false
section
open Go.RowKit
def upD (x P:Nat):Nat:=(x+P-1)/P
theorem upD_le {x P k:Nat} (hP:0<P):upD x P≤k↔x≤k*P:=by
 unfold upD;constructor
 · intro h;have h1:=Nat.div_add_mod (x+P-1) P;have h2:=Nat.mod_lt (x+P-1) hP;have h3:P*((x+P-1)/P)≤P*k:=Nat.mul_le_mul_left _ h;rw [Nat.mul_comm k];omega
 · intro h;apply Nat.le_of_lt_succ;rw [Nat.div_lt_iff_lt_mul hP,Nat.succ_mul];omega
theorem upD_bd (x:Nat) {P:Nat} (hP:0<P):x≤upD x P*P∧upD x P*P<x+P:=by
 constructor
 · exact (upD_le hP).1 (Nat.le_refl _)
 · unfold upD;have h1:=Nat.div_mul_le_self (x+P-1) P;omega
theorem pl_in {n lo w P q k:Nat} (hn:0<n) (hw:0<w):(lo+q*w≤plF n lo (lo+P*w) k∧plF n lo (lo+P*w) k<lo+(q+1)*w)↔(q*n≤k*P∧k*P<(q+1)*n):=by
 unfold plF;rw [Nat.add_sub_cancel_left];have e1:(q*w≤k*(P*w)/n)↔q*n≤k*P:=by
  rw [Nat.le_div_iff_mul_le hn];constructor
  · intro h;refine Nat.le_of_mul_le_mul_right (c:=w) ?_ hw;rw [Nat.mul_right_comm,Nat.mul_assoc k];exact h
  · intro h;have:=Nat.mul_le_mul_right w h;rw [Nat.mul_right_comm,Nat.mul_assoc k] at this;exact this
 have e2:(k*(P*w)/n<(q+1)*w)↔k*P<(q+1)*n:=by
  rw [Nat.div_lt_iff_lt_mul hn];constructor
  · intro h;refine Nat.lt_of_mul_lt_mul_right (a:=w) ?_;rw [Nat.mul_assoc k,Nat.mul_right_comm (q+1)];exact h
  · intro h;have:=(Nat.mul_lt_mul_right hw).2 h;rw [Nat.mul_assoc k,Nat.mul_right_comm (q+1)] at this;exact this
 omega
theorem countP_between (a b:Nat):∀n,a≤b→b≤n→(List.range n).countP (fun k=>decide (a≤k)&&decide (k<b))=b-a:=by
 intro n hab hbn;induction n with
 | zero=>simp;omega
 | succ n ih =>
  rw [List.range_succ,List.countP_append,List.countP_singleton];by_cases h:b≤n
  · rw [ih h];have:¬n<b:=xo;simp [this]
  · obtain rfl:b=n+1:=xo;by_cases ha:a=n+1
    · subst ha;have e:(List.range n).countP (fun k=>decide (n+1≤k)&&decide (k<n+1))=0:=by
       rw [List.countP_eq_zero];intro k hk;have:=List.mem_range.1 hk;simp only [Bool.and_eq_true,decide_eq_true_eq];omega
      rw [e];simp
    · have e :(List.range n).countP (fun k=>decide (a≤k)&&decide (k<n+1))=n-a:=by
        rcases Nat.eq_or_lt_of_le (show a≤n by omega) with q|q
        · subst q;rw [List.countP_eq_zero.2]
          · omega
          · intro k hk;have:=List.mem_range.1 hk;simp;omega
        · clear ih;have:(List.range n).countP (fun k=>decide (a≤k)&&decide (k<n+1))=(List.range n).countP (fun k=>decide (a≤k)):=by
           apply List.countP_congr;intro k hk;have:=List.mem_range.1 hk;simp;omega
          rw [this];clear this hab hbn h ha;induction n with
          | zero=>omega
          | succ m ih=>
           rw [List.range_succ,List.countP_append,List.countP_singleton];rcases Nat.eq_or_lt_of_le (show a≤m by omega) with q2|q2
           · subst q2;have:(List.range a).countP (fun k=>decide (a≤k))=0:=by
              rw [List.countP_eq_zero];intro k hk;have:=List.mem_range.1 hk;simp;omega
             rw [this];simp
           · rw [ih q2];have:a≤m:=xo;simp [this];omega
      rw [e];have:a≤n:=xo;simp [this];omega
theorem share (n lo w P q:Nat) (hw:0<w) (hP:0<P) (hq:q<P):∃c,(List.range n).countP (fun k=>decide (lo+q*w≤plF n lo (lo+P*w) k)&&decide (plF n lo (lo+P*w) k<lo+(q+1)*w))=c∧c*P<n+P∧n<(c+1)*P:=by
 rcases Nat.eq_zero_or_pos n with h0|h0
 · subst h0;exact ⟨0,rfl,by omega,by omega⟩
 refine ⟨upD ((q+1)*n) P-upD (q*n) P,?_,?_,?_⟩
 · rw [←countP_between (upD (q*n) P) (upD ((q+1)*n) P) n]
   · apply List.countP_congr;intro k _;have h:=pl_in (lo:=lo) (P:=P) (q:=q) (k:=k) h0 hw;have h1:=upD_le (x:=q*n) (k:=k) hP;have h2:=upD_le (x:=(q+1)*n) (k:=k) hP;simp only [Bool.and_eq_true,decide_eq_true_eq];omega
   · rw [upD_le hP];have:=(upD_bd ((q+1)*n) hP).1;rw [Nat.succ_mul] at this ⊢;omega
   · rw [upD_le hP];rw [Nat.mul_comm n];exact Nat.mul_le_mul_right _ xo
 · have a1:=upD_bd (q*n) hP;have a2:=upD_bd ((q+1)*n) hP;rw [Nat.sub_mul];rw [Nat.succ_mul] at a2 ⊢;omega
 · have a1:=upD_bd (q*n) hP;have a2:=upD_bd ((q+1)*n) hP;rw [Nat.succ_mul,Nat.sub_mul];rw [Nat.succ_mul] at a2 ⊢;omega
theorem cntW_add (ws:List Int) {a b d:Nat} (h1:a≤b) (h2:b≤d):cntW ws a d=cntW ws a b+cntW ws b d:=by
 unfold cntW;rw [←List.countP_append];congr 1
 have e:List.range' a (b-a)++List.range' b (d-b)=List.range' a (d-a):=by
  have:=List.range'_append (s:=a) (m:=b-a) (n:=d-b) (step:=1);rw [show a+1*(b-a)=b by omega,show b-a+(d-b)=d-a by omega] at this;exact this
 rw [e]
theorem cntW_congr {ws ws':List Int} {a b:Nat} (h:∀i,a≤i→i<b→bitW ws i=bitW ws' i):cntW ws a b=cntW ws' a b:=by
 unfold cntW;apply List.countP_congr;intro i hi;have:=List.mem_range'_1.1 hi;rw [h i this.1 xo]
theorem cntW_zero {ws:List Int} {a b:Nat} (h:∀i,a≤i→i<b→bitW ws i=false):cntW ws a b=0:=by
 unfold cntW;rw [List.countP_eq_zero];intro i hi;have:=List.mem_range'_1.1 hi;rw [h i this.1 xo];decide
theorem sumC_cnt {c:SlC} {S lw n lc:Nat} (h:SlGd c S lw n lc) (a:Nat):∀d,a+d≤lc→sumC c.cs a (a+d)=(cntW c.ws (a*S) ((a+d)*S):Int)
  | 0,_=>by rw [Nat.add_zero,sumC_nil,cntW_none (Nat.le_refl _)];rfl
  | d+1,hd=>by
   have ih:=sumC_cnt h a d xo;have e:=cntW_add c.ws (a:=a*S) (b:=(a+d)*S) (d:=(a+d+1)*S) (Nat.mul_le_mul_right _ xo) (Nat.mul_le_mul_right _ xo);rw [←Nat.add_assoc,sumC_succ c.cs xo,ih,h.cnt (a+d) xo,e];push_cast
   rfl
theorem sumC_cnt2 {c:SlC} {S lw n lc:Nat} (h:SlGd c S lw n lc) {a b:Nat} (hab:a≤b) (hb:b≤lc):sumC c.cs a b=(cntW c.ws (a*S) (b*S):Int):=by
 have:=sumC_cnt h a (b-a) xo;rwa [show a+(b-a)=b by omega] at this
theorem cnt_tks {c:SlC} {S lw n lc lo hi:Nat} (h:SlGd c S lw n lc) (hlo:lo≤hi) (hh:hi≤n) (x y:Nat):(y≤lo∨hi≤x→cntW (tks c lo (hi-lo)).ws x y=cntW c.ws x y)∧(lo≤x→y≤hi→cntW (tks c lo (hi-lo)).ws x y=0):=by
 constructor
 · intro hd;refine cntW_congr fun i h1 h2=> ?_
   rw [tks_bit h i (hi-lo) xo];have:(decide (lo≤i)&&decide (i<lo+(hi-lo)))=false:=by
    rw [Bool.and_eq_false_iff,decide_eq_false_iff_not,decide_eq_false_iff_not];omega
   rw [this];simp
 · intro h1 h2;refine cntW_zero fun i h3 h4=> ?_
   rw [tks_bit h i (hi-lo) xo];have:(decide (lo≤i)&&decide (i<lo+(hi-lo)))=true:=by
    rw [Bool.and_eq_true,decide_eq_true_eq,decide_eq_true_eq];omega
   rw [this];simp
theorem cnt_ly {c:SlC} {S lw n lc i:Nat} (h:SlGd c S lw n lc) (hi:i<n) (hb:bitW c.ws i=false) (key val:Int) (x y:Nat):cntW (lyC c i key val).ws x y=cntW c.ws x y+if x≤i∧i<y then 1 else 0:=by
 have hq:i/64<c.ws.length:=by rw [h.elw];have:=h.wn;omega
 have e:(lyC c i key val).ws=setL c.ws i:=by
  simp only [lyC,tkC];rw [clrL_same h.u hb]
 rw [e,cntW_set h.u hq hb]
theorem cnt_lys {c:SlC} {S lw n lc lo hi:Nat} (h:SlGd c S lw n lc) (hlo:lo≤hi) (hh:hi≤n) {L:List (Int×Int)} (hL:L.length≤hi-lo) (x y:Nat):∀k,k≤L.length→
    cntW (lys (tks c lo (hi-lo)) (plR L.length lo hi) L k).ws x y=cntW (tks c lo (hi-lo)).ws x y+(List.range k).countP (fun j=>decide (x≤plF L.length lo hi j)&&decide (plF L.length lo hi j<y))
  | 0,_=>by simp [lys]
  | k+1,hk=>by
   have hn:=h.n1;have g:=SlGd.lys (h.tks (lo:=lo) (hi-lo) xo) (fun k=>plR_ltn hL hh xo k) L k;rw [lys,cnt_ly g (plR_ltn hL hh xo k) (lys_free h hlo hh hL xo),cnt_lys h hlo hh hL x y k xo,List.range_succ,List.countP_append,List.countP_singleton,plR_get xo,Nat.add_assoc];congr 2
   by_cases q:x≤plF L.length lo hi k∧plF L.length lo hi k<y
   · rw [if_pos q,if_pos (by simp [q.1,q.2])]
   · rw [if_neg q,if_neg (by simpa using q)]
theorem cnt_sp {c:SlC} {S lw n lc lo hi:Nat} (h:SlGd c S lw n lc) (hlo:lo≤hi) (hh:hi≤n) {L:List (Int×Int)} (hL:L.length≤hi-lo) (x y:Nat):
    cntW (spC c lo hi L).ws x y=cntW (tks c lo (hi-lo)).ws x y+(List.range L.length).countP (fun j=>decide (x≤plF L.length lo hi j)&&decide (plF L.length lo hi j<y)):=
  cnt_lys h hlo hh hL x y L.length (Nat.le_refl _)
theorem cnt_out {c:SlC} {S lw n lc lo hi:Nat} (h:SlGd c S lw n lc) (hlo:lo≤hi) (hh:hi≤n) {L:List (Int×Int)} (hL:L.length≤hi-lo) {x y:Nat} (hd:y≤lo∨hi≤x):cntW (spC c lo hi L).ws x y=cntW c.ws x y:=by
 rw [cnt_sp h hlo hh hL,(cnt_tks h hlo hh x y).1 hd];have:(List.range L.length).countP (fun j=>decide (x≤plF L.length lo hi j)&&decide (plF L.length lo hi j<y))=0:=by
  rw [List.countP_eq_zero];intro j hj;have h1:=plF_lt (lo:=lo) (List.mem_range.1 hj) hL;have h2:lo≤plF L.length lo hi j:=Nat.le_add_right _ _;simp only [Bool.and_eq_true,decide_eq_true_eq];omega
 rw [this];rfl
theorem cnt_all {c:SlC} {S lw n lc lo hi:Nat} (h:SlGd c S lw n lc) (hlo:lo≤hi) (hh:hi≤n) {L:List (Int×Int)} (hL:L.length≤hi-lo):cntW (spC c lo hi L).ws lo hi=L.length:=by
 rw [cnt_sp h hlo hh hL,(cnt_tks h hlo hh lo hi).2 (Nat.le_refl _) (Nat.le_refl _),Nat.zero_add];have:(List.range L.length).countP (fun j=>decide (lo≤plF L.length lo hi j)&&decide (plF L.length lo hi j<hi))=(List.range L.length).length:=by
  rw [List.countP_eq_length];intro j hj;have h1:=plF_lt (lo:=lo) (List.mem_range.1 hj) hL;have h2:lo≤plF L.length lo hi j:=Nat.le_add_right _ _;simp only [Bool.and_eq_true,decide_eq_true_eq];omega
 rw [this,List.length_range]
theorem cnt_part {c:SlC} {S lw n lc lo w P q:Nat} (h:SlGd c S lw n lc) (hh:lo+P*w≤n) {L:List (Int×Int)} (hL:L.length≤P*w) (hw:0<w) (hP:0<P) (hq:q<P):∃x,cntW (spC c lo (lo+P*w) L).ws (lo+q*w) (lo+(q+1)*w)=x∧x*P<L.length+P∧L.length<(x+1)*P:=by
 have hq1:(q+1)*w≤P*w:=Nat.mul_le_mul_right _ hq;obtain ⟨x,e,h1,h2⟩:=share L.length lo w P q hw hP hq;refine ⟨x,?_,h1,h2⟩;rw [cnt_sp h (Nat.le_add_right _ _) hh xo,(cnt_tks h (Nat.le_add_right _ _) hh _ _).2 (Nat.le_add_right _ _) xo,Nat.zero_add];exact e
end
section
open Go.RowKit
theorem prs_in {c:SlC} {a b:Nat} {p:Int×Int}:p ∈ prs c a b↔∃j,(a≤j∧j<b∧bitW c.ws j=true)∧(c.ks.getD j 0,c.vs.getD j 0)=p:=by
 unfold prs plsW;rw [List.mem_map];constructor
 · rintro ⟨j,hj,rfl⟩;rw [List.mem_filter,List.mem_range'_1] at hj;exact ⟨j,⟨hj.1.1,by omega,hj.2⟩,rfl⟩
 · rintro ⟨j,⟨h1,h2,h3⟩,rfl⟩;exact ⟨j,List.mem_filter.2 ⟨List.mem_range'_1.2 ⟨h1,by omega⟩,h3⟩,rfl⟩
def fndL (l:List (Int×Int)) (key:Int):Option (Int×Int):=l.find? fun p=>p.1==key
theorem find_get {c:SlC} {key:Int} (h:seekE c=0):
    (∃r:Nat,findV c key=((r:Int),0)∧r<c.ks.length∧bitW c.ws r=true∧c.ks.getD r 0=key∧fndL (prs c 0 c.ks.length) key=some (key,c.vs.getD r 0))∨(findV c key=(0,6)∧fndL (prs c 0 c.ks.length) key=none):=by
 have hmo:=seek_mono h;have hF:=frS_is c.ws c.ks c.ks.length key;have hnv:nextV c key=if frS c.ws c.ks c.ks.length key=c.ks.length then (0,6) else ((frS c.ws c.ks c.ks.length key:Int),0):=by rw [nextV,if_pos h]
 generalize frS c.ws c.ks c.ks.length key=r at *;have hnone:(∀j,j<c.ks.length→bitW c.ws j=true→c.ks.getD j 0≠key)→fndL (prs c 0 c.ks.length) key=none:=by
  intro hn;rw [fndL,List.find?_eq_none];intro p hp;obtain ⟨j,⟨-,h2,h3⟩,rfl⟩:=prs_in.1 hp;simpa using hn j h2 h3
 by_cases hr:r=c.ks.length
 · right;rw [if_pos hr] at hnv;refine ⟨by rw [findV,hnv];rfl,hnone fun j hj hb=> ?_⟩;have:=hF.low j xo hb;omega
 · rw [if_neg hr] at hnv;have hrn:r<c.ks.length:=by have:=hF.le;omega
   obtain ⟨hb,hk⟩:=hF.hit hrn;by_cases hke:c.ks.getD r 0=key
   · left;refine ⟨r,by rw [findV,hnv];exact (if_pos rfl).trans (if_pos hke),hrn,hb,hke,?_⟩;cases hf:fndL (prs c 0 c.ks.length) key with
     | none=>
      rw [fndL,List.find?_eq_none] at hf;have:=hf (c.ks.getD r 0,c.vs.getD r 0) (prs_in.2 ⟨r,⟨by omega,hrn,hb⟩,rfl⟩);exact absurd (beq_iff_eq.2 hke) this
     | some p=>
      have h1:=List.find?_some hf;obtain ⟨j,⟨-,h2,h3⟩,rfl⟩:=prs_in.1 (List.mem_of_find?_eq_some hf);have hjk:c.ks.getD j 0=key:=by simpa using h1
      have hjr:j=r:=by
       rcases Nat.lt_trichotomy j r with q|q|q
       · have:=hF.low j q h3;omega
       · exact q
       · have:=hmo r j q h2 hb h3;omega
      rw [hjr,hke]
   · right;refine ⟨by rw [findV,hnv];exact (if_pos rfl).trans (if_neg hke),hnone fun j hj hbj e=> ?_⟩;rcases Nat.lt_trichotomy j r with q|q|q
     · have:=hF.low j q hbj;omega
     · rw [q] at e;exact hke e
     · have:=hmo r j q hj hb hbj;omega
end
section
open Go.RowKit Go.Shelf
attribute [local go_sem] Oper.semAt_some
end
section
open Go.RowKit Go.Shelf
attribute [local go_sem] Oper.semAt_some
def intsA (l:List Int):List (Array Value):=l.map fun x=> #[.int .i64 x]
theorem intsA_length (l:List Int):(intsA l).length=l.length:=by simp [intsA]
theorem intsA_get {l:List Int} {k:Nat} (h:k<l.length):(intsA l).getD k #[]= #[.int .i64 (l.getD k 0)]:=by
 simp [intsA,List.getD_eq_getElem?_getD,List.getElem?_eq_getElem h]
theorem take_succ_int {l:List Int} {k:Nat} (h:k<l.length):l.take (k+1)=l.take k++[l.getD k 0]:=by
 rw [List.take_succ_eq_append_getElem h];simp [List.getD_eq_getElem?_getD,List.getElem?_eq_getElem h]
structure PlBox (W:World) (b1 b2 b3:Nat) (m lo hi:Nat):Prop where
 n:W.cell? ⟨b1,0,none⟩=some (.int .i64 m)
 lo:W.cell? ⟨b2,0,none⟩=some (.int .i64 lo)
 hi:W.cell? ⟨b3,0,none⟩=some (.int .i64 hi)
theorem PlBox.below {W W':World} {b1 b2 b3 m lo hi:Nat} (h:PlBox W b1 b2 b3 m lo hi) (hb:Below W.heap.size W W'):PlBox W' b1 b2 b3 m lo hi:=
  ⟨(hb.cell (World.block_lt_of_cell? _ _ h.n)).trans h.n,(hb.cell (World.block_lt_of_cell? _ _ h.lo)).trans h.lo,(hb.cell (World.block_lt_of_cell? _ _ h.hi)).trans h.hi⟩
theorem PlBox.kept {S:Nat→Prop} {W W':World} {b1 b2 b3 m lo hi:Nat} (h:PlBox W b1 b2 b3 m lo hi) (hk:KpS S W W') (s1:S b1) (s2:S b2) (s3:S b3):PlBox W' b1 b2 b3 m lo hi:=
  ⟨hk.cell (a:=⟨b1,0,none⟩) s1 h.n,hk.cell (a:=⟨b2,0,none⟩) s2 h.lo,hk.cell (a:=⟨b3,0,none⟩) s3 h.hi⟩
theorem places1_iter (m lo hi:Nat) (hlh:lo≤hi) (hhi:hi≤65536) (hm:m≤65536) (S:Nat→Prop) (b1 b2 b3:Nat) (s1:S b1) (s2:S b2) (s3:S b3) (w:World) (hbx:PlBox w b1 b2 b3 m lo hi):
    Iter Tryd.prog 101 #[.pointer (some ⟨b1,0,none⟩),.pointer (some ⟨b2,0,none⟩),.pointer (some ⟨b3,0,none⟩)] (intsA (ints (plR m lo hi))) (KpS S) w:=by
 intro l J Jx W hW hJ hJx hY h0;have HY:=hid hY;have HJ:=hid hJ;have HBX:=hid (hbx.below hW);have HLN:=hid (show (intsA (ints (plR m lo hi))).length=m by rw [intsA_length,ints_length,plR_length]);have HGT:=hid (fun k (h:k<m)=>show (intsA (ints (plR m lo hi))).getD k #[]= #[.int .i64 (plF m lo hi k:Nat)] by
  rw [intsA_get (by rw [ints_length,plR_length];exact h),getD_ints,plR_get h])
 have HH0:=hid h0;clear hY hJ hJx hbx h0;generalize intsA (ints (plR m lo hi))=xs at *;refine callsIn_of_wp Tryd.func101 rfl trivial ?_ rfl;simp only [Tryd.ntmps101,List.size_toArray,List.length_cons,List.length_nil,Nat.reduceAdd,Nat.reduceSub,Array.replicate_succ,Array.replicate_zero,List.push_toArray,List.append_toArray,List.nil_append,List.cons_append];have q1:=HBX.out.n;gi_wp2
 gi_loopg [7] m (fun g iv wr=>∃i:Nat,i+g=m∧iv= .int .i64 i∧Hid (J i wr)∧Hid (PlBox wr b1 b2 b3 m lo hi))
 case atStart=>exact ⟨0,by omega,rfl,HH0,HBX⟩
 case round=>
  obtain ⟨i,hi',rfl,HJ0,HB⟩:=hrel;clear q1 HH0;by_cases hlt:i<m
  · obtain ⟨q1,q2,q3⟩:=HB.out;have hb1:i*(hi-lo)≤65536*65536:=Nat.mul_le_mul xo xo;obtain ⟨D,hD⟩:∃D:Int,((hi-lo:Nat):Int)=D:=⟨_,rfl⟩
    have hDw:IntKind.i64.wrap ((hi:Int)-lo)=D:=by rw [←hD];rw [show (hi:Int)-lo=((hi-lo:Nat):Int) by omega];exact IntWalk.i64_in _ xo
    obtain ⟨X,hX⟩:∃X:Int,((i*(hi-lo):Nat):Int)=X:=⟨_,rfl⟩
    have hXw:IntKind.i64.wrap ((i:Int)*D)=X:=by rw [←hX,←hD];push_cast;exact IntWalk.i64_in _ (by push_cast at hb1;omega)
    obtain ⟨qn,hqn⟩:∃qn,i*(hi-lo)/m=qn:=⟨_,rfl⟩
    have hqb:qn≤65536*65536:=by rw [←hqn];exact Nat.le_trans (Nat.div_le_self _ _) hb1
    have hqt:X.tdiv m=(qn:Int):=by rw [←hX,Int.tdiv_eq_ediv_of_nonneg xo,←Int.natCast_ediv,hqn]
    have hqw:IntKind.i64.wrap (qn:Int)=qn:=IntWalk.i64_in _ xo;obtain ⟨pl,hpl⟩:∃pl:Int,((plF m lo hi i:Nat):Int)=pl:=⟨_,rfl⟩
    have hplw:IntKind.i64.wrap ((lo:Int)+qn)=pl:=by
     rw [←hpl,plF,hqn];push_cast
     exact IntWalk.i64_in _ xo
    have hpa:=HGT.out i hlt;rw [hpl] at hpa;have hm0:((m:Int)==0)=false:=by simp;omega
    have hm1:¬(m:Int)=0:=xo;have hm2:¬m=0:=xo;have HI2:=hid hi';clear hD hX hqn hpl hqb hb1 hi';gi_wp2
    refine wpIn_region_facts 10 xk (N:=23) rfl xk xk xdd (fun w'=>∃q,w'=wr.drewN q) (Ext 29) (factAt [.is (.func (.yield l) #[] #[]),.is (.int .i64 lo),.is (.int .i64 i),.is (.int .i64 hi),.is (.int .i64 lo),.is (.int .i64 D),.is (.int .i64 X),.is (.int .i64 m),.is (.int .i64 qn),.is (.int .i64 pl)]) (factAt_stays _) ⟨1,rfl⟩ ?steps ?fin
    case steps=>
     refine ⟨?o0,?o1,?o2,?o3,?o4,?o5,?o6,?o7,?o8,?o9,trivial⟩
     case o0=>
      intro u a w' ev hJ hd K hK;rw [if_pos (wanted_free rfl)];have e0:tg a 0= .func (.yield l) #[] #[]:=ev 0 xdd;have HK:=hid hK;clear hK ev hd;go_simp;exact HK.out _ _ xzc hJ rfl (Ext.refl _ _)
     case o1=>
      intro u a w' ev hJ hd K hK;rw [if_pos (wanted_free rfl)];have e2:tg a 2= .pointer (some ⟨b2,0,none⟩):=ev 2 xdd;have g0:=(cell_at_drew hJ q2)
      have HK:=hid hK;clear hK ev hd;go_simp;exact HK.out _ _ xzc hJ rfl (Ext.refl _ _)
     case o2=>
      intro u a w' ev hJ hd K hK;rw [if_pos (wanted_free rfl)];have e5:tg a 5= .int .i64 i:=ev 5 xdd;have HK:=hid hK;clear hK ev hd;go_simp;exact HK.out _ _ xzc hJ rfl (Ext.refl _ _)
     case o3=>
      intro u a w' ev hJ hd K hK;rw [if_pos (wanted_free rfl)];have e3:tg a 3= .pointer (some ⟨b3,0,none⟩):=ev 3 xdd;have g0:=(cell_at_drew hJ q3)
      have HK:=hid hK;clear hK ev hd;go_simp;exact HK.out _ _ xzc hJ rfl (Ext.refl _ _)
     case o4=>
      intro u a w' ev hJ hd K hK;rw [if_pos (wanted_free rfl)];have e2:tg a 2= .pointer (some ⟨b2,0,none⟩):=ev 2 xdd;have g0:=(cell_at_drew hJ q2)
      have HK:=hid hK;clear hK ev hd;go_simp;exact HK.out _ _ xzc hJ rfl (Ext.refl _ _)
     case o5=>
      intro u a w' ev hJ hd K hK;rw [if_pos (wanted_free rfl)];have e13:tg a 13= .int .i64 hi:=(ev 13 xdd).trans (hd 3 _ xk rfl);have e14:tg a 14= .int .i64 lo:=(ev 14 xdd).trans (hd 4 _ xk rfl);have HK:=hid hK;clear hK ev hd;go_simp;exact HK.out _ _ xzc hJ rfl (Ext.refl _ _)
     case o6=>
      intro u a w' ev hJ hd K hK;rw [if_pos (wanted_free rfl)];have e12:tg a 12= .int .i64 i:=(ev 12 xdd).trans (hd 2 _ xk rfl);have e15:tg a 15= .int .i64 D:=(ev 15 xdd).trans (hd 5 _ xk rfl);have HK:=hid hK;clear hK ev hd;go_simp;exact HK.out _ _ xzc hJ rfl (Ext.refl _ _)
     case o7=>
      intro u a w' ev hJ hd K hK;rw [if_pos (wanted_free rfl)];have e1:tg a 1= .pointer (some ⟨b1,0,none⟩):=ev 1 xdd;have g0:=(cell_at_drew hJ q1)
      have HK:=hid hK;clear hK ev hd;go_simp;exact HK.out _ _ xzc hJ rfl (Ext.refl _ _)
     case o8=>
      intro u a w' ev hJ hd K hK;rw [if_pos (wanted_free rfl)];have e16:tg a 16= .int .i64 X:=(ev 16 xdd).trans (hd 6 _ xk rfl);have e17:tg a 17= .int .i64 m:=(ev 17 xdd).trans (hd 7 _ xk rfl);have HK:=hid hK;clear hK ev hd;go_simp;exact HK.out _ _ xzc hJ rfl (Ext.refl _ _)
     case o9=>
      intro u a w' ev hJ hd K hK;rw [if_pos (wanted_free rfl)];have e11:tg a 11= .int .i64 lo:=(ev 11 xdd).trans (hd 1 _ xk rfl);have e18:tg a 18= .int .i64 qn:=(ev 18 xdd).trans (hd 8 _ xk rfl);have HK:=hid hK;clear hK ev hd;go_simp;exact HK.out _ _ xzc hJ rfl (Ext.refl _ _)
    case fin=>
     intro u w3 hJ3 hG;have h10:u 10= .func (.yield l) #[] #[]:=hG 0 _ rfl;have h19:u 19= .int .i64 pl:=hG 9 _ rfl;have hBq:Below wr.heap.size wr w3:=by obtain ⟨q,rfl⟩:=hJ3;exact below_drewN br q
     have HBQ:=hid hBq;obtain ⟨fn,tmps,assign,body,hy,hR⟩:=HY.out i w3 (by rw [HLN.out];exact hlt) (HJ.out _ _ _ HJ0.out hBq);rw [hpa] at hy;clear hG hJ3 hpa hBq q1 q2 q3;simp only [mixFrame,mixL,dstsOf,List.take_succ_cons,List.take_zero,List.filterMap_cons,List.filterMap_nil,List.contains_cons,List.contains_nil,Nat.reduceBEq,Bool.or_false,Bool.false_or,Bool.or_true,Bool.true_or,if_true,if_false,Bool.false_eq_true,Nat.reduceAdd,Nat.zero_add,List.drop_succ_cons,List.drop_zero,h10,h19];gi_wp2
     refine ⟨rfl,hR.mono ?_⟩;rintro e W3 (⟨rfl,hJ3,hk3⟩ | ⟨rfl,hJx3⟩)
     · have HB3:=hid ((HB.out.below HBQ.out).kept hk3 s1 s2 s3);have HJ3:=hid hJ3;clear hJ3 hk3 hy hR;gi_wp2
       gi_roundg (gk-1)
       case measure=>have:=HI2.out;omega
       case rel=>exact ⟨i+1,by have:=HI2.out;omega,by go_num,HJ3,HB3⟩
     · have HJ3:=hid hJx3;clear hJx3 hy hR;gi_wp2
       exact bodyPost_ret (results_none rfl _ _ _) rfl ⟨⟨_,rfl⟩,.inr ⟨i+1,by rw [HLN.out];omega,HJ3.out⟩⟩
  · have him:i=m:=xo;subst him;gi_wp2
    refine bodyPost_end (results_none rfl _ _ _) rfl ⟨⟨_,rfl⟩,.inl ?_⟩;rw [HLN.out];exact HJ0.out
structure AppN (l:List Int) (B:Nat) (w:World) (k:Nat) (W:World):Prop where
 own:∃v,W.cell? ⟨B,0,none⟩=some v∧W.ownsRow (B+1) 3 1 v k ((l.take k).map (Value.int .i64))
 fz:W.frozen? ⟨B,0,none⟩=false
 bel:Below B w W
theorem AppN.calm {l:List Int} {B M:Nat} {w:World} {k:Nat} {W W':World} (h:AppN l B w k W) (hc:Calm M W W') (hB:B≤M):AppN l B w k W':=by
 obtain ⟨⟨v,h1,h2⟩,h3,h4⟩:=h;exact ⟨⟨v,hc.cell h1,hc.owns h2⟩,hc.frozen h1 h3,hc.below hB h4⟩
theorem AppendInt_ok (l:List Int) (hl:l.length≤100000) (gf:Nat) (lb:Array Value) (eg:∀args w,(callFunc gf args).run Tryd.prog w= .ok (.enter gf args) w) (w:World) (hit:Iter Tryd.prog gf lb (intsA l) (KpS (fun k=>k<w.heap.size)) w):
    Calls Tryd.prog 100 #[.slice none 0 0,.func (.func gf) #[] lb] w (FreshInts w l):=by
 have IT:=hid (fun W (hb:Below w.heap.size w W)=>hit.later hb);have HPL:=hid (intsA_length l);have HPG:=hid (fun k (h:k<l.length)=>intsA_get h);clear hit;refine calls_of_wp_m Tryd.func100 rfl ?_;simp only [Tryd.ntmps100,List.size_toArray,List.length_cons,List.length_nil,Nat.reduceAdd,Nat.reduceSub,Array.replicate_succ,Array.replicate_zero,List.push_toArray,List.append_toArray,List.nil_append,List.cons_append];go_wp2
 refine wp_range_w (xs:=intsA l) (Kp:=KpS (fun k=>k<w.heap.size)) rfl eg
   (IT.out _ (br.alloc (Nat.le_refl _) _)) br (fun h k=>fun i hi=>(k i hi).trans (h i hi)) ?kb ?ps
   (AppN l w.heap.size w) (fun _ _=>False) ?hI (fun _ _ _ h _=>h) ?h0 ?round ?done (fun _ _ _ _ h _=>h.elim)
 case kb=>
  intro W q o o' hl _ _ k hk;simp at hl;exact World.putObj_heap_other xo
 case ps=>
  intro x hx;simp only [intsA,List.mem_map] at hx;obtain ⟨k,_,rfl⟩:=hx;rfl
 case hI=>
  intro k W W' h hc;exact h.calm hc xsi
 case h0=>
  exact ⟨⟨_,by (exact xcn),World.ownsRow_nil _ _ _ _⟩,by (exact xcn),by (exact xbel)⟩
 case round=>
  intro q k W hq hk hi;rw [HPL.out] at hk;rw [HPG.out k hk];have htk:=hid (take_succ_int hk);generalize l.getD k 0=x at *;obtain ⟨⟨v,hv,ho⟩,hfz,hbel⟩:=hi;have hzb:w.heap.size<W.heap.size:=World.block_lt_of_cell? _ _ hv;obtain ⟨ao,co,rfl,-⟩:=owns_news ho;have hlt1:(l.take k).length=k:=by rw [List.length_take];omega
  gi_wp2
  have hab:Below W.heap.size W W:=Below.refl _ _;refine ⟨keeps_below hab,fun i hi=>hab.block i xo,?_⟩;intro W2 hc;have hv2:W2.cell? ⟨w.heap.size,0,none⟩=some (.slice ao k co):=hc.cell ((hab.cell (p:=⟨w.heap.size,0,none⟩) hzb).trans hv);have hfz2:W2.frozen? ⟨w.heap.size,0,none⟩=false:=hc.frozen ((hab.cell (p:=⟨w.heap.size,0,none⟩) hzb).trans hv) ((hab.frozen (p:=⟨w.heap.size,0,none⟩) hzb).trans hfz);have ho2:=hc.owns (owns_below ho hab);have hbel2:Below w.heap.size w W2:=hc.below xsi hbel;have hz2:=hbel2.size;have HO2:=hid ho2;have HB2:=hid hbel2;have hzw:w.heap.size<W2.heap.size:=World.block_lt_of_cell? _ _ hv2;clear ho hbel hab hc ho2 hbel2 hv hfz
  gi_wp2_with (gi_at_builtin;refine wpListIn_append_own _ rfl (.tmp 8) (.tmp 10) 26 rfl (w.heap.size+1) 3 _ (.int .i64 0) 1 8 Tryd.underlying26 (info_parts info_int).choose_spec.1 (info_parts info_int).choose_spec.2.1 (info_parts info_int).choose_spec.2.2.1 (info_parts info_int).choose_spec.2.2.2 rfl xdd _ k _ rfl (HO2.out.alloc (.cells #[.int .i64 x] 3)) ⟨W2.heap.size,0,none⟩ 1 1 [.int .i64 x] rfl rfl (new_cells _ [.int .i64 x] _ _ rfl _ rfl) (by simp [Value.oneCell']) (by unfold maxLen;omega) xo (by simp;omega) ?_;intro v' w3 ho3 hg3 _
               obtain ⟨a3,c3,rfl,-⟩:=owns_news ho3;have hne3:some w.heap.size≠(Value.slice ao k co).ownBlock:=fun e=>(by have:=(HO2.out.lt _ e.symm).1;omega)
               have hbl3:=hg3.block w.heap.size (by simp;omega) hne3;have hv3:w3.cell? ⟨w.heap.size,0,none⟩=some (.slice ao k co):=(World.cell?_of_block (a:=⟨w.heap.size,0,none⟩) hbl3).trans ((((Below.refl _ W2).alloc (Nat.le_refl _) _).cell (p:=⟨w.heap.size,0,none⟩) hzw).trans hv2);have hfz3:w3.frozen? ⟨w.heap.size,0,none⟩=false:=(World.frozen?_of_block (a:=⟨w.heap.size,0,none⟩) hbl3).trans ((((Below.refl _ W2).alloc (Nat.le_refl _) _).frozen (p:=⟨w.heap.size,0,none⟩) hzw).trans hfz2);have HO3:=hid ho3;have HG3:=hid hg3;clear ho3 hg3 hbl3 hne3)
  have hB3:Below w.heap.size w w3:=(HB2.out.alloc xo (.cells #[.int .i64 x] 3)).grown HG3.out (by simp;omega) (fun z hz=>by have:=(HO2.out.lt _ hz).1;omega);have hK3:KeepsOthers W2 w3:=(keeps_below (((Below.refl _ W2).alloc (Nat.le_refl _) _))).trans (KeepsOthers.of_grownBy HG3.out (own_isCells (HO2.out.alloc _)));refine ⟨hK3.trans (KeepsOthers.setCell _ _ _),fun i hi=> ?_,⟨⟨_,World.cell?_setCell_same _ _ _ hv3,?_⟩,?_,hB3.setCell (Nat.le_refl _) _⟩⟩
  · rw [Below.heap_setCell _ _ _ _ (show i≠w.heap.size by omega),HG3.out.block i (by simp;omega) (fun e=>by have:=(HO2.out.lt _ e.symm).1;omega)];exact ((Below.refl _ W2).alloc (Nat.le_refl _) _).block i xo
  · rw [htk.out,List.map_append];exact owns_heap HO3.out fun z hz=>Below.heap_setCell _ _ _ _ (by have:=(HO3.out.lt _ hz).1;show z≠w.heap.size;omega)
  · rw [World.frozen?_setCell];exact hfz3
 case done=>
  intro D W hD hi hK;obtain ⟨⟨v,hv,ho⟩,hfz,hbel⟩:=hi;rw [HPL.out,List.take_length] at ho;obtain ⟨ao,co,rfl,-⟩:=owns_news ho;have HO:=hid ho;have HB:=hid hbel;clear ho hbel;go_wp2
  simp at hD;refine postM_one hK (results_tmp rfl _ _ _) ⟨_,rfl,?_,?_⟩
  · exact owns_base ((Calm.putObj (B:=0) _ (Nat.zero_le _) hK rfl).owns HO.out) xo
  · exact (Calm.putObj (B:=w.heap.size) _ xo hK rfl).below (Nat.le_refl _) HB.out
theorem CollectInt_ok (l:List Int) (hl:l.length≤100000) (gf:Nat) (lb:Array Value) (eg:∀args w,(callFunc gf args).run Tryd.prog w= .ok (.enter gf args) w) (w:World) (hit:Iter Tryd.prog gf lb (intsA l) (KpS (fun k=>k<w.heap.size)) w):
    Calls Tryd.prog 98 #[.func (.func gf) #[] lb] w (FreshInts w l):=by
 have A:=hid (AppendInt_ok l hl gf lb eg w hit);clear hit;go_enter Tryd.func98,Tryd.ntmps98
 go_wp2_with fail
 refine A.out.mono ?_;rintro e w1 ⟨v,rfl,ho,hb⟩;have HO:=hid ho;have HB:=hid hb;clear ho hb;go_wp2
 go_ret
 exact ⟨v,rfl,HO.out,HB.out⟩
theorem splaces_ok (m lo hi:Int) (w:World):
    Calls Tryd.prog 99 #[.int .i64 m,.int .i64 lo,.int .i64 hi] w fun e w'=>e= .returned (.func (.func 101) #[] #[.pointer (some ⟨w.heap.size,0,none⟩),.pointer (some ⟨w.heap.size+1,0,none⟩),.pointer (some ⟨w.heap.size+2,0,none⟩)])∧
      w'=((w.alloc (.cells #[.int .i64 m] 3)).alloc (.cells #[.int .i64 lo] 3)).alloc (.cells #[.int .i64 hi] 3):=by
 go_enter Tryd.func99,Tryd.ntmps99
 go_wp2
 go_ret
 exact ⟨rfl,rfl⟩
theorem smay_ok (m lo hi:Nat) (hlh:lo≤hi) (hhi:hi≤65536) (hm:m≤hi-lo) (w:World):
    Calls Tryd.prog 97 #[.int .i64 m,.int .i64 lo,.int .i64 hi] w fun e w'=>e= .returned (.bool true)∧w=w':=by
 have hw:IntKind.i64.wrap ((hi:Int)-lo)=(hi:Int)-lo:=IntWalk.i64_in _ xo;have hg:decide ((m:Int)≤(hi:Int)-lo)=true:=by simp;omega
 go_enter Tryd.func97,Tryd.ntmps97
 go_wp2
 go_ret
 exact ⟨rfl,rfl⟩
def FreshI2 (w:World) (l:List Int) (x:Value) (e:Ending) (w':World):Prop:=
  ∃v,e= .returned (.tuple #[v,x])∧w'.ownsRow w.heap.size 3 1 v l.length (l.map (Value.int .i64))∧Below w.heap.size w w'
theorem Places_ok (m lo hi:Nat) (hlh:lo≤hi) (hhi:hi≤65536) (hm:m≤hi-lo) (w:World):
    Calls Tryd.prog 88 #[.int .i64 m,.int .i64 lo,.int .i64 hi] w (FreshI2 w (ints (plR m lo hi)) (.int .i64 0)):=by
 have MY:=hid (fun w=>smay_ok m lo hi hlh hhi hm w);have PS:=hid (fun w=>splaces_ok m lo hi w);have HL:=hid (show (ints (plR m lo hi)).length≤100000 by rw [ints_length,plR_length];omega);have IT:=hid (fun W hbx=>places1_iter m lo hi hlh hhi xo (fun k=>k<w.heap.size+3) w.heap.size (w.heap.size+1) (w.heap.size+2) xo xo xo W hbx);generalize ints (plR m lo hi)=L at *;go_enter Tryd.func88,Tryd.ntmps88
 go_wp2_with (first
   | (go_at_call 97;refine (MY.out _).mono ?_;rintro e w' ⟨rfl,rfl⟩)
   | (go_at_call 99;refine (PS.out _).mono ?_;rintro e w' ⟨rfl,rfl⟩)
   | (go_at_call 98;fail))
 have hB:Below w.heap.size w (((w.alloc (.cells #[.int .i64 m] 3)).alloc (.cells #[.int .i64 lo] 3)).alloc (.cells #[.int .i64 hi] 3)):=xbel;have hI:Iter Tryd.prog 101 #[.pointer (some ⟨w.heap.size,0,none⟩),.pointer (some ⟨w.heap.size+1,0,none⟩),.pointer (some ⟨w.heap.size+2,0,none⟩)] (intsA L) (KpS (fun k=>k<w.heap.size+3)) (((w.alloc (.cells #[.int .i64 m] 3)).alloc (.cells #[.int .i64 lo] 3)).alloc (.cells #[.int .i64 hi] 3)):=
   IT.out _ ⟨by (exact xcn),by (exact xcn),by (exact xcn)⟩
 have hz:(((w.alloc (.cells #[.int .i64 m] 3)).alloc (.cells #[.int .i64 lo] 3)).alloc (.cells #[.int .i64 hi] 3)).heap.size=w.heap.size+3:=by simp
 generalize (((w.alloc (.cells #[.int .i64 m] 3)).alloc (.cells #[.int .i64 lo] 3)).alloc (.cells #[.int .i64 hi] 3))=w1 at *;rw [←hz] at hI;have CO:=hid (CollectInt_ok L HL.out 101 _ (fun args w=>rfl) w1 hI);have HB:=hid hB;clear hI hB IT;go_wp2_with fail
 refine CO.out.mono ?_;rintro e w2 ⟨v,rfl,ho,hb⟩;have HO:=hid (owns_base ho (by omega:w.heap.size≤w1.heap.size));have HB2:=xv hb HB;clear ho hb;go_wp2
 go_ret2
 exact ⟨v,rfl,HO.out,HB2.out⟩
end
end Go.Proofs.YtmnlagmmbfjbeaaDoor

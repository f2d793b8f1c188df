/- Merged: TabLaw2, TabLaw3, OmTuP4, OmTuP5, OmIn0, OmInC, OmTw. -/
import Derived.Test.YtjhpblejlchhjaaGreatDoorOmMovesP18
import Derived.Test.YtjhpblejlchhjaaGreatDoorOmMovesP12
import Derived.Test.YtjhpblejlchhjaaGreatDoorOmMovesP14
import Derived.Test.YtjhpblejlchhjaaGreatDoorOmMovesP4
import Derived.Test.YtjhpblejlchhjaaGreatDoorOmMovesP6
import Derived.Test.YtjhpblejlchhjaaGreatDoorOmMovesP10
import Derived.Test.YtjhpblejlchhjaaGreatDoorOmMovesP11
namespace Go.Proofs.YtjhpblejlchhjaaGreatDoor
set_option maxRecDepth 100000
set_option maxHeartbeats 40000000
set_option linter.unusedVariables false
set_option linter.unusedSimpArgs false
section
open Go.RowKit Go.Shelf
theorem cntTo_congr {ps qs:List Int} {k:Nat} (h:∀j,j<k→(0≤ps.getD j 0↔0≤qs.getD j 0)):cntTo ps k=cntTo qs k:=by
 induction k with
 | zero=>rfl
 | succ k ih=>
  have h1:=ih (fun j hj=>h j xo);have h2:=h k xo;by_cases c:0≤ps.getD k 0
  · rw [cntTo_yes c,cntTo_yes (h2.1 c),h1]
  · rw [cntTo_no c,cntTo_no (fun e=>c (h2.2 e)),h1]
theorem cntTo_set {ps:List Int} {n k:Nat} {a:Int} (hk:k<n) (hl:k<ps.length) (h1:ps.getD k 0<0) (h2:0≤a):cntTo (ps.set k a) n=cntTo ps n+1:=by
 induction n with
 | zero=>omega
 | succ n ih=>
  by_cases e:k=n
  · subst e;rw [cntTo_yes (by rw [getD_set_eq hl];exact h2),cntTo_no xo,cntTo_congr (qs:=ps) (fun j hj=>by rw [getD_set_ne xo])]
  · have:=ih xo;by_cases c:0≤ps.getD n 0
    · rw [cntTo_yes c,cntTo_yes (by rw [getD_set_ne (fun e'=>e e'.symm)];exact c),this]
    · rw [cntTo_no c,cntTo_no (by rw [getD_set_ne (fun e'=>e e'.symm)];exact c),this]
structure Made (gs ps:List Int) (a:Int) (gs2 ps2:List Int) (n g:Int):Prop where
 may2:may gs2 ps2=true
 is2:isH gs2 ps2 n g=true
 val:ps2.getD n.toNat 0=a
 not1:isH gs ps n g=false
 cnt:(liveN gs2 ps2:Int)=liveN gs ps+1
 oth:∀m h,¬(m=n∧h=g)→isH gs2 ps2 m h=isH gs ps m h∧(isH gs ps m h=true→ps2.getD m.toNat 0=ps.getD m.toNat 0)
 len:gs2.length≤gs.length+1
 gens:∀k,k<gs.length→gs2.getD k 0=gs.getD k 0
 less:gs.length≤gs2.length
 num:0≤n
 own:n<gs.length→gs.getD n.toNat 0=g
theorem made_of {gs ps:List Int} {a:Int} (hok:makeOk gs ps a=true):may gs ps=true∧0≤a∧Made gs ps a (makeG gs ps a) (makeP gs ps a) (makeN gs ps a) (makeK gs ps a):=by
 have h0:=hok;simp only [makeOk,Bool.and_eq_true,decide_eq_true_eq,Bool.or_eq_true] at h0;obtain ⟨⟨hm,ha⟩,hf⟩:=h0;obtain ⟨h1,h2,h3⟩:=may_iff.1 hm;refine ⟨hm,ha,?_⟩;cases hc:firstF gs ps with
 | some k=>
  obtain ⟨k1,k2,k3⟩:=firstF_is hc;simp only [freeB,Bool.and_eq_true,decide_eq_true_eq] at k2;have kp:k<ps.length:=xo;have e1:makeG gs ps a=gs:=by simp [makeG,hok,hc]
  have e2:makeP gs ps a=ps.set k a:=by simp [makeP,hok,hc]
  have e3:makeN gs ps a=k:=by simp [makeN,hok,hc]
  have e4:makeK gs ps a=gs.getD k 0:=by simp only [makeK,hok,hc,if_true]
  rw [e1,e2,e3,e4];have hk:=okAt_iff.1 (h3 k k1);have hm2:may gs (ps.set k a)=true:=by
   refine may_iff.2 ⟨by simpa using h1,h2,fun j hj=> ?_⟩;by_cases e:j=k
   · subst e;rw [getD_set_eq kp];exact okAt_iff.2 ⟨hk.1,hk.2.1,by omega,fun _=>k2.2⟩
   · rw [getD_set_ne e];exact h3 j hj
  refine ⟨hm2,isH_iff.2 ⟨by omega,by omega,?_,rfl⟩,by rw [Int.toNat_natCast,getD_set_eq kp],?_,?_,?_,by omega,fun _ _=>rfl,Nat.le_refl _,by omega,fun _=>rfl⟩
  · rw [Int.toNat_natCast,getD_set_eq kp];exact ha
  · cases hi:isH gs ps k (gs.getD k 0) with
    | false=>rfl
    | true=>have:=(isH_iff.1 hi).2.2.1;rw [Int.toNat_natCast] at this;omega
  · rw [liveN_yes hm,liveN_yes hm2,cntTo_set k1 kp k2.1 ha];rfl
  · intro m h hne;by_cases e:m=k
    · subst e;have hg:gs.getD k 0≠h:=fun e=>hne ⟨rfl,e.symm⟩
      have c1:isH gs ps k h=false:=by
       cases hi:isH gs ps k h with
       | false=>rfl
       | true=>have:=(isH_iff.1 hi).2.2.2;rw [Int.toNat_natCast] at this;exact absurd this hg
      have c2:isH gs (ps.set k a) k h=false:=by
       cases hi:isH gs (ps.set k a) k h with
       | false=>rfl
       | true=>have:=(isH_iff.1 hi).2.2.2;rw [Int.toNat_natCast] at this;exact absurd this hg
      rw [c1,c2];exact ⟨rfl,fun h=>by cases h⟩
    · by_cases hm0:0≤m
      · have hk2:m.toNat≠k:=xo;exact ⟨by rw [isH,isH,getD_set_ne hk2],fun _=>getD_set_ne hk2⟩
      · have d1:decide (0≤m)=false:=by simpa using hm0
        exact ⟨by rw [isH,isH,d1];rfl,fun hi=>absurd (isH_iff.1 hi).1 hm0⟩
 | none =>
  have hne:gs.length≠65536:=by
   rcases hf with h|h
   · rw [hc] at h;cases h
   · simpa using h
  have e1:makeG gs ps a=gs++[0]:=by simp [makeG,hok,hc]
  have e2:makeP gs ps a=ps++[a]:=by simp [makeP,hok,hc]
  have e3:makeN gs ps a=gs.length:=by simp [makeN,hok,hc]
  have e4:makeK gs ps a=0:=by simp [makeK,hok,hc]
  rw [e1,e2,e3,e4];have q1:(gs++[0]).getD gs.length 0=0:=getD_push_eq;have q2:(ps++[a]).getD gs.length 0=a:=by rw [←h1];exact getD_push_eq
  have hm2:may (gs++[0]) (ps++[a])=true:=by
   refine may_iff.2 ⟨by simp [h1],by simp;omega,fun j hj=> ?_⟩;by_cases e:j=gs.length
   · subst e;rw [q1,q2];exact okAt_iff.2 ⟨by omega,by omega,by omega,fun _=>by omega⟩
   · have hj2:j<gs.length:=by simp at hj;omega
     rw [getD_push_lt hj2,getD_push_lt xo];exact h3 j hj2
  refine ⟨hm2,isH_iff.2 ⟨by omega,by simp;omega,?_,?_⟩,by rw [Int.toNat_natCast];exact q2,?_,?_,?_,by simp,fun k hk=>getD_push_lt hk,by simp,by omega,fun h=>by omega⟩
  · rw [Int.toNat_natCast,q2];exact ha
  · rw [Int.toNat_natCast];exact q1
  · cases hi:isH gs ps gs.length 0 with
    | false=>rfl
    | true=>have:=(isH_iff.1 hi).2.1;omega
  · rw [liveN_yes hm,liveN_yes hm2,List.length_append,List.length_singleton,cntTo_yes (by rw [q2];exact ha),cntTo_congr (qs:=ps) (fun j hj=>by rw [getD_push_lt xo])];rfl
  · intro m h hne2;by_cases hm0:0≤m
    · by_cases e:m=gs.length
      · subst e;have hg:h≠0:=fun e=>hne2 ⟨rfl,e⟩
        have c1:isH gs ps gs.length h=false:=by
         cases hi:isH gs ps gs.length h with
         | false=>rfl
         | true=>have:=(isH_iff.1 hi).2.1;omega
        have c2:isH (gs++[0]) (ps++[a]) gs.length h=false:=by
         cases hi:isH (gs++[0]) (ps++[a]) gs.length h with
         | false=>rfl
         | true=>have:=(isH_iff.1 hi).2.2.2;rw [Int.toNat_natCast,q1] at this;exact absurd this.symm hg
        rw [c1,c2];exact ⟨rfl,fun h=>by cases h⟩
      · by_cases hlt:m<gs.length
        · have a1:(gs++[0]).getD m.toNat 0=gs.getD m.toNat 0:=getD_push_lt xo;have a2:(ps++[a]).getD m.toNat 0=ps.getD m.toNat 0:=getD_push_lt xo;have d2:decide (m<((gs++[0]).length:Nat))=decide (m<(gs.length:Nat)):=by
           have:m<((gs++[0]).length:Nat):=by simp;omega
           simp only [this,hlt]
          exact ⟨by rw [isH,isH,a1,a2,d2],fun _=>a2⟩
        · have c1:isH gs ps m h=false:=by
            cases hi:isH gs ps m h with
            | false=>rfl
            | true=>have:=(isH_iff.1 hi).2.1;omega
          have c2:isH (gs++[0]) (ps++[a]) m h=false:=by
           cases hi:isH (gs++[0]) (ps++[a]) m h with
           | false=>rfl
           | true=>have:=(isH_iff.1 hi).2.1;simp at this;omega
          rw [c1,c2];exact ⟨rfl,fun h=>by cases h⟩
    · have d1:decide (0≤m)=false:=by simpa using hm0
      exact ⟨by rw [isH,isH,d1];rfl,fun hi=>absurd (isH_iff.1 hi).1 hm0⟩
end
section
open Go.RowKit Go.Shelf
def Gone (gs:List Int) (n g:Int):Prop:=0≤n∧n<gs.length∧g<gs.getD n.toNat 0
theorem Gone.not {gs ps:List Int} {n g:Int} (h:Gone gs n g):isH gs ps n g=false:=by
 cases hc:isH gs ps n g with
 | false=>rfl
 | true=>
  have h1:=(isH_iff.1 hc).2.2.2;have h2:=h.2.2;omega
theorem drop_may {gs ps:List Int} {n g:Int} (hm:may gs ps=true) (hi:isH gs ps n g=true):may (gs.set n.toNat (gs.getD n.toNat 0+1)) (ps.set n.toNat (-1))=true:=by
 obtain ⟨h1,h2,h3⟩:=may_iff.1 hm;obtain ⟨i1,i2,i3,i4⟩:=isH_iff.1 hi;refine may_iff.2 ⟨by simpa using h1,by simpa using h2,fun k hk=> ?_⟩;have hk':k<gs.length:=by simpa using hk
 by_cases e:k=n.toNat
 · subst e;have:=okAt_iff.1 (h3 n.toNat hk');rw [getD_set_eq xo,getD_set_eq xo];exact okAt_iff.2 ⟨by omega,by have:=this.2.2.2 i3;omega,by omega,fun h=>by omega⟩
 · rw [getD_set_ne e,getD_set_ne e];exact h3 k hk'
theorem Gone.drop {gs:List Int} {m h n:Int} (hh:Gone gs m h):Gone (gs.set n.toNat (gs.getD n.toNat 0+1)) m h:=by
 obtain ⟨a,b,c⟩:=hh;refine ⟨a,by simpa using b,?_⟩;by_cases e:m.toNat=n.toNat
 · rw [←e,getD_set_eq xo];omega
 · rw [getD_set_ne e];exact c
theorem Gone.made {gs ps:List Int} {a:Int} {gs2 ps2:List Int} {n g m h:Int} (hM:Made gs ps a gs2 ps2 n g) (hh:Gone gs m h):Gone gs2 m h∧¬(n=m∧g=h):=by
 obtain ⟨a1,b1,c1⟩:=hh;have hl:=hM.less;refine ⟨⟨a1,by omega,by rw [hM.gens m.toNat xo];exact c1⟩,?_⟩;rintro ⟨rfl,rfl⟩;have:=hM.own b1;omega
end
section
open Go.RowKit
theorem stl_val {but:Int} {s:SlC} {x:List Int×Int} (hd:Dst (prs s 0 s.ks.length)) (h0:∀j,j<s.ks.length→bitW s.ws j=true→0≤s.ks.getD j 0∧s.ks.getD j 0<x.1.length∧0≤x.1.getD (keyN s j) 0) (m:Nat):
    ((stlTo but s x s.ks.length).1.getD m 0=x.1.getD m 0)∨(0≤(stlTo but s x s.ks.length).1.getD m 0∧0≤x.1.getD m 0):=by
 by_cases hq:∃j,j ∈ plsW s.ws 0 s.ks.length∧keyN s j=m
 · obtain ⟨j,hj,rfl⟩:=hq;have m1:=pls_mem_iff.1 hj;obtain ⟨z1,z2,z3⟩:=h0 j m1.1.2 m1.2;right;have:=stl_hit (but:=but) (plsW s.ws 0 s.ks.length) x (dst_keys hd fun j hj hb=>(h0 j hj hb).1) hj (by unfold keyN;omega);unfold stlTo;rw [this];exact ⟨by omega,z3⟩
 · left;exact stl_out (but:=but) _ x fun j hj e=>hq ⟨j,hj,e⟩
theorem may_stl {but:Int} {s:SlC} {gs ps:List Int} {mv:Int} (hm:may gs ps=true) (hd:Dst (prs s 0 s.ks.length)) (h0:∀j,j<s.ks.length→bitW s.ws j=true→0≤s.ks.getD j 0∧s.ks.getD j 0<ps.length∧0≤ps.getD (keyN s j) 0) (hn:s.ks.length≤2147483647):
    may gs (stlTo but s (ps,mv) s.ks.length).1=true∧cntTo (stlTo but s (ps,mv) s.ks.length).1 gs.length=cntTo ps gs.length:=by
 obtain ⟨h1,h2,h3⟩:=may_iff.1 hm;have hv:=stl_val (but:=but) (x:=(ps,mv)) hd h0;refine ⟨may_iff.2 ⟨by rw [stlTo_length];exact h1,h2,fun k hk=> ?_⟩,cntTo_congr fun j hj=> ?_⟩
 · have q:=okAt_iff.1 (h3 k hk);rcases hv k with e | ⟨e1,e2⟩
   · rw [e];exact h3 k hk
   · dsimp only at e2;exact okAt_iff.2 ⟨q.1,q.2.1,by omega,fun _=>q.2.2.2 e2⟩
 · rcases hv j with e | ⟨e1,e2⟩
   · rw [e]
   · exact ⟨fun _=>e2,fun _=>e1⟩
theorem live_lnk {s:SlC} {gs ps:List Int} (hl:lnk s gs ps=true):cntTo ps gs.length=cntW s.ws 0 s.ks.length∧lnkTo s ps s.ks.length=true:=by
 simpa only [lnk,Bool.and_eq_true,decide_eq_true_eq] using hl
theorem om_used {c:Cfg} {s:SlC} {gs ps:List Int} (h:omE c s gs ps=0) {p:Int×Int} (hp:p ∈ prs s 0 s.ks.length):0≤ps.getD p.1.toNat 0:=by
 obtain ⟨hg,hm,hl⟩:=omE_zero h;obtain ⟨j,⟨-,h2,h3⟩,rfl⟩:=prs_in.1 hp;have:=lnkAt_facts (lnkTo_at (live_lnk hl).2 h2 h3);dsimp only;omega
theorem insL_len {l:List (Int×Int)} {k:Nat} (hk:k≤l.length) (p:Int×Int):(insL l k p).length=l.length+1:=by
 rw [insL,List.length_append,List.length_cons,List.length_take,List.length_drop];omega
theorem in_om {c:Cfg} {s:SlC} {gs ps:List Int} (hu:U64s s.ws) (h:omE c s gs ps=0) (he:inE c s gs ps=0) {k:Nat} (hk:k≤manyC s) (mv:Int):
    omE c (inS c s gs ps k) (makeG gs ps 0) (inX c s gs ps mv k).1=0:=by
 obtain ⟨hg,hm,hl⟩:=omE_zero h;obtain ⟨hok,-⟩:=in_zero he;obtain ⟨-,-,M⟩:=made_of hok;obtain ⟨e0,e1,e2⟩:=in_prs hu h he hk;have ml:=make_len hm hok;have ol:=may_len hm;have hd:=in_dst hu h he hk;have nn:=put_nums c s hu k (makeN gs ps 0,0);have hlen:(prs s 0 s.ks.length).length=manyC s:=prs_length _ _ _;have h0:∀j,j<(inS c s gs ps k).ks.length→bitW (inS c s gs ps k).ws j=true→0≤(inS c s gs ps k).ks.getD j 0∧(inS c s gs ps k).ks.getD j 0<(makeP gs ps 0).length∧0≤(makeP gs ps 0).getD (keyN (inS c s gs ps k) j) 0:=fun j hj hb=>by
  obtain ⟨z1,z2,-⟩:=in_keys hu h he hk hj hb;refine ⟨z1,z2,?_⟩;have:((inS c s gs ps k).ks.getD j 0,(inS c s gs ps k).vs.getD j 0) ∈ prs (inS c s gs ps k) 0 (inS c s gs ps k).ks.length:=prs_in.2 ⟨j,⟨Nat.zero_le _,hj,hb⟩,rfl⟩;rw [e2] at this;unfold keyN;rcases mem_insL this with e|e
  · injection e with q1 q2
    rw [q1,M.val];exact Int.le_refl 0
  · have u:=om_used h e;have b:=om_pairs h e;dsimp only at u b;have hi:isH gs ps ((inS c s gs ps k).ks.getD j 0) (gs.getD ((inS c s gs ps k).ks.getD j 0).toNat 0)=true:=isH_iff.2 ⟨b.1,by omega,u,rfl⟩;have hne:¬((inS c s gs ps k).ks.getD j 0=makeN gs ps 0∧gs.getD ((inS c s gs ps k).ks.getD j 0).toNat 0=makeK gs ps 0):=fun q=>make_new h hok _ e q.1
    have:=(M.oth _ _ hne).2 hi;rw [this];exact u
 obtain ⟨m1,m2⟩:=may_stl (but:=makeN gs ps 0) (mv:=mv) M.may2 hd h0 (by unfold inS;omega);have hkeys:∀j,j<(inS c s gs ps k).ks.length→bitW (inS c s gs ps k).ws j=true→0≤(inS c s gs ps k).ks.getD j 0∧(inS c s gs ps k).ks.getD j 0<((makeP gs ps 0,mv):List Int×Int).1.length∧(inS c s gs ps k).vs.getD j 0=0:=fun j hj hb=>in_keys hu h he hk hj hb
 have hlk:=stl_lnk (but:=makeN gs ps 0) (x:=(makeP gs ps 0,mv)) hd hkeys;have hcnt:cntTo (makeP gs ps 0) (makeG gs ps 0).length=cntTo ps gs.length+1:=by
  have:=M.cnt;rw [liveN_yes M.may2,liveN_yes hm] at this;omega
 have hw:cntW (inS c s gs ps k).ws 0 (inS c s gs ps k).ks.length=cntW s.ws 0 s.ks.length+1:=by
  have:=congrArg List.length e2;rw [insL_len xo,prs_length,prs_length] at this;exact this
 have hln:lnk (inS c s gs ps k) (makeG gs ps 0) (inX c s gs ps mv k).1=true:=by
  simp only [lnk,Bool.and_eq_true,decide_eq_true_eq];exact ⟨by rw [show (inX c s gs ps mv k).1=(stlTo (makeN gs ps 0) (inS c s gs ps k) (makeP gs ps 0,mv) (inS c s gs ps k).ks.length).1 from rfl,m2,hcnt,hw,(live_lnk hl).1],hlk⟩
 rw [omE,if_pos e1,if_pos ⟨m1,hln⟩]
theorem in_hdl {c:Cfg} {s:SlC} {gs ps:List Int} (hu:U64s s.ws) (h:omE c s gs ps=0) (he:inE c s gs ps=0) {k:Nat} (hk:k≤manyC s):
    hdl (inS c s gs ps k) (makeG gs ps 0) 0 (inS c s gs ps k).ks.length=insL (hdl s gs 0 s.ks.length) k (makeN gs ps 0,makeK gs ps 0):=by
 obtain ⟨hg,hm,hl⟩:=omE_zero h;obtain ⟨hok,-⟩:=in_zero he;obtain ⟨-,-,M⟩:=made_of hok;have ol:=may_len hm;have hx:∀p ∈ prs s 0 s.ks.length,hdOf (makeG gs ps 0) p=hdOf gs p:=fun p hp=>by
  have b:=om_pairs h hp;unfold hdOf;rw [M.gens p.1.toNat xo]
 rw [hdl_prs,hdl_prs,(in_prs hu h he hk).2.2,insL,insL,List.map_append,List.map_cons,List.map_take,List.map_drop];have e1:(prs s 0 s.ks.length).map (hdOf (makeG gs ps 0))=(prs s 0 s.ks.length).map (hdOf gs):=List.map_congr_left hx;rw [e1];have e2:hdOf (makeG gs ps 0) (makeN gs ps 0,0)=(makeN gs ps 0,makeK gs ps 0):=by
  unfold hdOf;rw [(isH_iff.1 M.is2).2.2.2]
 rw [e2]
end
section
open Go.RowKit
theorem Dst.at {l:List (Int×Int)} (h:Dst l) {k:Nat} (hk:k<l.length) {q:Int×Int} (hq:q ∈ delL l k):q.1≠(l.getD k (0,0)).1:=by
 unfold Dst at h;rw [List.pairwise_iff_getElem] at h;have e:l.getD k (0,0)=l[k]:=by rw [List.getD_eq_getElem?_getD,List.getElem?_eq_getElem hk];rfl
 rw [e];rw [delL,List.mem_append] at hq;rcases hq with hq|hq
 · obtain ⟨i,hi,rfl⟩:=List.getElem_of_mem hq;have hi2:i<k:=by rw [List.length_take] at hi;omega
   rw [List.getElem_take];exact h i k xo hk hi2
 · obtain ⟨i,hi,rfl⟩:=List.getElem_of_mem hq;have hi2:i<l.length-(k+1):=by rw [List.length_drop] at hi;exact hi
   rw [List.getElem_drop];exact (h k (k+1+i) hk xo xo).symm
theorem rnk_pair {c:Cfg} {s:SlC} {gs ps:List Int} (h:omE c s gs ps=0) {n g:Int} (hi:isH gs ps n g=true):rnkH s ps n<(prs s 0 s.ks.length).length∧((prs s 0 s.ks.length).getD (rnkH s ps n) (0,0)).1=n:=by
 obtain ⟨hg,hm,hl⟩:=omE_zero h;obtain ⟨e,hlt⟩:=rnk_idx h hi;have hlen:(prs s 0 s.ks.length).length=manyC s:=prs_length _ _ _;refine ⟨by omega,?_⟩;rcases idxL_cases (hdl s gs 0 s.ks.length) n g with ⟨e1,-⟩ | ⟨k,e1,hk,hkv⟩
 · omega
 · have hkk:k=rnkH s ps n:=xo;subst hkk;have hk2:rnkH s ps n<(prs s 0 s.ks.length).length:=xo;rw [hdl_prs,List.getD_eq_getElem?_getD,List.getElem?_map,List.getElem?_eq_getElem hk2] at hkv;rw [List.getD_eq_getElem?_getD,List.getElem?_eq_getElem hk2];have:=congrArg Prod.fst hkv;exact this
theorem delL_len {l:List (Int×Int)} {k:Nat} (hk:k<l.length):(delL l k).length+1=l.length:=by
 rw [delL,List.length_append,List.length_take,List.length_drop];omega
theorem out_om {c:Cfg} {s:SlC} {gs ps:List Int} (hu:U64s s.ws) {n g:Int} (h:omE c s gs ps=0) (hi:isH gs ps n g=true) (mv:Int):
    omE c (outS c s ps n) (dropG gs ps n g) (outX c s gs ps mv n g).1=0:=by
 obtain ⟨hg,hm,hl⟩:=omE_zero h;obtain ⟨e0,e1,e2⟩:=out_prs hu h hi;have ol:=may_len hm;have hd:=out_dst hu h hi;have ih:=isH_facts hi;have nn:=take_nums c s hu (rnkH s ps n);obtain ⟨r1,r2⟩:=rnk_pair h hi;have eP:dropP gs ps n g=ps.set n.toNat (-1):=if_pos ⟨hm,hi⟩;have eG:dropG gs ps n g=gs.set n.toNat (gs.getD n.toNat 0+1):=if_pos ⟨hm,hi⟩;have hm2:may (dropG gs ps n g) (dropP gs ps n g)=true:=by rw [eP,eG];exact drop_may hm hi
 have h0:∀j,j<(outS c s ps n).ks.length→bitW (outS c s ps n).ws j=true→0≤(outS c s ps n).ks.getD j 0∧(outS c s ps n).ks.getD j 0<(dropP gs ps n g).length∧0≤(dropP gs ps n g).getD (keyN (outS c s ps n) j) 0:=fun j hj hb=>by
  obtain ⟨z1,z2,-⟩:=out_keys hu h hi hj hb;refine ⟨z1,z2,?_⟩;have hmem:((outS c s ps n).ks.getD j 0,(outS c s ps n).vs.getD j 0) ∈ prs (outS c s ps n) 0 (outS c s ps n).ks.length:=prs_in.2 ⟨j,⟨Nat.zero_le _,hj,hb⟩,rfl⟩;rw [e2] at hmem;have u:=om_used h (mem_delL hmem);have ne:=(om_dst h).at r1 hmem;rw [r2] at ne;dsimp only at u ne;unfold keyN;rw [eP,getD_set_ne xo];exact u
 obtain ⟨m1,m2⟩:=may_stl (but:= -1) (mv:=mv) hm2 hd h0 (by unfold outS;omega);have hlk:=stl_lnk (but:= -1) (x:=(dropP gs ps n g,mv)) hd fun j hj hb=>out_keys hu h hi hj hb
 have hcnt:cntTo (dropP gs ps n g) (dropG gs ps n g).length+1=cntTo ps gs.length:=by
  have q:=cntTo_set (ps:=ps.set n.toNat (-1)) (n:=gs.length) (k:=n.toNat) (a:=ps.getD n.toNat 0) xo (by rw [List.length_set];omega) (by rw [getD_set_eq xo];decide) ih.2.2.1;have e:(ps.set n.toNat (-1)).set n.toNat (ps.getD n.toNat 0)=ps:=by
   rw [List.set_set,List.getD_eq_getElem?_getD,List.getElem?_eq_getElem xo,Option.getD_some,List.set_getElem_self]
  rw [e] at q;rw [eP,eG,List.length_set,q]
 have hw:cntW (outS c s ps n).ws 0 (outS c s ps n).ks.length+1=cntW s.ws 0 s.ks.length:=by
  have:=congrArg List.length e2;have dl:=delL_len r1;rw [prs_length] at this;rw [prs_length] at dl;omega
 have hln:lnk (outS c s ps n) (dropG gs ps n g) (outX c s gs ps mv n g).1=true:=by
  simp only [lnk,Bool.and_eq_true,decide_eq_true_eq];refine ⟨?_,hlk⟩;have:=(live_lnk hl).1;have m3:cntTo (outX c s gs ps mv n g).1 (dropG gs ps n g).length=cntTo (dropP gs ps n g) (dropG gs ps n g).length:=m2;omega
 rw [omE,if_pos e1,if_pos ⟨m1,hln⟩]
theorem out_hdl {c:Cfg} {s:SlC} {gs ps:List Int} (hu:U64s s.ws) {n g:Int} (h:omE c s gs ps=0) (hi:isH gs ps n g=true):
    hdl (outS c s ps n) (dropG gs ps n g) 0 (outS c s ps n).ks.length=delL (hdl s gs 0 s.ks.length) (rnkH s ps n):=by
 obtain ⟨hg,hm,hl⟩:=omE_zero h;obtain ⟨r1,r2⟩:=rnk_pair h hi;have ih:=isH_facts hi;have eG:dropG gs ps n g=gs.set n.toNat (gs.getD n.toNat 0+1):=if_pos ⟨hm,hi⟩;have e2:=(out_prs hu h hi).2.2;have hx:∀p ∈ delL (prs s 0 s.ks.length) (rnkH s ps n),hdOf (dropG gs ps n g) p=hdOf gs p:=fun p hp=>by
  have b:=om_pairs h (mem_delL hp);have ne:=(om_dst h).at r1 hp;rw [r2] at ne;unfold hdOf;rw [eG,getD_set_ne xo]
 rw [hdl_prs,hdl_prs,e2,List.map_congr_left hx,delL,delL,List.map_append,List.map_take,List.map_drop]
end
section
open Go.RowKit Go.Shelf Go.Sort
def FreshOm3 (w:World) (c:Cfg) (s:SlC) (gs ps:List Int) (mv n g x:Int) (e:Ending) (w':World):Prop:=
  ∃v1 v2 v3 v4 v5 v6,e= .returned (.tuple #[.agg #[.int .u8 c.tag,.int .i64 c.most,.int .i64 c.seg,.int .i64 c.least,.int .i64 c.den,.int .i64 c.ll,.int .i64 c.rl,.int .i64 c.rh,.int .i64 c.lh,.int .i64 s.seg,v1,v2,v3,v4,.int .u64 s.laid,v5,v6,.int .u64 mv],.agg #[.int .i64 n,.int .i64 g],.int .i64 x])∧w'.ownsRow w.heap.size 27 1 v1 s.ws.length (s.ws.map (Value.int .u64))∧w'.ownsRow w.heap.size 2 1 v2 s.ks.length (s.ks.map (Value.int .i64))∧w'.ownsRow w.heap.size 2 1 v3 s.vs.length (s.vs.map (Value.int .i64))∧w'.ownsRow w.heap.size 3 1 v4 s.cs.length (s.cs.map (Value.int .i64))∧w'.ownsRow w.heap.size 3 1 v5 gs.length (gs.map (Value.int .i64))∧w'.ownsRow w.heap.size 3 1 v6 ps.length (ps.map (Value.int .i64))∧Below w.heap.size w w'
theorem wpl_build1 {P:Program} {w:World} {ops:Array Oper} {rest:List Oper} {o:Oper} {a:Act} {Q:Exit→Act→World→Prop} (t:TypeId) (i:Nat) (x:Operand) (v:Value) (cs:Array Value) (hw:Region.wanted o (yielded ops a.tmps)=true) (ho:o.op= .build t #[(i,x)]) (hx:a.eval x=v)
    (hf:P.built t [(i,v)]=some cs) (h:wpList P ops Q rest (a.put o.dst (.agg cs)) w):wpList P ops Q (o::rest) a w:=by
 refine Go.BigFrame.wpList_want hw fun K hK=> ?_
 have e:P.built t ((#[(i,x)]:Array (Nat×Operand)).map fun (i,x)=>(i,a.eval x)).toList=some cs:=by simpa [hx] using hf
 refine wp_build t _ ho (by rw [e];rfl) ?_;rw [e];exact hK _ _ h
theorem built_list (c:Cfg) (s:SlC) (sa:SlA) (gs ps:List Int) (mv:Int) (ga pa:Option Addr) (gc pc:Nat):Tryz.prog.built 76 [(0,.agg #[.int .u8 c.tag,.int .i64 c.most,.int .i64 c.seg,.int .i64 c.least,.int .i64 c.den,.int .i64 c.ll,.int .i64 c.rl,.int .i64 c.rh,.int .i64 c.lh,.int .i64 s.seg,.slice sa.wa s.ws.length sa.wc,.slice sa.ka s.ks.length sa.kc,.slice sa.va s.vs.length sa.vc,.slice sa.ca s.cs.length sa.cc,.int .u64 s.laid,.slice ga gs.length gc,.slice pa ps.length pc,.int .u64 mv])]=some #[.int .u8 c.tag,.int .i64 c.most,.int .i64 c.seg,.int .i64 c.least,.int .i64 c.den,.int .i64 c.ll,.int .i64 c.rl,.int .i64 c.rh,.int .i64 c.lh,.int .i64 s.seg,.slice sa.wa s.ws.length sa.wc,.slice sa.ka s.ks.length sa.kc,.slice sa.va s.vs.length sa.vc,.slice sa.ca s.cs.length sa.cc,.int .u64 s.laid,.slice ga gs.length gc,.slice pa ps.length pc,.int .u64 mv]:=by kernel_rfl
theorem bx_three {w w0:World} {l1 l2 l3:List Value} {t1 t2 t3:TypeId} (h:((w.alloc (.cells l1.toArray t1)).alloc (.cells l2.toArray t2)).alloc (.cells l3.toArray t3)=w0):
    Below w.heap.size w w0∧BX w0 w.heap.size t1 l1∧BX w0 (w.heap.size+1) t2 l2∧BX w0 (w.heap.size+1+1) t3 l3:=by
 subst h;have z1:(w.alloc (.cells l1.toArray t1)).heap.size=w.heap.size+1:=by simp
 have z2:((w.alloc (.cells l1.toArray t1)).alloc (.cells l2.toArray t2)).heap.size=w.heap.size+1+1:=by simp
 have b1:=bx_new w l1 t1;have b2:=bx_new (w.alloc (.cells l1.toArray t1)) l2 t2;have b3:=bx_new ((w.alloc (.cells l1.toArray t1)).alloc (.cells l2.toArray t2)) l3 t3;have e2:Below (w.alloc (.cells l1.toArray t1)).heap.size (w.alloc (.cells l1.toArray t1)) ((w.alloc (.cells l1.toArray t1)).alloc (.cells l2.toArray t2)):=br.alloc (Nat.le_refl _) _;have e3:Below ((w.alloc (.cells l1.toArray t1)).alloc (.cells l2.toArray t2)).heap.size ((w.alloc (.cells l1.toArray t1)).alloc (.cells l2.toArray t2)) (((w.alloc (.cells l1.toArray t1)).alloc (.cells l2.toArray t2)).alloc (.cells l3.toArray t3)):=br.alloc (Nat.le_refl _) _;rw [z1] at b2;rw [z2] at b3;refine ⟨((br.alloc (Nat.le_refl _) _).alloc xsi _).alloc (by simp;omega) _,bx_below e3 (bx_below e2 b1 (by rw [z1];omega)) (by rw [z2];omega),bx_below e3 b2 (by rw [z2];omega),b3⟩
end
section
open Go.RowKit Go.Shelf Go.Sort
theorem exec_store_row {P:Program} {ops:Array Oper} {o:Oper} {a:Act} {w:World} {K:Act→World→Prop} {Q:Exit→Act→World→Prop} (ty:TypeId) (x y:Operand) (b:Nat) (old vs:List Value) (ho:o.op= .store ty x y)
    (hx:a.eval x= .pointer (some ⟨b,0,none⟩)) (hy:a.eval y= .agg vs.toArray) (hi:(P.info? ty).map (·.size)=some vs.length) (hc:old.length=vs.length) (h1:vs.toArray.all (·.oneCell')=true) (hh:BX w b ty old)
    (h:∀W',RowR b w W'→BX W' b ty vs→K (a.put o.dst undef) W'):Oper.wp P o a w K Q:=
  wp_store_row ty x y ho b vs.toArray hx hy ty old.toArray hh (by simpa using hi) (by simpa using hc) h1 (h _ (setRow_rowR _ _ _) (setRow_heap w b old.toArray vs.toArray ty (0,0) hh))
theorem op_load {P:Program} {o:Oper} {a:Act} {w:World} {K:Act→World→Prop} {Q:Exit→Act→World→Prop} (ty:TypeId) (x:Operand) (b:Nat) (vs:List Value) {d:TypeDesc} (ho:o.op= .load ty x) (hx:a.eval x= .pointer (some ⟨b,0,none⟩))
    (hu:P.underlying ty=some d) (hd:d.isRow=true) (hi:(P.info? ty).map (·.size)=some vs.length) (hc:∀j v,vs[j]? =some v→w.cell? ⟨b,j,none⟩=some v)
    (h:K (a.put o.dst (.agg vs.toArray)) w):Oper.wp P o a w K Q:=by
 have e:=exec_load (P:=P) (o:=o) (a:=a) (w:=w) ty x b vs ho hx hu hd hi hc;unfold Oper.wp;simp only [e];exact h
def StB (b:Nat) (t:TypeId) (vs:List Value) (w w':World):Prop:=BX w b t vs→BX w' b t vs
def rowNow (b:Nat) (t:TypeId) (vs:List Value) (X w:World):Prop:=RowR b X w∧∃o:List Value,o.length=vs.length∧BX w b t o
structure InN (d:SlC) (gs ps:List Int):Prop where
 hk:d.ks.length≤65536
 hv:d.vs.length=d.ks.length
 hw:d.ks.length≤64*d.ws.length
 hwl:d.ws.length≤65536
 hpl:0<ps.length
 hkeys:∀j,j<d.ks.length→bitW d.ws j=true→0≤d.ks.getD j 0∧d.ks.getD j 0<ps.length
 hu:U64s d.ws
 hg:gs.length≤65536
 hp:ps.length≤65536
theorem in_core (c:Cfg) (s:SlC) (sa:SlA) (gs ps:List Int) (mv:Int) (ga pa:Option Addr) (gc pc:Nat) (fid:FuncId) (caps:Array Value) (d:SlC) (gs2 ps2:List Int) (k n g e0 e1 e2 e3:Int) (w:World) (R:Ending→World→Prop)
    (eg:∀(args:Array Value) (w:World),(callFunc fid args).run Tryz.prog w= .ok (.enter fid args) w)
    (CK:Hid (∀W,Below w.heap.size w W→Calls Tryz.prog 24 #[.agg #[.int .u8 c.tag,.int .i64 c.most,.int .i64 c.seg,.int .i64 c.least,.int .i64 c.den,.int .i64 c.ll,.int .i64 c.rl,.int .i64 c.rh,.int .i64 c.lh,.int .i64 s.seg,.slice sa.wa s.ws.length sa.wc,.slice sa.ka s.ks.length sa.kc,.slice sa.va s.vs.length sa.vc,.slice sa.ca s.cs.length sa.cc,.int .u64 s.laid,.slice ga gs.length gc,.slice pa ps.length pc,.int .u64 mv]] W (AnsB W (.int .i64 e0))))
    (WH:Hid (e0=0→∀(W:World) (b:Nat),BX W b 76 [.int .u8 c.tag,.int .i64 c.most,.int .i64 c.seg,.int .i64 c.least,.int .i64 c.den,.int .i64 c.ll,.int .i64 c.rl,.int .i64 c.rh,.int .i64 c.lh,.int .i64 s.seg,.slice sa.wa s.ws.length sa.wc,.slice sa.ka s.ks.length sa.kc,.slice sa.va s.vs.length sa.vc,.slice sa.ca s.cs.length sa.cc,.int .u64 s.laid,.slice ga gs.length gc,.slice pa ps.length pc,.int .u64 mv]→Below w.heap.size w W→Calls Tryz.prog fid (#[.pointer (some ⟨b,0,none⟩)]++caps) W (AnsB W (.tuple #[.int .i64 k,.int .i64 e1]))))
    (MK:Hid (e0=0→e1=0→∀W,Below w.heap.size w W→Calls Tryz.prog 58 #[.agg #[.slice ga gs.length gc,.slice pa ps.length pc],.int .i64 0] W (MakeRes W gs2 ps2 n g e2)))
    (GP:Hid (e0=0→e1=0→e2=0→∀W,Below w.heap.size w W→Calls Tryz.prog 59 #[.agg #[.int .u8 c.tag,.int .i64 c.most,.int .i64 c.seg,.int .i64 c.least,.int .i64 c.den,.int .i64 c.ll,.int .i64 c.rl,.int .i64 c.rh,.int .i64 c.lh],.agg #[.int .i64 s.seg,.slice sa.wa s.ws.length sa.wc,.slice sa.ka s.ks.length sa.kc,.slice sa.va s.vs.length sa.vc,.slice sa.ca s.cs.length sa.cc,.int .u64 s.laid],.int .i64 k,.agg #[.int .i64 n,.int .i64 0]] W (FreshSl2 W d (.int .i64 e3))))
    (IN:Hid (e0=0→e1=0→e2=0→e3=0→InN d gs2 ps2))
    (R0:Hid (e0≠0→∀e' w',FreshOm3 w ⟨0,0,0,0,0,0,0,0,0⟩ nilC [] [] 0 0 0 e0 e' w'→R e' w'))
    (R1:Hid (e0=0→e1≠0→∀e' w',FreshOm3 w ⟨0,0,0,0,0,0,0,0,0⟩ nilC [] [] 0 0 0 e1 e' w'→R e' w'))
    (R2:Hid (e0=0→e1=0→e2≠0→∀e' w',FreshOm3 w ⟨0,0,0,0,0,0,0,0,0⟩ nilC [] [] 0 0 0 e2 e' w'→R e' w'))
    (R3:Hid (e0=0→e1=0→e2=0→e3≠0→∀e' w',FreshOm3 w ⟨0,0,0,0,0,0,0,0,0⟩ nilC [] [] 0 0 0 e3 e' w'→R e' w'))
    (R4:Hid (e0=0→e1=0→e2=0→e3=0→∀e' w',FreshOm3 w c d gs2 (stlTo n d (ps2,mv) d.ks.length).1 (stlTo n d (ps2,mv) d.ks.length).2 n g 0 e' w'→R e' w')):
    Calls Tryz.prog 33 #[.agg #[.int .u8 c.tag,.int .i64 c.most,.int .i64 c.seg,.int .i64 c.least,.int .i64 c.den,.int .i64 c.ll,.int .i64 c.rl,.int .i64 c.rh,.int .i64 c.lh,.int .i64 s.seg,.slice sa.wa s.ws.length sa.wc,.slice sa.ka s.ks.length sa.kc,.slice sa.va s.vs.length sa.vc,.slice sa.ca s.cs.length sa.cc,.int .u64 s.laid,.slice ga gs.length gc,.slice pa ps.length pc,.int .u64 mv],.func (.func fid) #[] caps] w R:=by
 go_enter Tryz.func33,Tryz.ntmps33
 go_wp2
 refine wp_scope_fwd 0 rfl ?_;generalize hw0:((w.alloc _).alloc _).alloc _=w0;obtain ⟨hb0,hxo,hxn,hxh⟩:=bx_three hw0;have HB0:=hid hb0;have HXo:=hid hxo;have HXn:=hid hxn;have HXh:=hid hxh;have hzh:w.heap.size+1+1<w0.heap.size:=bx_lt hxh;clear hw0 hb0 hxo hxn hxh;go_upto_region 2 with (refine wpl_load 33 (.tmp 2) _ _ rfl rfl rfl Tryz.underlying33 rfl xk (bx_pb HXo.out) ?_;refine wpl_build1 76 0 (.tmp 9) _ _ rfl rfl rfl (built_list c s sa gs ps mv ga pa gc pc) ?_)
 generalize hw1:w0.alloc _=w1;have hb1:Below w0.heap.size w0 w1:=by rw [←hw1];exact br.alloc (Nat.le_refl _) _
 have HXx:Hid (BX w1 w0.heap.size 76 [.int .u8 c.tag,.int .i64 c.most,.int .i64 c.seg,.int .i64 c.least,.int .i64 c.den,.int .i64 c.ll,.int .i64 c.rl,.int .i64 c.rh,.int .i64 c.lh,.int .i64 s.seg,.slice sa.wa s.ws.length sa.wc,.slice sa.ka s.ks.length sa.kc,.slice sa.va s.vs.length sa.vc,.slice sa.ca s.cs.length sa.cc,.int .u64 s.laid,.slice ga gs.length gc,.slice pa ps.length pc,.int .u64 mv]):=by rw [←hw1];exact hid (bx_new _ _ _)
 have HB1:=xv hb1 HB0;replace HXo:=hid (bx_below hb1 HXo.out (bx_lt HXo.out));replace HXn:=hid (bx_below hb1 HXn.out (bx_lt HXn.out));replace HXh:=hid (bx_below hb1 HXh.out (bx_lt HXh.out));clear hw1 hb1;go_wp2_with (refine wpl_load 33 (.tmp 2) _ _ rfl rfl rfl Tryz.underlying33 rfl xk (bx_pb HXo.out) ?_)
 refine (CK.out _ HB1.out).mono ?_;rintro e' w2 ⟨rfl,hb2⟩;replace HXo:=hid (bx_below hb2 HXo.out (bx_lt HXo.out));replace HXn:=hid (bx_below hb2 HXn.out (bx_lt HXn.out));replace HXh:=hid (bx_below hb2 HXh.out (bx_lt HXh.out));replace HXx:=hid (bx_below hb2 HXx.out (bx_lt HXx.out));have HB2:=xv hb2 HB1;clear hb2;clear CK;by_cases he0:e0≠0
 · have ge:(e0 != 0)=true:=by simpa using he0
   have RR:=hid (R0.out he0);clear he0 R4;go_wp2
   refine wp_goto ?_;show 0=0∧Code.wp _ _ _ _ _;refine ⟨rfl,?_⟩;go_wp2_with (first|(refine wpl_store_row 33 (.tmp 4) (.tmp 64) _ [.int .u8 0,.int .i64 0,.int .i64 0,.int .i64 0,.int .i64 0,.int .i64 0,.int .i64 0,.int .i64 0,.int .i64 0,.int .i64 0,.slice none 0 0,.slice none 0 0,.slice none 0 0,.slice none 0 0,.int .u64 0,.slice none 0 0,.slice none 0 0,.int .u64 0] [.int .u8 0,.int .i64 0,.int .i64 0,.int .i64 0,.int .i64 0,.int .i64 0,.int .i64 0,.int .i64 0,.int .i64 0,.int .i64 0,.slice none 0 0,.slice none 0 0,.slice none 0 0,.slice none 0 0,.int .u64 0,.slice none 0 0,.slice none 0 0,.int .u64 0] rfl rfl rfl rfl xk rfl (by simp [Value.oneCell']) HXn.out ?_;intro w8 hs8 hx8;replace HXh:=hid (hs8.bx HXh.out xo))|(refine wpl_store_row 35 (.tmp 5) (.tmp 65) _ [.int .i64 0,.int .i64 0] [.int .i64 0,.int .i64 0] rfl rfl rfl rfl xk rfl (by simp [Value.oneCell']) HXh.out ?_;intro w9 hs9 hx9))
   have HBZ:=hid ((HB2.out.trans (hs8.bel _ xo)).trans (hs9.bel _ xo));exact bodyPost_ret (results_cct rfl rfl rfl (run_loadVar_many _ Tryz.underlying33 rfl xk (bx_pb (hs9.bx hx8 xo))) (run_loadVar_many _ Tryz.underlying35 rfl xk (bx_pb hx9))) rfl (RR.out _ _ ⟨_,_,_,_,_,_,rfl,World.ownsRow_nil _ _ _ _,World.ownsRow_nil _ _ _ _,World.ownsRow_nil _ _ _ _,World.ownsRow_nil _ _ _ _,World.ownsRow_nil _ _ _ _,World.ownsRow_nil _ _ _ _,HBZ.out⟩)
 replace he0:e0=0:=Classical.not_not.1 he0;subst he0;go_wp2_with fail
 refine (WH.out xsi _ _ HXx.out HB2.out).mono ?_;rintro e' w3 ⟨rfl,hb3⟩;replace HXo:=hid (bx_below hb3 HXo.out (bx_lt HXo.out));replace HXn:=hid (bx_below hb3 HXn.out (bx_lt HXn.out));replace HXh:=hid (bx_below hb3 HXh.out (bx_lt HXh.out));replace HXx:=hid (bx_below hb3 HXx.out (bx_lt HXx.out));have HB3:=xv hb3 HB2;clear hb3;clear WH;by_cases he1:e1≠0
 · have ge:(e1 != 0)=true:=by simpa using he1
   have RR:=hid (R1.out xsi he1);clear he1 R4;go_wp2
   refine wp_goto ?_;show 0=0∧Code.wp _ _ _ _ _;refine ⟨rfl,?_⟩;go_wp2_with (first|(refine wpl_store_row 33 (.tmp 4) (.tmp 64) _ [.int .u8 0,.int .i64 0,.int .i64 0,.int .i64 0,.int .i64 0,.int .i64 0,.int .i64 0,.int .i64 0,.int .i64 0,.int .i64 0,.slice none 0 0,.slice none 0 0,.slice none 0 0,.slice none 0 0,.int .u64 0,.slice none 0 0,.slice none 0 0,.int .u64 0] [.int .u8 0,.int .i64 0,.int .i64 0,.int .i64 0,.int .i64 0,.int .i64 0,.int .i64 0,.int .i64 0,.int .i64 0,.int .i64 0,.slice none 0 0,.slice none 0 0,.slice none 0 0,.slice none 0 0,.int .u64 0,.slice none 0 0,.slice none 0 0,.int .u64 0] rfl rfl rfl rfl xk rfl (by simp [Value.oneCell']) HXn.out ?_;intro w8 hs8 hx8;replace HXh:=hid (hs8.bx HXh.out xo))|(refine wpl_store_row 35 (.tmp 5) (.tmp 65) _ [.int .i64 0,.int .i64 0] [.int .i64 0,.int .i64 0] rfl rfl rfl rfl xk rfl (by simp [Value.oneCell']) HXh.out ?_;intro w9 hs9 hx9))
   have HBZ:=hid ((HB3.out.trans (hs8.bel _ xo)).trans (hs9.bel _ xo));exact bodyPost_ret (results_cct rfl rfl rfl (run_loadVar_many _ Tryz.underlying33 rfl xk (bx_pb (hs9.bx hx8 xo))) (run_loadVar_many _ Tryz.underlying35 rfl xk (bx_pb hx9))) rfl (RR.out _ _ ⟨_,_,_,_,_,_,rfl,World.ownsRow_nil _ _ _ _,World.ownsRow_nil _ _ _ _,World.ownsRow_nil _ _ _ _,World.ownsRow_nil _ _ _ _,World.ownsRow_nil _ _ _ _,World.ownsRow_nil _ _ _ _,HBZ.out⟩)
 replace he1:e1=0:=Classical.not_not.1 he1;subst he1;have HZ3:w0.heap.size<w3.heap.size:=bx_lt HXx.out;have c_o15:=bx_pb HXo.out 15 _ rfl;have c_o16:=bx_pb HXo.out 16 _ rfl;go_wp2_with fail
 refine (MK.out xsi xsi _ HB3.out).mono ?_;rintro e' w4 ⟨v,u,rfl,p1,p2,hne,hb4⟩;have HZ4:=hb4.size;replace HXo:=hid (bx_below hb4 HXo.out (bx_lt HXo.out));replace HXn:=hid (bx_below hb4 HXn.out (bx_lt HXn.out));replace HXh:=hid (bx_below hb4 HXh.out (bx_lt HXh.out));replace HXx:=hid (bx_below hb4 HXx.out (bx_lt HXx.out));have HB4:=xv hb4 HB3;clear hb4;obtain ⟨g2,gc2,rfl,-,-,-,-,-⟩:=row_of_owns p1;obtain ⟨p0,pc2,rfl,-,-,-,-,-⟩:=row_of_owns p2;have HG1:=hid p1;have HG2:=hid p2;clear c_o15 c_o16 MK p1 p2 hne;have c_x15:=bx_pb HXx.out 15 _ rfl;have c_x16:=bx_pb HXx.out 16 _ rfl;have f_x15:=bx_frozen HXx.out (i:=15) (by show (15:Nat)<18;decide);have f_x16:=bx_frozen HXx.out (i:=16) (by show (16:Nat)<18;decide);have HR5:=hid ((rowR_cell w4 w0.heap.size 15 (.slice g2 gs2.length gc2)).trans (rowR_cell _ w0.heap.size 16 (.slice p0 ps2.length pc2)));have HXh5:=hid (HR5.out.bx HXh.out (Nat.ne_of_lt hzh));go_upto_region 8 with (refine wpl_store_row 35 (.tmp 5) (.tmp 30) _ [.int .i64 0,.int .i64 0] [.int .i64 n,.int .i64 g] rfl rfl rfl rfl xk rfl (by simp [Value.oneCell']) HXh5.out ?_;intro w5 hs5 hx5)
 have HS5:=hid hs5;have HZ5':w3.heap.size≤w5.heap.size:=by have:=HR5.out.size;have:=hs5.size;omega
 have HB5:=hid ((HB4.out.trans (HR5.out.bel _ xo)).trans (hs5.bel _ xo));have HXx5:=hid (hs5.bx (bx_set (bx_set HXx.out 15 (.slice g2 gs2.length gc2)) 16 (.slice p0 ps2.length pc2)) xo);replace HXn:=hid (hs5.bx (HR5.out.bx HXn.out xo) xo);replace HXo:=hid (hs5.bx (HR5.out.bx HXo.out xo) xo);replace HXh:=hid hx5;have HG1':=hid (owns_heap (owns_heap HG1.out fun x hx=>HR5.out.other x (by have:=(HG1.out.lt x hx).1;omega)) fun x hx=>HS5.out.other x (by have:=(HG1.out.lt x hx).1;omega));have HG2':=hid (owns_heap (owns_heap HG2.out fun x hx=>HR5.out.other x (by have:=(HG2.out.lt x hx).1;omega)) fun x hx=>HS5.out.other x (by have:=(HG2.out.lt x hx).1;omega));clear c_x15 c_x16 f_x15 f_x16 hx5 hs5 HXx HXh5 HR5 HB4 HG1 HG2 HS5;by_cases he2:e2≠0
 · have ge:(e2 != 0)=true:=by simpa using he2
   have RR:=hid (R2.out xsi xsi he2);clear he2 R4;go_wp2
   refine wp_goto ?_;show 0=0∧Code.wp _ _ _ _ _;refine ⟨rfl,?_⟩;go_wp2_with (first|(refine wpl_store_row 33 (.tmp 4) (.tmp 64) _ [.int .u8 0,.int .i64 0,.int .i64 0,.int .i64 0,.int .i64 0,.int .i64 0,.int .i64 0,.int .i64 0,.int .i64 0,.int .i64 0,.slice none 0 0,.slice none 0 0,.slice none 0 0,.slice none 0 0,.int .u64 0,.slice none 0 0,.slice none 0 0,.int .u64 0] [.int .u8 0,.int .i64 0,.int .i64 0,.int .i64 0,.int .i64 0,.int .i64 0,.int .i64 0,.int .i64 0,.int .i64 0,.int .i64 0,.slice none 0 0,.slice none 0 0,.slice none 0 0,.slice none 0 0,.int .u64 0,.slice none 0 0,.slice none 0 0,.int .u64 0] rfl rfl rfl rfl xk rfl (by simp [Value.oneCell']) HXn.out ?_;intro w8 hs8 hx8;replace HXh:=hid (hs8.bx HXh.out xo))|(refine wpl_store_row 35 (.tmp 5) (.tmp 65) _ [.int .i64 n,.int .i64 g] [.int .i64 0,.int .i64 0] rfl rfl rfl rfl xk rfl (by simp [Value.oneCell']) HXh.out ?_;intro w9 hs9 hx9))
   have HBZ:=hid ((HB5.out.trans (hs8.bel _ xo)).trans (hs9.bel _ xo));exact bodyPost_ret (results_cct rfl rfl rfl (run_loadVar_many _ Tryz.underlying33 rfl xk (bx_pb (hs9.bx hx8 xo))) (run_loadVar_many _ Tryz.underlying35 rfl xk (bx_pb hx9))) rfl (RR.out _ _ ⟨_,_,_,_,_,_,rfl,World.ownsRow_nil _ _ _ _,World.ownsRow_nil _ _ _ _,World.ownsRow_nil _ _ _ _,World.ownsRow_nil _ _ _ _,World.ownsRow_nil _ _ _ _,World.ownsRow_nil _ _ _ _,HBZ.out⟩)
 replace he2:e2=0:=Classical.not_not.1 he2;subst he2;have c_o0:=bx_pb HXo.out 0 _ rfl;have c_o1:=bx_pb HXo.out 1 _ rfl;have c_o2:=bx_pb HXo.out 2 _ rfl;have c_o3:=bx_pb HXo.out 3 _ rfl;have c_o4:=bx_pb HXo.out 4 _ rfl;have c_o5:=bx_pb HXo.out 5 _ rfl;have c_o6:=bx_pb HXo.out 6 _ rfl;have c_o7:=bx_pb HXo.out 7 _ rfl;have c_o8:=bx_pb HXo.out 8 _ rfl;have c_o9:=bx_pb HXo.out 9 _ rfl;have c_o10:=bx_pb HXo.out 10 _ rfl;have c_o11:=bx_pb HXo.out 11 _ rfl;have c_o12:=bx_pb HXo.out 12 _ rfl;have c_o13:=bx_pb HXo.out 13 _ rfl;have c_o14:=bx_pb HXo.out 14 _ rfl;have c_h0:=bx_pb HXh.out 0 _ rfl;go_wp2_with fail
 refine (GP.out xsi xsi xsi _ HB5.out).mono ?_;rintro e' w6 ⟨v1,v2,v3,v4,rfl,p1,p2,p3,p4,hb6⟩;replace HG1':=hid (owns_below HG1'.out hb6);replace HG2':=hid (owns_below HG2'.out hb6);have HZ5:w3.heap.size≤w5.heap.size:=HZ5';replace HXo:=hid (bx_below hb6 HXo.out (bx_lt HXo.out));replace HXn:=hid (bx_below hb6 HXn.out (bx_lt HXn.out));replace HXh:=hid (bx_below hb6 HXh.out (bx_lt HXh.out));replace HXx5:=hid (bx_below hb6 HXx5.out (bx_lt HXx5.out));have HB6:=xv hb6 HB5;clear hb6;obtain ⟨a1,k1,rfl,-,-,-,-,-⟩:=row_of_owns p1;have HP1:=hid p1;obtain ⟨a2,k2,rfl,-,-,-,-,-⟩:=row_of_owns p2;have HP2:=hid p2;obtain ⟨a3,k3,rfl,-,-,-,-,-⟩:=row_of_owns p3;have HP3:=hid p3;obtain ⟨a4,k4,rfl,-,-,-,-,-⟩:=row_of_owns p4;have HP4:=hid p4;clear GP p1 p2 p3 p4 c_o0 c_o1 c_o2 c_o3 c_o4 c_o5 c_o6 c_o7 c_o8 c_o9 c_o10 c_o11 c_o12 c_o13 c_o14 c_h0;have c_x9:=bx_pb HXx5.out 9 _ rfl;have f_x9:=bx_frozen HXx5.out (i:=9) (by show (9:Nat)<18;decide);have c_x10:=bx_pb HXx5.out 10 _ rfl;have f_x10:=bx_frozen HXx5.out (i:=10) (by show (10:Nat)<18;decide);have c_x11:=bx_pb HXx5.out 11 _ rfl;have f_x11:=bx_frozen HXx5.out (i:=11) (by show (11:Nat)<18;decide);have c_x12:=bx_pb HXx5.out 12 _ rfl;have f_x12:=bx_frozen HXx5.out (i:=12) (by show (12:Nat)<18;decide);have c_x13:=bx_pb HXx5.out 13 _ rfl;have f_x13:=bx_frozen HXx5.out (i:=13) (by show (13:Nat)<18;decide);have c_x14:=bx_pb HXx5.out 14 _ rfl;have f_x14:=bx_frozen HXx5.out (i:=14) (by show (14:Nat)<18;decide);go_upto_region 10 with (fail)
 generalize hw7:((((((w6.setCell _ _).setCell _ _).setCell _ _).setCell _ _).setCell _ _).setCell _ _)=w7;have HR7:Hid (RowR w0.heap.size w6 w7):=hw7 ▸ hid ((((((rowR_cell w6 w0.heap.size 9 _).trans (rowR_cell _ w0.heap.size 10 _)).trans (rowR_cell _ w0.heap.size 11 _)).trans (rowR_cell _ w0.heap.size 12 _)).trans (rowR_cell _ w0.heap.size 13 _)).trans (rowR_cell _ w0.heap.size 14 _));have HXx7:Hid (BX w7 w0.heap.size 76 [.int .u8 c.tag,.int .i64 c.most,.int .i64 c.seg,.int .i64 c.least,.int .i64 c.den,.int .i64 c.ll,.int .i64 c.rl,.int .i64 c.rh,.int .i64 c.lh,.int .i64 d.seg,.slice a1 d.ws.length k1,.slice a2 d.ks.length k2,.slice a3 d.vs.length k3,.slice a4 d.cs.length k4,.int .u64 d.laid,.slice g2 gs2.length gc2,.slice p0 ps2.length pc2,.int .u64 mv]):=hw7 ▸ hid (bx_set (bx_set (bx_set (bx_set (bx_set (bx_set HXx5.out 9 _) 10 _) 11 _) 12 _) 13 _) 14 _);have HB7:=hid (HB6.out.trans (HR7.out.bel _ xo));replace HXn:=hid (HR7.out.bx HXn.out xo);replace HXh:=hid (HR7.out.bx HXh.out xo);clear hw7 HXx5 HXo c_x9 f_x9 c_x10 f_x10 c_x11 f_x11 c_x12 f_x12 c_x13 f_x13 c_x14 f_x14;by_cases he3:e3≠0
 · have ge:(e3 != 0)=true:=by simpa using he3
   have RR:=hid (R3.out xsi xsi xsi he3);clear he3 R4;go_wp2
   refine wp_goto ?_;show 0=0∧Code.wp _ _ _ _ _;refine ⟨rfl,?_⟩;go_wp2_with (first|(refine wpl_store_row 33 (.tmp 4) (.tmp 64) _ [.int .u8 0,.int .i64 0,.int .i64 0,.int .i64 0,.int .i64 0,.int .i64 0,.int .i64 0,.int .i64 0,.int .i64 0,.int .i64 0,.slice none 0 0,.slice none 0 0,.slice none 0 0,.slice none 0 0,.int .u64 0,.slice none 0 0,.slice none 0 0,.int .u64 0] [.int .u8 0,.int .i64 0,.int .i64 0,.int .i64 0,.int .i64 0,.int .i64 0,.int .i64 0,.int .i64 0,.int .i64 0,.int .i64 0,.slice none 0 0,.slice none 0 0,.slice none 0 0,.slice none 0 0,.int .u64 0,.slice none 0 0,.slice none 0 0,.int .u64 0] rfl rfl rfl rfl xk rfl (by simp [Value.oneCell']) HXn.out ?_;intro w8 hs8 hx8;replace HXh:=hid (hs8.bx HXh.out xo))|(refine wpl_store_row 35 (.tmp 5) (.tmp 65) _ [.int .i64 n,.int .i64 g] [.int .i64 0,.int .i64 0] rfl rfl rfl rfl xk rfl (by simp [Value.oneCell']) HXh.out ?_;intro w9 hs9 hx9))
   have HBZ:=hid ((HB7.out.trans (hs8.bel _ xo)).trans (hs9.bel _ xo));exact bodyPost_ret (results_cct rfl rfl rfl (run_loadVar_many _ Tryz.underlying33 rfl xk (bx_pb (hs9.bx hx8 xo))) (run_loadVar_many _ Tryz.underlying35 rfl xk (bx_pb hx9))) rfl (RR.out _ _ ⟨_,_,_,_,_,_,rfl,World.ownsRow_nil _ _ _ _,World.ownsRow_nil _ _ _ _,World.ownsRow_nil _ _ _ _,World.ownsRow_nil _ _ _ _,World.ownsRow_nil _ _ _ _,World.ownsRow_nil _ _ _ _,HBZ.out⟩)
 replace he3:e3=0:=Classical.not_not.1 he3;subst he3;have IN':=IN.out xsi xsi xsi xsi;clear IN R0 R1 R2 R3;have Q0:=hid (owns_heap HP1.out fun x hx=>HR7.out.other x (by have:=(HP1.out.lt x hx).1;omega));have Q1:=hid (owns_heap HP2.out fun x hx=>HR7.out.other x (by have:=(HP2.out.lt x hx).1;omega));have Q2:=hid (owns_heap HP3.out fun x hx=>HR7.out.other x (by have:=(HP3.out.lt x hx).1;omega));have Q3:=hid (owns_heap HP4.out fun x hx=>HR7.out.other x (by have:=(HP4.out.lt x hx).1;omega));have Q4:=hid (owns_heap HG1'.out fun x hx=>HR7.out.other x (by have:=(HG1'.out.lt x hx).1;omega));have Q5:=hid (owns_heap HG2'.out fun x hx=>HR7.out.other x (by have:=(HG2'.out.lt x hx).1;omega));have HIN:Hid (∀W:World,(∀q,q<w7.heap.size→q≠w0.heap.size→W.heap[q]? =w7.heap[q]?)→SlIn W d ⟨a1,a2,a3,a4,k1,k2,k3,k4⟩):=by
  refine hid fun W hW=> ?_
  obtain ⟨y0,m0,hy,i0,-⟩:=row_of_owns (owns_heap Q0.out fun x hx=>hW x (Q0.out.lt x hx).2 (by have:=(Q0.out.lt x hx).1;omega));cases hy;obtain ⟨y1,m1,hy,i1,-⟩:=row_of_owns (owns_heap Q1.out fun x hx=>hW x (Q1.out.lt x hx).2 (by have:=(Q1.out.lt x hx).1;omega));cases hy;obtain ⟨y2,m2,hy,i2,-⟩:=row_of_owns (owns_heap Q2.out fun x hx=>hW x (Q2.out.lt x hx).2 (by have:=(Q2.out.lt x hx).1;omega));cases hy;obtain ⟨y3,m3,hy,i3,-⟩:=row_of_owns (owns_heap Q3.out fun x hx=>hW x (Q3.out.lt x hx).2 (by have:=(Q3.out.lt x hx).1;omega));cases hy;exact ⟨i0,i1,i2,i3,IN'.hu⟩
 have HTW:Hid (∀W,Below w7.heap.size w7 W→Calls Tryz.prog 57 #[.agg #[.slice g2 gs2.length gc2,.slice p0 ps2.length pc2]] W (FreshTab W gs2 ps2)):=by
  refine hid fun W hb=> ?_
  obtain ⟨y,m,hy,i4,-⟩:=row_of_owns (owns_below Q4.out hb);cases hy;obtain ⟨y,m,hy,i5,-⟩:=row_of_owns (owns_below Q5.out hb);cases hy;exact Twin_ok _ _ _ _ gs2 ps2 W i4 i5 IN'.hg IN'.hp
 have ST:=hid (settle_core c d ⟨a1,a2,a3,a4,k1,k2,k3,k4⟩ gs2 ps2 mv g2 p0 gc2 pc2 n w0.heap.size w7 HXx7.out HIN.out IN'.hk IN'.hv IN'.hw IN'.hwl IN'.hpl IN'.hkeys HTW);have c_h0:=bx_pb HXh.out 0 _ rfl;have HZx:=bx_lt HXx7.out;clear HIN HTW IN' HG1' HG2' HP1 HP2 HP3 HP4;go_wp2_with fail
 refine ST.out.mono ?_;rintro e' w8 ⟨vr,g3,gc3,p3,pc3,rfl,hx8,hr1,hr2,-,hb8,hk8⟩;have hz3n:w.heap.size+1<w7.heap.size:=bx_lt HXn.out;have hz3h:w.heap.size+1+1<w7.heap.size:=bx_lt HXh.out;replace HXn:Hid (BX w8 (w.heap.size+1) 33 [.int .u8 0,.int .i64 0,.int .i64 0,.int .i64 0,.int .i64 0,.int .i64 0,.int .i64 0,.int .i64 0,.int .i64 0,.int .i64 0,.slice none 0 0,.slice none 0 0,.slice none 0 0,.slice none 0 0,.int .u64 0,.slice none 0 0,.slice none 0 0,.int .u64 0]):=hid ((hk8 _ hz3n xo).trans HXn.out);replace HXh:Hid (BX w8 (w.heap.size+1+1) 35 [.int .i64 n,.int .i64 g]):=hid ((hk8 _ hz3h xo).trans HXh.out);have HXx:=hid hx8;have HB8:=hid (HB7.out.trans (hb8.mono xo));replace Q0:=hid (owns_heap Q0.out fun x hx=>hk8 x (Q0.out.lt x hx).2 (by have:=(Q0.out.lt x hx).1;omega));replace Q1:=hid (owns_heap Q1.out fun x hx=>hk8 x (Q1.out.lt x hx).2 (by have:=(Q1.out.lt x hx).1;omega));replace Q2:=hid (owns_heap Q2.out fun x hx=>hk8 x (Q2.out.lt x hx).2 (by have:=(Q2.out.lt x hx).1;omega));replace Q3:=hid (owns_heap Q3.out fun x hx=>hk8 x (Q3.out.lt x hx).2 (by have:=(Q3.out.lt x hx).1;omega));have hsl:=stlTo_length n d (ps2,mv) d.ks.length;have HRG:=hid hr1;have HRP:Hid (w8.ownsRow w7.heap.size 3 1 (.slice p3 ps2.length pc3) (stlTo n d (ps2,mv) d.ks.length).1.length (((stlTo n d (ps2,mv) d.ks.length).1).map (Value.int .i64))):=by rw [hsl];exact hid hr2
 clear hx8 hr1 hr2 hb8 hk8 ST c_h0 HXx7 Q4 Q5 hsl;go_upto_region 12 with (fail)
 obtain ⟨v8,hv8⟩:∃v,Value.agg #[.int .u8 c.tag,.int .i64 c.most,.int .i64 c.seg,.int .i64 c.least,.int .i64 c.den,.int .i64 c.ll,.int .i64 c.rl,.int .i64 c.rh,.int .i64 c.lh,.int .i64 d.seg,.slice a1 d.ws.length k1,.slice a2 d.ks.length k2,.slice a3 d.vs.length k3,.slice a4 d.cs.length k4,.int .u64 d.laid,.slice g3 gs2.length gc3,.slice p3 ps2.length pc3,.int .u64 (stlTo n d (ps2,mv) d.ks.length).2]=v:=⟨_,rfl⟩
 obtain ⟨vh,hvh⟩:∃v,Value.agg #[.int .i64 n,.int .i64 g]=v:=⟨_,rfl⟩
 have HV8:=hid hv8;have HVh:=hid hvh;clear hv8 hvh;have hJ0:rowNow (w.heap.size+1) 33 [.int .u8 c.tag,.int .i64 c.most,.int .i64 c.seg,.int .i64 c.least,.int .i64 c.den,.int .i64 c.ll,.int .i64 c.rl,.int .i64 c.rh,.int .i64 c.lh,.int .i64 d.seg,.slice a1 d.ws.length k1,.slice a2 d.ks.length k2,.slice a3 d.vs.length k3,.slice a4 d.cs.length k4,.int .u64 d.laid,.slice g3 gs2.length gc3,.slice p3 ps2.length pc3,.int .u64 (stlTo n d (ps2,mv) d.ks.length).2] w8 w8.drew:=⟨⟨rfl,fun _ _=>rfl,fun B hB=>br.drew⟩,[.int .u8 0,.int .i64 0,.int .i64 0,.int .i64 0,.int .i64 0,.int .i64 0,.int .i64 0,.int .i64 0,.int .i64 0,.int .i64 0,.slice none 0 0,.slice none 0 0,.slice none 0 0,.slice none 0 0,.int .u64 0,.slice none 0 0,.slice none 0 0,.int .u64 0],rfl,HXn.out⟩
 refine wp_region_late 6 xk (N:=67) rfl xk xk xdd (rowNow (w.heap.size+1) 33 [.int .u8 c.tag,.int .i64 c.most,.int .i64 c.seg,.int .i64 c.least,.int .i64 c.den,.int .i64 c.ll,.int .i64 c.rl,.int .i64 c.rh,.int .i64 c.lh,.int .i64 d.seg,.slice a1 d.ws.length k1,.slice a2 d.ks.length k2,.slice a3 d.vs.length k3,.slice a4 d.cs.length k4,.int .u64 d.laid,.slice g3 gs2.length gc3,.slice p3 ps2.length pc3,.int .u64 (stlTo n d (ps2,mv) d.ks.length).2] w8) (StB (w.heap.size+1) 33 [.int .u8 c.tag,.int .i64 c.most,.int .i64 c.seg,.int .i64 c.least,.int .i64 c.den,.int .i64 c.ll,.int .i64 c.rl,.int .i64 c.rh,.int .i64 c.lh,.int .i64 d.seg,.slice a1 d.ws.length k1,.slice a2 d.ks.length k2,.slice a3 d.vs.length k3,.slice a4 d.cs.length k4,.int .u64 d.laid,.slice g3 gs2.length gc3,.slice p3 ps2.length pc3,.int .u64 (stlTo n d (ps2,mv) d.ks.length).2]) (factRAt [.is (.pointer (some ⟨w0.heap.size,0,none⟩)),.is (.pointer (some ⟨w0.heap.size,0,none⟩)),.is (.pointer (some ⟨w0.heap.size,0,none⟩)),.is v8,.is vh,.now (fun X=>BX X (w.heap.size+1) 33 [.int .u8 c.tag,.int .i64 c.most,.int .i64 c.seg,.int .i64 c.least,.int .i64 c.den,.int .i64 c.ll,.int .i64 c.rl,.int .i64 c.rh,.int .i64 c.lh,.int .i64 d.seg,.slice a1 d.ws.length k1,.slice a2 d.ks.length k2,.slice a3 d.vs.length k3,.slice a4 d.cs.length k4,.int .u64 d.laid,.slice g3 gs2.length gc3,.slice p3 ps2.length pc3,.int .u64 (stlTo n d (ps2,mv) d.ks.length).2]) (fun _ _ h=>h)]) (factRAt_stays _) hJ0 ?steps ?fin
 case steps=>
  clear hJ0;refine ⟨?o0,?o1,?o2,?o3,?o4,?o5,trivial⟩
  case o0=>
   intro u a w' ev hJ hd K hK;have e7:tg a 7= .pointer (some ⟨w0.heap.size,0,none⟩):=ev 7 xdd;have HK:=hid hK;clear hK ev hd;go_simp;exact HK.out _ _ xzc hJ rfl (fun h=>h)
  case o1=>
   intro u a w' ev hJ hd K hK;have e59:tg a 59= .pointer (some ⟨w0.heap.size,0,none⟩):=(ev 59 xdd).trans (hd 0 _ xk rfl);have HK:=hid hK;clear hK ev hd;go_simp;exact HK.out _ _ xzc hJ rfl (fun h=>h)
  case o2=>
   intro u a w' ev hJ hd K hK;have e60:tg a 60= .pointer (some ⟨w0.heap.size,0,none⟩):=(ev 60 xdd).trans (hd 1 _ xk rfl);have HK:=hid hK;clear hK ev hd;go_simp;exact HK.out _ _ xzc hJ rfl (fun h=>h)
  case o3=>
   intro u a w' ev hJ hd K hK;have e61:tg a 61= .pointer (some ⟨w0.heap.size,0,none⟩):=(ev 61 xdd).trans (hd 2 _ xk rfl);have hx:=bx_pb (hJ.1.bx HXx.out xo);refine op_load 33 (.tmp 61) (w0.heap.size) [.int .u8 c.tag,.int .i64 c.most,.int .i64 c.seg,.int .i64 c.least,.int .i64 c.den,.int .i64 c.ll,.int .i64 c.rl,.int .i64 c.rh,.int .i64 c.lh,.int .i64 d.seg,.slice a1 d.ws.length k1,.slice a2 d.ks.length k2,.slice a3 d.vs.length k3,.slice a4 d.cs.length k4,.int .u64 d.laid,.slice g3 gs2.length gc3,.slice p3 ps2.length pc3,.int .u64 (stlTo n d (ps2,mv) d.ks.length).2] rfl e61 Tryz.underlying33 rfl xk hx ?_;exact hK _ _ xzc hJ HV8.out (fun h=>h)
  case o4=>
   intro u a w' ev hJ hd K hK;have e5:tg a 5= .pointer (some ⟨w.heap.size+1+1,0,none⟩):=ev 5 xdd;have hx:=bx_pb (hJ.1.bx HXh.out xo);refine op_load 35 (.tmp 5) (w.heap.size+1+1) [.int .i64 n,.int .i64 g] rfl e5 Tryz.underlying35 rfl xk hx ?_;exact hK _ _ xzc hJ HVh.out (fun h=>h)
  case o5=>
   intro u a w' ev hJ hd K hK;have e4:tg a 4= .pointer (some ⟨w.heap.size+1,0,none⟩):=ev 4 xdd;have e62:tg a 62= .agg [.int .u8 c.tag,.int .i64 c.most,.int .i64 c.seg,.int .i64 c.least,.int .i64 c.den,.int .i64 c.ll,.int .i64 c.rl,.int .i64 c.rh,.int .i64 c.lh,.int .i64 d.seg,.slice a1 d.ws.length k1,.slice a2 d.ks.length k2,.slice a3 d.vs.length k3,.slice a4 d.cs.length k4,.int .u64 d.laid,.slice g3 gs2.length gc3,.slice p3 ps2.length pc3,.int .u64 (stlTo n d (ps2,mv) d.ks.length).2].toArray:=((ev 62 xdd).trans (hd 3 _ xk rfl)).trans HV8.out.symm;obtain ⟨hr,old,hol,hbx⟩:=hJ;refine exec_store_row (ops:= #[]) 33 (.tmp 4) (.tmp 62) (w.heap.size+1) old [.int .u8 c.tag,.int .i64 c.most,.int .i64 c.seg,.int .i64 c.least,.int .i64 c.den,.int .i64 c.ll,.int .i64 c.rl,.int .i64 c.rh,.int .i64 c.lh,.int .i64 d.seg,.slice a1 d.ws.length k1,.slice a2 d.ks.length k2,.slice a3 d.vs.length k3,.slice a4 d.cs.length k4,.int .u64 d.laid,.slice g3 gs2.length gc3,.slice p3 ps2.length pc3,.int .u64 (stlTo n d (ps2,mv) d.ks.length).2] rfl e4 e62 xk hol (by simp [Value.oneCell']) hbx fun W' hr' hx'=> ?_
   exact hK _ _ (fun _=>rfl) ⟨hr.trans hr',_,rfl,hx'⟩ hx' (fun _=>hx')
 case fin=>
  intro u w9 hJ hG;have h62:u 62=v8:=hG 3 _ rfl;have h63:u 63= .agg #[.int .i64 n,.int .i64 g]:=(hG 4 _ rfl).trans HVh.out.symm;have HXn9:Hid (BX w9 (w.heap.size+1) 33 [.int .u8 c.tag,.int .i64 c.most,.int .i64 c.seg,.int .i64 c.least,.int .i64 c.den,.int .i64 c.ll,.int .i64 c.rl,.int .i64 c.rh,.int .i64 c.lh,.int .i64 d.seg,.slice a1 d.ws.length k1,.slice a2 d.ks.length k2,.slice a3 d.vs.length k3,.slice a4 d.cs.length k4,.int .u64 d.laid,.slice g3 gs2.length gc3,.slice p3 ps2.length pc3,.int .u64 (stlTo n d (ps2,mv) d.ks.length).2]):=hid (hG 5 _ rfl);have HJ:=hid hJ.1;have HXh9:=hid (hJ.1.bx HXh.out xo);clear hG hJ hJ0 HXn HXx;simp only [mixFrame,mixL,dstsOf,List.take_succ_cons,List.take_zero,List.filterMap_cons,List.filterMap_nil,List.contains_cons,List.contains_nil,Nat.reduceBEq,Bool.or_false,Bool.false_or,Bool.or_true,Bool.true_or,if_true,if_false,Bool.false_eq_true,Nat.reduceAdd,Nat.zero_add,List.drop_succ_cons,List.drop_zero,h62,h63];refine wpl_store_row 35 (.tmp 5) (.tmp 63) _ [.int .i64 n,.int .i64 g] [.int .i64 n,.int .i64 g] rfl rfl rfl rfl xk rfl (by simp [Value.oneCell']) HXh9.out ?_;intro w10 hs10 hx10;go_wp2
  have HBZ:=hid ((HB8.out.trans (HJ.out.bel _ xo)).trans (hs10.bel _ xo));exact bodyPost_ret (results_cct rfl rfl rfl (run_loadVar_many _ Tryz.underlying33 rfl xk (bx_pb (hs10.bx HXn9.out xo))) (run_loadVar_many _ Tryz.underlying35 rfl xk (bx_pb hx10))) rfl (R4.out xsi xsi xsi xsi _ _ ⟨_,_,_,_,_,_,rfl,owns_base (owns_heap (owns_heap Q0.out fun x hx=>HJ.out.other x (by have:=(Q0.out.lt x hx).1;omega)) fun x hx=>hs10.other x (by have:=(Q0.out.lt x hx).1;omega)) xo,owns_base (owns_heap (owns_heap Q1.out fun x hx=>HJ.out.other x (by have:=(Q1.out.lt x hx).1;omega)) fun x hx=>hs10.other x (by have:=(Q1.out.lt x hx).1;omega)) xo,owns_base (owns_heap (owns_heap Q2.out fun x hx=>HJ.out.other x (by have:=(Q2.out.lt x hx).1;omega)) fun x hx=>hs10.other x (by have:=(Q2.out.lt x hx).1;omega)) xo,owns_base (owns_heap (owns_heap Q3.out fun x hx=>HJ.out.other x (by have:=(Q3.out.lt x hx).1;omega)) fun x hx=>hs10.other x (by have:=(Q3.out.lt x hx).1;omega)) xo,owns_base (owns_heap (owns_heap HRG.out fun x hx=>HJ.out.other x (by have:=(HRG.out.lt x hx).1;omega)) fun x hx=>hs10.other x (by have:=(HRG.out.lt x hx).1;omega)) xo,owns_base (owns_heap (owns_heap HRP.out fun x hx=>HJ.out.other x (by have:=(HRP.out.lt x hx).1;omega)) fun x hx=>hs10.other x (by have:=(HRP.out.lt x hx).1;omega)) xo,HBZ.out⟩)
end
section
open Go.RowKit Go.Shelf
attribute [local go_sem] Oper.semAt_some
theorem bx_two {w w0:World} {l1 l2:List Value} {t1 t2:TypeId} (h:(w.alloc (.cells l1.toArray t1)).alloc (.cells l2.toArray t2)=w0):
    Below w.heap.size w w0∧BX w0 w.heap.size t1 l1∧BX w0 (w.heap.size+1) t2 l2∧w.heap.size+2=w0.heap.size:=by
 subst h;have z1:(w.alloc (.cells l1.toArray t1)).heap.size=w.heap.size+1:=by simp
 have b1:=bx_new w l1 t1;have b2:=bx_new (w.alloc (.cells l1.toArray t1)) l2 t2;have e2:Below (w.alloc (.cells l1.toArray t1)).heap.size (w.alloc (.cells l1.toArray t1)) ((w.alloc (.cells l1.toArray t1)).alloc (.cells l2.toArray t2)):=br.alloc (Nat.le_refl _) _;rw [z1] at b2;exact ⟨(br.alloc (Nat.le_refl _) _).alloc xsi _,bx_below e2 b1 (by rw [z1];omega),b2,by simp⟩
def FreshOm2 (w:World) (c:Cfg) (s:SlC) (gs ps:List Int) (mv:Int) (x:Value) (e:Ending) (w':World):Prop:=
  ∃v1 v2 v3 v4 v5 v6,e= .returned (.tuple #[.agg #[.int .u8 c.tag,.int .i64 c.most,.int .i64 c.seg,.int .i64 c.least,.int .i64 c.den,.int .i64 c.ll,.int .i64 c.rl,.int .i64 c.rh,.int .i64 c.lh,.int .i64 s.seg,v1,v2,v3,v4,.int .u64 s.laid,v5,v6,.int .u64 mv],x])∧w'.ownsRow w.heap.size 27 1 v1 s.ws.length (s.ws.map (Value.int .u64))∧w'.ownsRow w.heap.size 2 1 v2 s.ks.length (s.ks.map (Value.int .i64))∧w'.ownsRow w.heap.size 2 1 v3 s.vs.length (s.vs.map (Value.int .i64))∧w'.ownsRow w.heap.size 3 1 v4 s.cs.length (s.cs.map (Value.int .i64))∧w'.ownsRow w.heap.size 3 1 v5 gs.length (gs.map (Value.int .i64))∧w'.ownsRow w.heap.size 3 1 v6 ps.length (ps.map (Value.int .i64))∧Below w.heap.size w w'
end
end Go.Proofs.YtjhpblejlchhjaaGreatDoor

/- Merged: Inv, Fact, Step, Row. -/
import Derived.Test.YtmnlagmmbfjbeaaDoorPmaNamesP1
namespace Go.Proofs.YtmnlagmmbfjbeaaDoor
set_option maxRecDepth 100000
set_option maxHeartbeats 40000000
set_option linter.unusedVariables false
set_option linter.unusedSimpArgs false
section
open Go.RowKit
section
variable {P:Program} {ops:Array Oper} {Q:Exit→Act→World→Prop}
def leftOf (L:Array Bool):Nat→Nat
  | 0=>0
  | n+1=>leftOf L n+if L.getD n false=true then 0 else 1
theorem set_same {L:Array Bool} {i:Nat} (h:i<L.size):(L.setIfInBounds i true).getD i false=true:=by simp [h]
theorem set_else {L:Array Bool} {i j:Nat} (h:j≠i):(L.setIfInBounds i true).getD j false=L.getD j false:=by
 have h':¬i=j:=fun e=>h e.symm
 by_cases hj:j<L.size
 · simp [hj,Array.getElem_setIfInBounds,h']
 · simp [hj]
theorem leftOf_out {L:Array Bool} {i:Nat}:∀n,n≤i→leftOf (L.setIfInBounds i true) n=leftOf L n:=by
 intro n;induction n with
 | zero=>intro _;rfl
 | succ n ih=>intro h;rw [leftOf,leftOf,ih xo,set_else xo]
theorem leftOf_set {L:Array Bool} {i:Nat} (hi:i<L.size) (h:L.getD i false=false):∀n,i<n→leftOf (L.setIfInBounds i true) n+1=leftOf L n:=by
 intro n;induction n with
 | zero=>intro h;omega
 | succ n ih=>
  intro hn;rw [leftOf,leftOf];by_cases e:n=i
  · subst e;rw [leftOf_out n (Nat.le_refl _),set_same hi,if_pos rfl,if_neg (by rw [h];decide)]
  · rw [set_else e];have:=ih xo;omega
theorem leftOf_zero {L:Array Bool}:∀n,leftOf L n=0→∀i,i<n→L.getD i false=true:=by
 intro n;induction n with
 | zero=>intro _ i hi;omega
 | succ n ih=>
  intro h i hi;rw [leftOf] at h;split at h
  · rename_i hn
    by_cases e:i=n
    · subst e;exact hn
    · exact ih xo i xo
  · omega
theorem leftOf_le (L:Array Bool):∀n,leftOf L n≤n:=by
 intro n;induction n with
 | zero=>exact Nat.le_refl _
 | succ n ih=>rw [leftOf];split<;>omega
theorem wpAny_inv (I:Array Bool→Act→World→Prop)
    (hac:∀(i:Nat) (o:Oper),ops[i]? =some o→∀e ∈ o.after,e.on<i)
    (step:∀(L:Array Bool) (a:Act) (w:World) (i:Nat) (o:Oper),L.size=ops.size→ops[i]? =some o→L.getD i false=false→
      (∀e ∈ o.after,Region.binds .any e=true→L.getD e.on false=true)→I L a w→wpOp P ops Q i (I (L.setIfInBounds i true)) a w)
    (done:∀(L:Array Bool) (a:Act) (w:World),L.size=ops.size→(∀i,i<ops.size→L.getD i false=true)→I L a w→Q .normal a w):
    ∀(f:Nat) (L:Array Bool) (a:Act) (w:World),L.size=ops.size→leftOf L ops.size≤f→I L a w→wpAny P .any ops Q f L a w:=by
 have none_ready:∀(L:Array Bool),L.size=ops.size→Region.ready .any ops L=[]→∀i,i<ops.size→L.getD i false=true:=by
  intro L hs hr i;induction i using Nat.strongRecOn with
  | ind i ih=>
   intro hi;cases hc:L.getD i false with
   | true=>rfl
   | false=>
    have hm:i ∈ Region.ready .any ops L:=by
     refine mem_ready.2 ⟨?_,ops[i],Array.getElem?_eq_some_iff.2 ⟨hi,rfl⟩,fun e he _=> ?_⟩
     · have h1:i<L.size:=xo;simp [h1] at hc ⊢;exact hc
     · have:=hac i ops[i] (Array.getElem?_eq_some_iff.2 ⟨hi,rfl⟩) e he;exact ih e.on this xo
    rw [hr] at hm;cases hm
 intro f;induction f with
 | zero=>
  intro L a w hs hl hI;have hall:=leftOf_zero (L:=L) ops.size xo;refine ⟨?_,done L a w hs hall hI⟩;rw [List.eq_nil_iff_forall_not_mem];intro i hi;obtain ⟨h1,o,ho,_⟩:=mem_ready.1 hi;have hlt:=(Array.getElem?_eq_some_iff.1 ho).1;have h2:=hall i hlt;have h3:i<L.size:=xo;simp [h3] at h1 h2;rw [h1] at h2;cases h2
 | succ f ih=>
  intro L a w hs hl hI;refine ⟨fun hr=>done L a w hs (none_ready L hs hr) hI,fun i hi=> ?_⟩;obtain ⟨h1,o,ho,hall⟩:=mem_ready.1 hi;have hlt:=(Array.getElem?_eq_some_iff.1 ho).1;have h3:i<L.size:=xo;have h4:L.getD i false=false:=by simp [h3] at h1 ⊢;exact h1
  refine wpOp_mono (fun a' w' hI'=>ih _ a' w' (by simpa using hs) ?_ hI') (step L a w i o hs ho h4 hall hI);have:=leftOf_set h3 h4 ops.size hlt;omega
def mixAt (D:List Nat) (u:Nat→Value) (t0:Array Value) (t:Nat):Value:=if D.contains t then u t else t0.getD t undef
def mixL (D:List Nat) (u:Nat→Value):Nat→List Value→List Value
  | _,[]=>[]
  | i,v::vs=>(if D.contains i then u i else v)::mixL D u (i+1) vs
def mixFrame (D:List Nat) (u:Nat→Value) (t0:Array Value):Array Value:=(mixL D u 0 t0.toList).toArray
theorem mixL_length (D:List Nat) (u:Nat→Value):∀(l:List Value) (i:Nat),(mixL D u i l).length=l.length
  | [],_=>rfl
  | v::vs,i=>by simp [mixL,mixL_length D u vs]
theorem mixL_get (D:List Nat) (u:Nat→Value):∀(l:List Value) (i t:Nat),t<l.length→(mixL D u i l)[t]? =some (if D.contains (i+t) then u (i+t) else l.getD t undef)
  | [],_,_,h=>by simp at h
  | v::vs,i,0,_=>by simp [mixL]
  | v::vs,i,t+1,h=>by
   have:=mixL_get D u vs (i+1) t (by simpa using h);rw [mixL,List.getElem?_cons_succ,this,Nat.add_assoc,Nat.add_comm 1 t];simp
theorem mixFrame_size (D:List Nat) (u:Nat→Value) (t0:Array Value):(mixFrame D u t0).size=t0.size:=by simp [mixFrame,mixL_length]
theorem mixFrame_get {D:List Nat} {u:Nat→Value} {t0:Array Value} {t:Nat} (h:t<t0.size):(mixFrame D u t0).getD t undef=mixAt D u t0 t:=by
 have:=mixL_get D u t0.toList 0 t (by simpa using h);rw [Nat.zero_add] at this;simp only [mixFrame,mixAt,Array.getD_eq_getD_getElem?,List.getElem?_toArray,this];simp [List.getD_eq_getElem?_getD]
theorem frame_ext {x y:Array Value} (hs:x.size=y.size) (h:∀t,t<x.size→x.getD t undef=y.getD t undef):x=y:=by
 apply Array.ext hs;intro i h1 h2;have:=h i h1;simpa [h1,h2] using this
theorem mixFrame_start (D:List Nat) (t0:Array Value):mixFrame D (fun t=>t0.getD t undef) t0=t0:=by
 refine frame_ext (mixFrame_size _ _ _) fun t ht=> ?_
 rw [mixFrame_size] at ht;rw [mixFrame_get ht,mixAt];split<;>rfl
theorem mixFrame_put {D:List Nat} {u:Nat→Value} {t0:Array Value} {d:Nat} {v:Value} (hd:D.contains d=true):
    (mixFrame D u t0).setIfInBounds d v=mixFrame D (fun t=>if t=d then v else u t) t0:=by
 refine frame_ext (by simp [mixFrame_size]) fun t ht=> ?_
 rw [Array.size_setIfInBounds,mixFrame_size] at ht;rw [mixFrame_get ht];by_cases e:t=d
 · subst e;have h2:t<(mixFrame D u t0).size:=by rw [mixFrame_size];exact ht
   rw [mixAt,if_pos hd,if_pos rfl];simp [h2]
 · have h1:((mixFrame D u t0).setIfInBounds d v).getD t undef=(mixFrame D u t0).getD t undef:=by
     have h2:t<(mixFrame D u t0).size:=by rw [mixFrame_size];exact ht
     have e':¬d=t:=fun h=>e h.symm
     simp [h2,Array.getElem_setIfInBounds,e']
   rw [h1,mixFrame_get ht,mixAt,mixAt];simp [e]
def valOf (u:Nat→Value) (o:Oper):Value:=match o.dst with|some d=>u d|none=>undef
def OpOk (P:Program) (ops:Array Oper) (Q:Exit→Act→World→Prop) (D:List Nat) (t0:Array Value) (n:Nat) (ds:List Deferred) (J:World→Prop) (Ext:World→World→Prop) (G:Nat→Value→World→Prop) (k:Nat) (o:Oper):Prop:=
  ∀ (u:Nat→Value) (a:Act) (w:World),(∀t,t<n→a.tmps.getD t undef=mixAt D u t0 t)→J w→
    (∀(j:Nat) (p:Oper),(o.after.any fun e=>Region.binds .any e&&e.on==j)=true→ops[j]? =some p→G j (valOf u p) w)→
    ∀K:Act→World→Prop,(∀v w',(o.dst=none→v=undef)→J w'→G k v w'→Ext w w'→K (a.put o.dst v) w')→Oper.wp P o a w K Q
def OpsOk (P:Program) (ops:Array Oper) (Q:Exit→Act→World→Prop) (D:List Nat) (t0:Array Value) (n:Nat) (ds:List Deferred) (J:World→Prop) (Ext:World→World→Prop) (G:Nat→Value→World→Prop):Nat→List Oper→Prop
  | _,[]=>True
  | k,o::rest=>OpOk P ops Q D t0 n ds J Ext G k o∧OpsOk P ops Q D t0 n ds J Ext G (k+1) rest
theorem OpsOk.at {D:List Nat} {t0:Array Value} {n:Nat} {ds:List Deferred} {J:World→Prop} {Ext:World→World→Prop} {G:Nat→Value→World→Prop}:∀ {l:List Oper} {k:Nat},OpsOk P ops Q D t0 n ds J Ext G k l→∀ {i:Nat} {o:Oper},l[i]? =some o→OpOk P ops Q D t0 n ds J Ext G (k+i) o
  | [],_,_,i,o,ho=>by simp at ho
  | x::rest,k,h,0,o,ho=>by simp at ho;subst ho;exact h.1
  | x::rest,k,h,i+1,o,ho=>by
   have:=OpsOk.at h.2 (i:=i) (o:=o) (by simpa using ho);rwa [Nat.add_assoc,Nat.add_comm 1 i] at this
def dstsOf (l:List Oper):List Nat:=l.filterMap (·.dst)
def regionB (l:List Oper) (n:Nat):Bool:=
  (dstsOf l).Nodup&&(dstsOf l).all (fun d=>decide (d<n))&&l.all (fun o=>o.guard.isNone) &&
  (List.range l.length).all fun i=>match l[i]? with|some o=>o.after.all fun e=>decide (e.on<i)|none=>true
theorem nodup_slot {l:List Oper} (h:(dstsOf l).Nodup) {i j:Nat} {o p:Oper} (hi:l[i]? =some o) (hj:l[j]? =some p) (hne:i≠j) {d:Nat} (ho:o.dst=some d):p.dst≠some d:=by
 induction l generalizing i j with
 | nil=>simp at hi
 | cons x rest ih=>
  have hmem:∀ {k:Nat} {q:Oper},rest[k]? =some q→q.dst=some d→d ∈ dstsOf rest:=fun hk hq=>List.mem_filterMap.2 ⟨_,List.mem_of_getElem? hk,hq⟩
  intro hp;cases i with
  | zero=>
   cases j with
   | zero=>exact hne rfl
   | succ j=>
    simp at hi hj;subst hi;simp only [dstsOf,List.filterMap_cons,ho,List.nodup_cons] at h;exact h.1 (hmem hj hp)
  | succ i=>
   cases j with
   | zero=>
    simp at hi hj;subst hj;simp only [dstsOf,List.filterMap_cons,hp,List.nodup_cons] at h;exact h.1 (hmem hi ho)
   | succ j=>
    simp at hi hj;refine ih ?_ (i:=i) (j:=j) hi hj (fun e=>hne (by rw [e])) hp;simp only [dstsOf,List.filterMap_cons] at h;split at h
    · exact h
    · exact (List.nodup_cons.1 h).2
def tailB (l:List Oper) (n:Nat):Bool:=
  (List.range l.length).all fun i=>decide (i<n)||match l[i]? with|some o=>((List.range i).all fun j=>o.after.any fun e=>Region.binds .any e&&e.on==j)&&o.after.all (fun e=>decide (e.on<i))|none=>true
theorem wpOp_of_list {l:List Oper} {i:Nat} {o:Oper} {a:Act} {w:World} (ho:l[i]? =some o) (h:wpList P l.toArray Q (l.drop i) a w):wpOp P l.toArray Q i (wpList P l.toArray Q (l.drop (i+1))) a w:=by
 have hi:=(List.getElem?_eq_some_iff.1 ho).1;have hd:l.drop i=o::l.drop (i+1):=by
  rw [List.drop_eq_getElem_cons hi];congr 1
  exact (List.getElem?_eq_some_iff.1 ho).2
 rw [hd] at h;unfold wpOp;simp only [List.getElem?_toArray,ho];exact h
theorem wp_region_facts {id:Nat} {l:List Oper} {t0:Array Value} {ds:List Deferred} {w0:World} {N:Nat} (n:Nat) (hm:P.follows .mixedOrders=true) (hn:t0.size=N) (hB:regionB (l.take n) N=true) (hT:tailB l n=true) (hle:n≤l.length)
    (J:World→Prop) (Ext:World→World→Prop) (G:Nat→Value→World→Prop) (hst:∀k x w w',Ext w w'→G k x w→G k x w') (hJ:J w0.drew)
    (hop:OpsOk P l.toArray Q (dstsOf (l.take n)) t0 N ds J Ext G 0 (l.take n))
    (hdone:∀(u:Nat→Value) (w:World),J w→(∀(k:Nat) (o:Oper),(l.take n)[k]? =some o→G k (valOf u o) w)→wpList P l.toArray Q (l.drop n) {tmps:=mixFrame (dstsOf (l.take n)) u t0,defers:=ds} w):
    (Code.region id l.toArray true).wp P Q {tmps:=t0,defers:=ds} w0:=by
 subst hn;simp only [regionB,Bool.and_eq_true,List.all_eq_true,decide_eq_true_eq] at hB;obtain ⟨⟨⟨hnd,hlt⟩,hgd⟩,hac⟩:=hB;simp only [tailB,List.all_eq_true,List.mem_range,Bool.or_eq_true,decide_eq_true_eq] at hT;have htk:∀ {k:Nat} {o:Oper},(l.take n)[k]? =some o↔k<n∧l[k]? =some o:=by
  intro k o;rw [List.getElem?_take];by_cases h:k<n
  · rw [if_pos h];exact ⟨fun h1=>⟨h,h1⟩,fun h1=>h1.2⟩
  · rw [if_neg h];exact ⟨fun h1=>(by cases h1),fun h1=>absurd h1.1 h⟩
 have wait:∀ {i:Nat} {o:Oper},n≤i→l[i]? =some o→∀j,j<i→∃e ∈ o.after,Region.binds .any e=true∧e.on=j:=by
  intro i o hi ho j hj;have h1:=hT i (List.getElem?_eq_some_iff.1 ho).1;rcases h1 with h1|h1
  · omega
  · rw [ho] at h1;simp only [Bool.and_eq_true] at h1;have h2:=List.all_eq_true.1 h1.1 j (List.mem_range.2 hj);obtain ⟨k,hk,h3⟩:=Array.any_eq_true.1 h2;simp only [Bool.and_eq_true,beq_iff_eq] at h3;exact ⟨_,Array.getElem_mem hk,h3.1,h3.2⟩
 refine wp_region_any hm (wpAny_inv (ops:=l.toArray)
   (fun L a w=>((∀i,n≤i→L.getD i false=false)∧∃u:Nat→Value,a= {tmps:=mixFrame (dstsOf (l.take n)) u t0,defers:=ds}∧J w∧∀(k:Nat) (o:Oper),(l.take n)[k]? =some o→L.getD k false=true→G k (valOf u o) w) ∨
     (∃m,n≤m∧m≤l.length∧(∀i,i<m→L.getD i false=true)∧(∀i,m≤i→L.getD i false=false)∧wpList P l.toArray Q (l.drop m) a w))
   ?_ ?_ ?_ _ _ _ _ xsi (leftOf_le _ _) (.inl ⟨fun i _=>by rw [List.size_toArray];simp [Array.getD],fun t=>t0.getD t undef,by rw [mixFrame_start],hJ,fun k o _ h=> ?_⟩))
 · intro i o ho e he;have hi:i<l.length:=(Array.getElem?_eq_some_iff.1 ho).1;rw [List.getElem?_toArray] at ho;by_cases hin:i<n
   · have h1:(l.take n)[i]? =some o:=htk.2 ⟨hin,ho⟩;have:=hac i (List.mem_range.2 (List.getElem?_eq_some_iff.1 h1).1);rw [h1] at this;have h2:=Array.all_eq_true_iff_forall_mem.1 this e he;simpa using h2
   · have h1:=hT i hi;rcases h1 with h1|h1
     · omega
     · rw [ho] at h1;simp only [Bool.and_eq_true] at h1;have h2:=Array.all_eq_true_iff_forall_mem.1 h1.2 e he;simpa using h2
 · rintro L a w i o hs ho hi hall hI;rw [List.getElem?_toArray] at ho;have hil:i<l.length:=(List.getElem?_eq_some_iff.1 ho).1;have hilt:i<L.size:=by rw [hs];simpa using hil
   have ahead:n≤i→∀j,j<i→L.getD j false=true:=by
    intro hin j hj;obtain ⟨e,he,hb,rfl⟩:=wait hin ho j hj;exact hall e he hb
   have later:∀(m:Nat),n≤m→m=i→(∀j,m≤j→L.getD j false=false)→(∀j,j<m→L.getD j false=true)→wpList P l.toArray Q (l.drop m) a w→
       wpOp P l.toArray Q i (fun a' w'=>((∀k,n≤k→(L.setIfInBounds i true).getD k false=false)∧∃u:Nat→Value,a'= {tmps:=mixFrame (dstsOf (l.take n)) u t0,defers:=ds}∧J w'∧∀(k:Nat) (o:Oper),(l.take n)[k]? =some o→(L.setIfInBounds i true).getD k false=true→G k (valOf u o) w') ∨
         (∃m,n≤m∧m≤l.length∧(∀k,k<m→(L.setIfInBounds i true).getD k false=true)∧(∀k,m≤k→(L.setIfInBounds i true).getD k false=false)∧wpList P l.toArray Q (l.drop m) a' w')) a w:=by
    rintro m hnm rfl hno hyes hw;refine wpOp_mono (fun a' w' h=> .inr ⟨m+1,by omega,by omega,fun k hk=> ?_,fun k hk=> ?_,h⟩) (wpOp_of_list ho hw)
    · by_cases e:k=m
      · subst e;exact set_same hilt
      · rw [set_else e];exact hyes k xo
    · rw [set_else xo];exact hno k xo
   rcases hI with ⟨hno,u,rfl,hJw,hG⟩ | ⟨m,hnm,hml,hyes,hno,hw⟩
   · by_cases hin:i<n
     · have htki:(l.take n)[i]? =some o:=htk.2 ⟨hin,ho⟩;have hok:=hop.at htki;rw [Nat.zero_add] at hok;have hg:o.guard=none:=by
        have:=hgd o (List.mem_of_getElem? htki);cases hx:o.guard with
        | none=>rfl
        | some x=>rw [hx] at this;cases this
       unfold wpOp;simp only [List.getElem?_toArray,ho];rw [if_pos (by simp [Region.wanted,hg])];left;refine hok u _ w (fun t ht=>mixFrame_get ht) hJw (fun j p hj hp=> ?_) _ (fun v w' hv hJ' hG' hE=> .inl ⟨fun k hk=>by rw [set_else xo];exact hno k hk,?_⟩)
       · rw [List.getElem?_toArray] at hp;obtain ⟨e,he,hbe⟩:=Array.any_eq_true.1 hj;simp only [Bool.and_eq_true,beq_iff_eq] at hbe;have hl:=hall _ (Array.getElem_mem he) hbe.1;rw [hbe.2] at hl;have hjn:j<n:=by
          by_cases h:j<n
          · exact h
          · rw [hno j xo] at hl;cases hl
         exact hG j p (htk.2 ⟨hjn,hp⟩) hl
       · cases hd:o.dst with
         | none=>
          refine ⟨u,rfl,hJ',fun k p hp hk=> ?_⟩;by_cases e:k=i
          · subst e;obtain rfl:p=o:=Option.some.inj (hp.symm.trans htki);have:valOf u p=undef:=by simp [valOf,hd]
            rw [this,←hv hd];exact hG'
          · rw [set_else e] at hk;exact hst _ _ _ _ hE (hG k p hp hk)
         | some d=>
          have hdm:(dstsOf (l.take n)).contains d=true:=by
           simp only [List.contains_iff_mem];exact List.mem_filterMap.2 ⟨o,List.mem_of_getElem? htki,hd⟩
          refine ⟨fun t=>if t=d then v else u t,by simp only [Act.put,mixFrame_put hdm],hJ',fun k p hp hk=> ?_⟩;by_cases e:k=i
          · subst e;obtain rfl:p=o:=Option.some.inj (hp.symm.trans htki);simpa [valOf,hd] using hG'
          · rw [set_else e] at hk;have hne:=nodup_slot hnd htki hp (fun h=>e h.symm) hd;have:valOf (fun t=>if t=d then v else u t) p=valOf u p:=by
             unfold valOf;cases hpd:p.dst with
             | none=>rfl
             | some d'=>exact if_neg (fun h=>hne (by rw [hpd,h]))
            rw [this];exact hst _ _ _ _ hE (hG k p hp hk)
     · have hin':n=i:=by
         by_cases e:n=i
         · exact e
         · have:=ahead xo n xo;rw [hno n (Nat.le_refl _)] at this;cases this
       refine later n (Nat.le_refl _) hin' hno (fun j hj=>ahead xo j xo) (hdone u w hJw fun k p hp=>hG k p hp (ahead xo k ?_));have:=(htk.1 hp).1;omega
   · have him:m≤i:=by
       by_cases h:m≤i
       · exact h
       · have:=hyes i xo;rw [hi] at this;cases this
     have hmi:m=i:=by
      by_cases e:m=i
      · exact e
      · have:=ahead xo m xo;rw [hno m (Nat.le_refl _)] at this;cases this
     exact later m hnm hmi hno hyes hw
 · rintro L a w hs hall hI;rw [List.size_toArray] at hall;rcases hI with ⟨hno,u,rfl,hJw,hG⟩ | ⟨m,hnm,hml,hyes,hno,hw⟩
   · have hnl:n=l.length:=by
       by_cases e:n=l.length
       · exact e
       · have:=hall n xo;rw [hno n (Nat.le_refl _)] at this;cases this
     have hq:=hdone u w hJw fun k p hp=>hG k p hp (hall k (by have:=(htk.1 hp).1;omega))
     have hd:l.drop n=[]:=by rw [hnl];exact List.drop_length
     rw [hd] at hq;exact hq
   · have hml':m=l.length:=by
       by_cases e:m=l.length
       · exact e
       · have:=hall m xo;rw [hno m (Nat.le_refl _)] at this;cases this
     rw [hml',List.drop_length] at hw;exact hw
 · rw [List.size_toArray] at h;simp [Array.getD] at h
end
end
section
open Go.RowKit
structure Ext (T:TypeId) (w w':World):Prop where
 size:w.heap.size≤w'.heap.size
 same:∀(k:Nat) (o:Obj),w.heap[k]? =some o→(∀cs fr,o≠ .cells cs T fr)→w'.heap[k]? =some o
 box:∀(k:Nat) (cs:Array Value) (fr:Nat×Nat),w.heap[k]? =some (.cells cs T fr)→∃cs',w'.heap[k]? =some (.cells cs' T fr)∧cs'.size=cs.size
theorem Ext.refl (T:TypeId) (w:World):Ext T w w:=⟨Nat.le_refl _,fun _ _ h _=>h,fun _ cs _ h=>⟨cs,h,rfl⟩⟩
theorem Ext.below {T:TypeId} {w w':World} (h:Below w.heap.size w w'):Ext T w w':=
  ⟨h.size,fun k o hk _=>(h.block k (Array.getElem?_eq_some_iff.1 hk).1).trans hk,fun k cs fr hk=>⟨cs,(h.block k (Array.getElem?_eq_some_iff.1 hk).1).trans hk,rfl⟩⟩
theorem Ext.owns {T:TypeId} {w w':World} (hE:Ext T w w') {base:Nat} {e:TypeId} {size:Nat} {v:Value} {n:Nat} {xs:List Value} (hne:e≠T) (h:w.ownsRow base e size v n xs):w'.ownsRow base e size v n xs:=by
 obtain ⟨h1,h2⟩:=h;refine ⟨h1,?_⟩;rcases h2 with h2 | ⟨g,cap,cur,hv,hg,hh,r⟩
 · exact .inl h2
 · exact .inr ⟨g,cap,cur,hv,hg,hE.same _ _ hh (fun cs fr e=>by cases e;exact hne rfl),r⟩
structure Fact (T:TypeId) where
 holds:Value→World→Prop
 stays:∀v w w',Ext T w w'→holds v w→holds v w'
def Fact.any (T:TypeId):Fact T:=⟨fun _ _=>True,fun _ _ _ _ _=>trivial⟩
def Fact.is {T:TypeId} (x:Value):Fact T:=⟨fun v _=>v=x,fun _ _ _ _ h=>h⟩
def Fact.row {T:TypeId} (base:Nat) (e:TypeId) (he:e≠T) (s n:Nat) (xs:List Value):Fact T:=⟨fun v w=>w.ownsRow base e s v n xs,fun _ _ _ h k=>h.owns he k⟩
def Fact.box {T:TypeId} (base n:Nat):Fact T:=⟨fun v w=>∃b cs,v= .pointer (some ⟨b,0,none⟩)∧base≤b∧w.heap[b]? =some (.cells cs T (0,0))∧cs.size=n,
  fun _ _ _ h ⟨b,cs,e,hb,hh,hn⟩=>by obtain ⟨cs',h1,h2⟩:=h.box _ _ _ hh;exact ⟨b,cs',e,hb,h1,by omega⟩⟩
def Fact.empty {T:TypeId} (base:Nat) (e:TypeId) (he:e≠T):Fact T:=⟨fun v w=>∃g,v= .slice (some ⟨g,0,none⟩) 0 0∧w.ownsRow base e 1 v 0 [],fun _ _ _ h ⟨g,k1,k2⟩=>⟨g,k1,h.owns he k2⟩⟩
def factAt {T:TypeId} (fs:List (Fact T)) (k:Nat) (v:Value) (w:World):Prop:=(fs.getD k (Fact.any T)).holds v w
theorem factAt_stays {T:TypeId} (fs:List (Fact T)) (k:Nat) (v:Value) (w w':World) (h:Ext T w w'):factAt fs k v w→factAt fs k v w':=(fs.getD k (Fact.any T)).stays _ _ _ h
theorem run_loadVar_many {P:Program} {w:World} {ty:TypeId} {d:TypeDesc} {b:Nat} (vs:List Value) (hu:P.underlying ty=some d) (hd:d.isRow=true) (hi:(P.info? ty).map (·.size)=some vs.length)
    (h:∀j x,vs[j]? =some x→w.cell? ⟨b,j,none⟩=some x):(loadVar ty ⟨b,0,none⟩).run P w= .ok (.agg vs.toArray) w:=
  run_loadVar_mid w b 0 ty vs d (fun j x hj=>by rw [Nat.zero_add];exact h j x hj) hu hd hi
theorem alloc_new (w:World) (o:Obj):(w.alloc o).heap[w.heap.size]? =some o:=by unfold World.alloc;simp
end
section
open Go.RowKit
theorem below_via {n m:Nat} {w W w':World} (h:Below m W w') (h1:Below n w W) (h2:n≤m):Below n w w':=h1.trans (h.mono h2)
theorem xv {w W w':World} (h:Below W.heap.size W w') (H:Hid (Below w.heap.size w W)):Hid (Below w.heap.size w w'):=hid (below_via h H.out H.out.size)
end
section
open Go.RowKit
def IsRow (k:IntKind) (w:World) (a:Option Addr) (xs:List Int):Prop:=
  ∀i,i<xs.length→∃b off,a=some ⟨b,off,none⟩∧b<w.heap.size∧∀j,j<xs.length→w.cell? ⟨b,off+j,none⟩=some (.int k (xs.getD j 0))
variable {k:IntKind}
theorem IsRow.below {w w':World} {a:Option Addr} {xs:List Int} (h:IsRow k w a xs) (hb:Below w.heap.size w w'):IsRow k w' a xs:=by
 intro i hi;obtain ⟨b,off,ha,hlt,hc⟩:=h i hi;exact ⟨b,off,ha,Nat.lt_of_lt_of_le hlt hb.size,fun j hj=>(hb.cell (p:=⟨b,off+j,none⟩) hlt).trans (hc j hj)⟩
theorem IsRow.alloc {w:World} {a:Option Addr} {xs:List Int} (h:IsRow k w a xs) (o:Obj):IsRow k (w.alloc o) a xs:=h.below (br.alloc (Nat.le_refl _) _)
theorem IsRow.drewN {w:World} {a:Option Addr} {xs:List Int} (h:IsRow k w a xs) (n:Nat):IsRow k (w.drewN n) a xs:=h
theorem IsRow.setCell {w:World} {a:Option Addr} {xs:List Int} (h:IsRow k w a xs) {p:Addr} (hne:∀x,a=some x→x.block≠p.block) (v:Value):IsRow k (w.setCell p v) a xs:=by
 intro i hi;obtain ⟨b,off,ha,hlt,hc⟩:=h i hi;refine ⟨b,off,ha,by simpa using hlt,fun j hj=> ?_⟩;rw [World.cell?_setCell_other]
 · exact hc j hj
 · intro e;exact hne _ ha (by rw [e])
theorem IsRow.get {w:World} {a:Option Addr} {xs:List Int} (h:IsRow k w a xs) {i:Nat} (hi:i<xs.length):
    ∃b off x,a=some ⟨b,off,none⟩∧Hid (xs.getD i 0=x)∧w.cell? ⟨b,off+i,none⟩=some (.int k x)∧b<w.heap.size:=by
 obtain ⟨b,off,ha,hlt,hc⟩:=h i hi;exact ⟨b,off,_,ha,hid rfl,hc i hi,hlt⟩
theorem IsRow.take {w:World} {a:Option Addr} {xs:List Int} (h:IsRow k w a xs) (n:Nat) (hn:n≤xs.length):IsRow k w a (xs.take n):=by
 intro i hi;have hi':i<n:=by simp at hi;omega
 obtain ⟨b,off,ha,hlt,hc⟩:=h i xo;refine ⟨b,off,ha,hlt,fun j hj=> ?_⟩;have hj':j<n:=by simp at hj;omega
 rw [hc j xo];simp [List.getD_eq_getElem?_getD,List.getElem?_take,hj']
theorem IsRow.get2 {w:World} {a:Option Addr} {xs:List Int} (h:IsRow k w a xs) {i:Nat} (hi:i*2+2≤xs.length):
    ∃ b off x y,a=some ⟨b,off,none⟩∧Hid (xs.getD (i*2) 0=x)∧Hid (xs.getD (i*2+1) 0=y)∧
      w.cell? ⟨b,off+i*2,none⟩=some (.int k x)∧w.cell? ⟨b,off+i*2+1,none⟩=some (.int k y)∧b<w.heap.size:=by
 obtain ⟨b,off,ha,hlt,hc⟩:=h (i*2) xo;exact ⟨b,off,_,_,ha,hid rfl,hid rfl,hc _ xo,by rw [Nat.add_assoc];exact hc _ xo,hlt⟩
theorem numCells (l:List Int):∀u ∈ l.map (Value.int k),u.oneCell'=true:=by
 intro u hu;obtain ⟨n,_,rfl⟩:=List.mem_map.1 hu;rfl
theorem row_of_owns {w:World} {B:Nat} {e:TypeId} {s:Nat} {v:Value} {n:Nat} {xs:List Int} (h:w.ownsRow B e s v n (xs.map (Value.int k))):
    ∃a cap,v= .slice a n cap∧IsRow k w a xs∧(∀x,a=some x→B≤x.block∧x.block<w.heap.size∧x.off=0∧x.spot=none)∧(a=none→n=0∧cap=0)∧n≤cap∧xs.length=n*s:=by
 have hl:xs.length=n*s:=by have:=h.1;simpa using this
 obtain ⟨h1,⟨rfl,hn⟩ | ⟨g,cap,cur,rfl,hg,hh,hn,hm,hs,ht⟩⟩:=h
 · subst hn;exact ⟨none,0,rfl,fun i hi=>by omega,fun x hx=>(by cases hx),fun _=>⟨rfl,rfl⟩,Nat.le_refl _,hl⟩
 · have hlt:=(Array.getElem?_eq_some_iff.1 hh).1;refine ⟨some ⟨g,0,none⟩,cap,rfl,fun i hi=>⟨g,0,rfl,hlt,fun j hj=> ?_⟩,fun x hx=>(by cases hx;exact ⟨hg,hlt,rfl,rfl⟩),fun hx=>(by cases hx),hn,hl⟩;have:=World.ownsRow.cells (w:=w) (base:=B) (e:=e) (size:=s) (n:=n) (xs:=xs.map (Value.int k)) ⟨h1,.inr ⟨g,cap,cur,rfl,hg,hh,hn,hm,hs,ht⟩⟩ (g:=g) rfl j (.int k (xs.getD j 0)) (by
    rw [List.getElem?_map,List.getElem?_eq_getElem hj];simp [List.getD_eq_getElem?_getD,hj])
   rw [Addr.add_lit] at this;exact this
theorem row_news {w:World} {ga:Option Addr} {xs:List Int} (h:IsRow k w ga xs):∀ad,ga=some ad→∀j u,(xs.map (Value.int k))[j]? =some u→w.cell? (ad.add j)=some u:=by
 rintro ad rfl j u hj;rw [List.getElem?_map] at hj;cases hx:xs[j]? with
 | none=>rw [hx] at hj;cases hj
 | some v=>
  rw [hx] at hj;have hjl:=(List.getElem?_eq_some_iff.1 hx).1;obtain ⟨b,o,h1,_,hc⟩:=h j hjl;cases h1;rw [Addr.add_lit,hc j hjl,List.getD_eq_getElem?_getD,hx];exact hj
theorem row_none {w:World} {xs:List Int} (h:IsRow k w none xs):xs=[]:=by
 cases xs with
 | nil=>rfl
 | cons x t=>obtain ⟨b,o,h1,_⟩:=h 0 xsi;cases h1
def FreshRow (k:IntKind) (t:TypeId) (w:World) (xs:List Int) (e:Ending) (w':World):Prop:=
  ∃v,e= .returned v∧w'.ownsRow w.heap.size t 1 v xs.length (xs.map (Value.int k))∧Below w.heap.size w w'
end
end Go.Proofs.YtmnlagmmbfjbeaaDoor

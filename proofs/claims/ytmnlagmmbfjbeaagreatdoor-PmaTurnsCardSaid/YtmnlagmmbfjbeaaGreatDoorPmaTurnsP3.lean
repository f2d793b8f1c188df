/- Merged: InvIn, OccCnt, PrsIt, Fits. -/
import Derived.Test.YtmnlagmmbfjbeaaGreatDoorPmaTurnsP2
import Derived.Test.YtmnlagmmbfjbeaaGreatDoorPmaTurnsP1
import Derived.OrdersIn
namespace Go.Proofs.YtmnlagmmbfjbeaaGreatDoor
set_option maxRecDepth 100000
set_option maxHeartbeats 40000000
set_option linter.unusedVariables false
set_option linter.unusedSimpArgs false
section
open Go.RowKit
section
variable {F:Fence} {dp:Nat} {P:Program} {ops:Array Oper} {Q:Exit→Act→World→Prop}
def ClosedL (ops:Array Oper) (L:Array Bool):Prop:=∀(j:Nat) (p:Oper),ops[j]? =some p→L.getD j false=true→∀e ∈ p.after,Region.binds .any e=true→L.getD e.on false=true
theorem ClosedL.set {L:Array Bool} {i:Nat} {o:Oper} (h:ClosedL ops L) (hi:i<L.size) (ho:ops[i]? =some o) (hall:∀e ∈ o.after,Region.binds .any e=true→L.getD e.on false=true):ClosedL ops (L.setIfInBounds i true):=by
 have keep:∀k,L.getD k false=true→(L.setIfInBounds i true).getD k false=true:=by
  intro k hk;by_cases e:k=i
  · subst e;exact set_same hi
  · rw [set_else e];exact hk
 intro j p hp hj e he hb;by_cases ej:j=i
 · subst ej;obtain rfl:p=o:=Option.some.inj (hp.symm.trans ho);exact keep _ (hall e he hb)
 · rw [set_else ej] at hj;exact keep _ (h j p hp hj e he hb)
def maskOf (acc:List Nat) (o:Oper):Nat:=o.after.toList.foldl (fun m e=>if Region.binds .any e then m ||| (2^e.on ||| acc.getD e.on 0) else m) 0
def masksOf:List Oper→List Nat→List Nat
  | [],acc=>acc
  | o::r,acc=>masksOf r (acc++[maskOf acc o])
theorem mask_bit (acc:List Nat):∀(es:List Edge) (m j:Nat),(es.foldl (fun m e=>if Region.binds .any e then m ||| (2^e.on ||| acc.getD e.on 0) else m) m).testBit j=true→
    m.testBit j=true∨∃e ∈ es,Region.binds .any e=true∧(j=e.on∨(acc.getD e.on 0).testBit j=true):=by
 intro es;induction es with
 | nil=>intro m j h;exact .inl h
 | cons e r ih=>
  intro m j h;rw [List.foldl_cons] at h;rcases ih _ j h with h1 | ⟨e',he',hb,h1⟩
  · by_cases hb:Region.binds .any e=true
    · rw [if_pos hb,Nat.testBit_or,Nat.testBit_or,Bool.or_eq_true,Bool.or_eq_true] at h1;rcases h1 with h1|h1|h1
      · exact .inl h1
      · refine .inr ⟨e,by simp,hb,.inl ?_⟩;rw [Nat.testBit_two_pow,decide_eq_true_eq] at h1;exact h1.symm
      · exact .inr ⟨e,by simp,hb,.inr h1⟩
    · rw [if_neg hb] at h1;exact .inl h1
  · exact .inr ⟨e',by simp [he'],hb,h1⟩
def GoodM (l:List Oper) (L:Array Bool) (i m:Nat):Prop:=∀o,l[i]? =some o→(∀e ∈ o.after,Region.binds .any e=true→L.getD e.on false=true)→∀j,m.testBit j=true→L.getD j false=true
theorem masks_sound {l:List Oper} {L:Array Bool} (hcl:ClosedL l.toArray L):∀(r:List Oper) (acc:List Nat) (k:Nat),acc.length=k→(∀j,r[j]? =l[k+j]?)→(∀i,i<k→GoodM l L i (acc.getD i 0))→∀i,GoodM l L i ((masksOf r acc).getD i 0):=by
 intro r;induction r with
 | nil=>
  intro acc k hk hr hg i;by_cases h:i<k
  · exact hg i h
  · intro o ho _ j hj;rw [masksOf,List.getD_eq_getElem?_getD,List.getElem?_eq_none xo] at hj;simp at hj
 | cons o r ih=>
  intro acc k hk hr hg;rw [masksOf];refine ih _ (k+1) (by simp [hk]) (fun j=>by have:=hr (j+1);rw [List.getElem?_cons_succ] at this;rw [this];congr 1;omega) ?_;intro i hi;by_cases h:i<k
  · rw [List.getD_eq_getElem?_getD,List.getElem?_append_left xo,←List.getD_eq_getElem?_getD];exact hg i h
  · have hik:i=k:=xo;subst hik;rw [List.getD_eq_getElem?_getD,List.getElem?_append_right xo];intro o' ho' hall j hj;have ho:l[i]? =some o:=by have:=hr 0;simpa using this.symm
    obtain rfl:o'=o:=Option.some.inj (ho'.symm.trans ho);simp only [hk,Nat.sub_self,List.getElem?_cons_zero,Option.getD_some] at hj;rcases mask_bit acc _ _ _ hj with h0 | ⟨e,he,hb,h1⟩
    · simp at h0
    · have hl:=hall e (by simpa using he) hb;rcases h1 with rfl|h1
      · exact hl
      · by_cases hek:e.on<i
        · have hlen:i<l.length:=(List.getElem?_eq_some_iff.1 ho).1;have hoe:l[e.on]? =some (l[e.on]'xo):=List.getElem?_eq_getElem xo;exact hg e.on hek _ hoe (fun e2 he2 hb2=>hcl e.on _ (by rw [List.getElem?_toArray];exact hoe) hl e2 he2 hb2) j h1
        · rw [List.getD_eq_getElem?_getD,List.getElem?_eq_none xo] at h1;simp at h1
def tailM (l:List Oper) (n:Nat):Bool:=
  (List.range l.length).all fun i=>decide (i<n)||(decide ((masksOf l []).getD i 0%2^i=2^i-1)&&match l[i]? with|some o=>o.after.all (fun e=>decide (e.on<i))|none=>true)
theorem wpAnyIn_inv (I:Array Bool→Act→World→Prop)
    (hac:∀(i:Nat) (o:Oper),ops[i]? =some o→∀e ∈ o.after,e.on<i)
    (step:∀(L:Array Bool) (a:Act) (w:World) (i:Nat) (o:Oper),L.size=ops.size→ops[i]? =some o→L.getD i false=false→
      (∀e ∈ o.after,Region.binds .any e=true→L.getD e.on false=true)→ClosedL ops L→I L a w→wpOpIn F dp P ops Q i (I (L.setIfInBounds i true)) a w)
    (done:∀(L:Array Bool) (a:Act) (w:World),L.size=ops.size→(∀i,i<ops.size→L.getD i false=true)→I L a w→Q .normal a w):
    ∀(f:Nat) (L:Array Bool) (a:Act) (w:World),L.size=ops.size→leftOf L ops.size≤f→ClosedL ops L→I L a w→wpAnyIn F dp P .any ops Q f L a w:=by
 have none_ready:∀(L:Array Bool),L.size=ops.size→Region.ready .any ops L=[]→∀i,i<ops.size→L.getD i false=true:=by
  intro L hs hr i;induction i using Nat.strongRecOn with
  | ind i ih=>
   intro hi;cases hc:L.getD i false with
   | true=>rfl
   | false=>
    have hm:i ∈ Region.ready .any ops L:=by
     refine mem_ready.2 ⟨?_,ops[i],Array.getElem?_eq_some_iff.2 ⟨hi,rfl⟩,fun e he _=> ?_⟩
     · have h1:i<L.size:=xo;simp [h1] at hc ⊢;exact hc
     · have:=hac i ops[i] (Array.getElem?_eq_some_iff.2 ⟨hi,rfl⟩) e he;exact ih e.on this xo
    rw [hr] at hm;cases hm
 intro f;induction f with
 | zero=>
  intro L a w hs hl hcl hI;have hall:=leftOf_zero (L:=L) ops.size xo;refine ⟨?_,done L a w hs hall hI⟩;rw [List.eq_nil_iff_forall_not_mem];intro i hi;obtain ⟨h1,o,ho,_⟩:=mem_ready.1 hi;have hlt:=(Array.getElem?_eq_some_iff.1 ho).1;have h2:=hall i hlt;have h3:i<L.size:=xo;simp [h3] at h1 h2;rw [h1] at h2;cases h2
 | succ f ih=>
  intro L a w hs hl hcl hI;refine ⟨fun hr=>done L a w hs (none_ready L hs hr) hI,fun i hi=> ?_⟩;obtain ⟨h1,o,ho,hall⟩:=mem_ready.1 hi;have hlt:=(Array.getElem?_eq_some_iff.1 ho).1;have h3:i<L.size:=xo;have h4:L.getD i false=false:=by simp [h3] at h1 ⊢;exact h1
  refine wpOpIn_mono (fun a' w' hI'=>ih _ a' w' (by simpa using hs) ?_ (hcl.set h3 ho hall) hI') (step L a w i o hs ho h4 hall hcl hI);have:=leftOf_set h3 h4 ops.size hlt;omega
def OpOkG (F:Fence) (dp:Nat) (P:Program) (ops:Array Oper) (Q:Exit→Act→World→Prop) (D:List Nat) (t0:Array Value) (n:Nat) (ds:List Deferred) (J:World→Prop) (Ext:World→World→Prop) (G:Nat→Value→World→Prop) (k:Nat) (o:Oper):Prop:=
  ∀ (u:Nat→Value) (a:Act) (w:World),(∀t,t<n→a.tmps.getD t undef=mixAt D u t0 t)→J w→
    (∀(j:Nat) (p:Oper),(o.after.any fun e=>Region.binds .any e&&e.on==j)=true→ops[j]? =some p→G j (valOf u p) w)→
    ∀K:Act→World→Prop,(∀v w',(o.dst=none→v=undef)→J w'→G k v w'→Ext w w'→K (a.put o.dst v) w')→if Region.wanted o (yielded ops a.tmps) then o.wpIn F dp P a w K Q else (∀f,o.about P w a.eval=some f→F.fn f)∧K (a.put o.dst undef) w
def OpsOkG (F:Fence) (dp:Nat) (P:Program) (ops:Array Oper) (Q:Exit→Act→World→Prop) (D:List Nat) (t0:Array Value) (n:Nat) (ds:List Deferred) (J:World→Prop) (Ext:World→World→Prop) (G:Nat→Value→World→Prop):Nat→List Oper→Prop
  | _,[]=>True
  | k,o::rest=>OpOkG F dp P ops Q D t0 n ds J Ext G k o∧OpsOkG F dp P ops Q D t0 n ds J Ext G (k+1) rest
theorem OpsOkG.at {D:List Nat} {t0:Array Value} {n:Nat} {ds:List Deferred} {J:World→Prop} {Ext:World→World→Prop} {G:Nat→Value→World→Prop}:∀ {l:List Oper} {k:Nat},OpsOkG F dp P ops Q D t0 n ds J Ext G k l→∀ {i:Nat} {o:Oper},l[i]? =some o→OpOkG F dp P ops Q D t0 n ds J Ext G (k+i) o
  | [],_,_,i,o,ho=>by simp at ho
  | x::rest,k,h,0,o,ho=>by simp at ho;subst ho;exact h.1
  | x::rest,k,h,i+1,o,ho=>by
   have:=OpsOkG.at h.2 (i:=i) (o:=o) (by simpa using ho);rwa [Nat.add_assoc,Nat.add_comm 1 i] at this
theorem wpOpIn_of_list {l:List Oper} {i:Nat} {o:Oper} {a:Act} {w:World} (ho:l[i]? =some o) (h:wpListIn F dp P l.toArray Q (l.drop i) a w):wpOpIn F dp P l.toArray Q i (wpListIn F dp P l.toArray Q (l.drop (i+1))) a w:=by
 have hi:=(List.getElem?_eq_some_iff.1 ho).1;have hd:l.drop i=o::l.drop (i+1):=by
  rw [List.drop_eq_getElem_cons hi];congr 1
  exact (List.getElem?_eq_some_iff.1 ho).2
 rw [hd] at h;unfold wpOpIn;simp only [List.getElem?_toArray,ho];exact h
def regionG (l:List Oper) (n:Nat):Bool:=
  (dstsOf l).Nodup&&(dstsOf l).all (fun d=>decide (d<n)) &&
  (List.range l.length).all fun i=>match l[i]? with|some o=>o.after.all fun e=>decide (e.on<i)|none=>true
theorem wpIn_region_facts {id:Nat} {l:List Oper} {t0:Array Value} {ds:List Deferred} {w0:World} {N:Nat} (n:Nat) (hm:P.follows .mixedOrders=true) (hn:t0.size=N) (hB:regionG (l.take n) N=true) (hT:tailM l n=true) (hle:n≤l.length)
    (J:World→Prop) (Ext:World→World→Prop) (G:Nat→Value→World→Prop) (hst:∀k x w w',Ext w w'→G k x w→G k x w') (hJ:J w0.drew)
    (hop:OpsOkG F dp P l.toArray Q (dstsOf (l.take n)) t0 N ds J Ext G 0 (l.take n))
    (hdone:∀(u:Nat→Value) (w:World),J w→(∀(k:Nat) (o:Oper),(l.take n)[k]? =some o→G k (valOf u o) w)→wpListIn F dp P l.toArray Q (l.drop n) {tmps:=mixFrame (dstsOf (l.take n)) u t0,defers:=ds} w):
    (Code.region id l.toArray true).wpIn F dp P Q {tmps:=t0,defers:=ds} w0:=by
 subst hn;simp only [regionG,Bool.and_eq_true,List.all_eq_true,decide_eq_true_eq] at hB;obtain ⟨⟨hnd,hlt⟩,hac⟩:=hB;simp only [tailM,List.all_eq_true,List.mem_range,Bool.or_eq_true,decide_eq_true_eq] at hT;have htk:∀ {k:Nat} {o:Oper},(l.take n)[k]? =some o↔k<n∧l[k]? =some o:=by
  intro k o;rw [List.getElem?_take];by_cases h:k<n
  · rw [if_pos h];exact ⟨fun h1=>⟨h,h1⟩,fun h1=>h1.2⟩
  · rw [if_neg h];exact ⟨fun h1=>(by cases h1),fun h1=>absurd h1.1 h⟩
 refine wpIn_region_any hm (wpAnyIn_inv (F:=F) (dp:=dp) (ops:=l.toArray)
   (fun L a w=>((∀i,n≤i→L.getD i false=false)∧∃u:Nat→Value,a= {tmps:=mixFrame (dstsOf (l.take n)) u t0,defers:=ds}∧J w∧∀(k:Nat) (o:Oper),(l.take n)[k]? =some o→L.getD k false=true→G k (valOf u o) w) ∨
     (∃m,n≤m∧m≤l.length∧(∀i,i<m→L.getD i false=true)∧(∀i,m≤i→L.getD i false=false)∧wpListIn F dp P l.toArray Q (l.drop m) a w))
   ?_ ?_ ?_ _ _ _ _ xsi (leftOf_le _ _) (fun j p hp hj=>by simp [Array.getD] at hj) (.inl ⟨fun i _=>by rw [List.size_toArray];simp [Array.getD],fun t=>t0.getD t undef,by rw [mixFrame_start],hJ,fun k o _ h=> ?_⟩))
 · intro i o ho e he;have hi:i<l.length:=(Array.getElem?_eq_some_iff.1 ho).1;rw [List.getElem?_toArray] at ho;by_cases hin:i<n
   · have h1:(l.take n)[i]? =some o:=htk.2 ⟨hin,ho⟩;have:=hac i (List.mem_range.2 (List.getElem?_eq_some_iff.1 h1).1);rw [h1] at this;have h2:=Array.all_eq_true_iff_forall_mem.1 this e he;simpa using h2
   · have h1:=hT i hi;rcases h1 with h1|h1
     · omega
     · rw [ho] at h1;simp only [Bool.and_eq_true] at h1;have h2:=Array.all_eq_true_iff_forall_mem.1 h1.2 e he;simpa using h2
 · rintro L a w i o hs ho hi hall hcl hI;rw [List.getElem?_toArray] at ho;have hil:i<l.length:=(List.getElem?_eq_some_iff.1 ho).1;have hilt:i<L.size:=by rw [hs];simpa using hil
   have ahead:n≤i→∀j,j<i→L.getD j false=true:=by
    intro hin j hj;have h1:=hT i hil;rcases h1 with h1|h1
    · omega
    · simp only [Bool.and_eq_true,decide_eq_true_eq] at h1;have hbit:((masksOf l []).getD i 0).testBit j=true:=by
       have h2:=congrArg (fun m=>Nat.testBit m j) h1.1;simp only [Nat.testBit_mod_two_pow,Nat.testBit_two_pow_sub_one,decide_eq_true hj,Bool.true_and] at h2;exact h2
      exact masks_sound hcl l [] 0 rfl (fun j=>by rw [Nat.zero_add]) (fun i hi=>by omega) i o ho hall j hbit
   have later:∀(m:Nat),n≤m→m=i→(∀j,m≤j→L.getD j false=false)→(∀j,j<m→L.getD j false=true)→wpListIn F dp P l.toArray Q (l.drop m) a w→
       wpOpIn F dp P l.toArray Q i (fun a' w'=>((∀k,n≤k→(L.setIfInBounds i true).getD k false=false)∧∃u:Nat→Value,a'= {tmps:=mixFrame (dstsOf (l.take n)) u t0,defers:=ds}∧J w'∧∀(k:Nat) (o:Oper),(l.take n)[k]? =some o→(L.setIfInBounds i true).getD k false=true→G k (valOf u o) w') ∨
         (∃m,n≤m∧m≤l.length∧(∀k,k<m→(L.setIfInBounds i true).getD k false=true)∧(∀k,m≤k→(L.setIfInBounds i true).getD k false=false)∧wpListIn F dp P l.toArray Q (l.drop m) a' w')) a w:=by
    rintro m hnm rfl hno hyes hw;refine wpOpIn_mono (fun a' w' h=> .inr ⟨m+1,by omega,by omega,fun k hk=> ?_,fun k hk=> ?_,h⟩) (wpOpIn_of_list ho hw)
    · by_cases e:k=m
      · subst e;exact set_same hilt
      · rw [set_else e];exact hyes k xo
    · rw [set_else xo];exact hno k xo
   rcases hI with ⟨hno,u,rfl,hJw,hG⟩ | ⟨m,hnm,hml,hyes,hno,hw⟩
   · by_cases hin:i<n
     · have htki:(l.take n)[i]? =some o:=htk.2 ⟨hin,ho⟩;have hok:=hop.at htki;rw [Nat.zero_add] at hok;unfold wpOpIn;simp only [List.getElem?_toArray,ho];refine hok u {tmps:=mixFrame (dstsOf (l.take n)) u t0,defers:=ds} w (fun t ht=>mixFrame_get ht) hJw (fun j p hj hp=> ?_) _ (fun v w' hv hJ' hG' hE=> ?_)
       · rw [List.getElem?_toArray] at hp;obtain ⟨e,he,hbe⟩:=Array.any_eq_true.1 hj;simp only [Bool.and_eq_true,beq_iff_eq] at hbe;have hl:=hall _ (Array.getElem_mem he) hbe.1;rw [hbe.2] at hl;have hjn:j<n:=by
          by_cases h:j<n
          · exact h
          · rw [hno j xo] at hl;cases hl
         exact hG j p (htk.2 ⟨hjn,hp⟩) hl
       · refine Or.inl ⟨fun k hk=>by rw [set_else xo];exact hno k hk,?_⟩;cases hd:o.dst with
         | none=>
          refine ⟨u,rfl,hJ',fun k p hp hk=> ?_⟩;by_cases e:k=i
          · subst e;obtain rfl:p=o:=Option.some.inj (hp.symm.trans htki);have:valOf u p=undef:=by simp [valOf,hd]
            rw [this,←hv hd];exact hG'
          · rw [set_else e] at hk;exact hst _ _ _ _ hE (hG k p hp hk)
         | some d=>
          have hdm:(dstsOf (l.take n)).contains d=true:=by
           simp only [List.contains_iff_mem];exact List.mem_filterMap.2 ⟨o,List.mem_of_getElem? htki,hd⟩
          refine ⟨fun t=>if t=d then v else u t,by simp only [Act.put,mixFrame_put hdm],hJ',fun k p hp hk=> ?_⟩;by_cases e:k=i
          · subst e;obtain rfl:p=o:=Option.some.inj (hp.symm.trans htki);simpa [valOf,hd] using hG'
          · rw [set_else e] at hk;have hne:=nodup_slot hnd htki hp (fun h=>e h.symm) hd;have:valOf (fun t=>if t=d then v else u t) p=valOf u p:=by
             unfold valOf;cases hpd:p.dst with
             | none=>rfl
             | some d'=>exact if_neg (fun h=>hne (by rw [hpd,h]))
            rw [this];exact hst _ _ _ _ hE (hG k p hp hk)
     · have hin':n=i:=by
         by_cases e:n=i
         · exact e
         · have:=ahead xo n xo;rw [hno n (Nat.le_refl _)] at this;cases this
       refine later n (Nat.le_refl _) hin' hno (fun j hj=>ahead xo j xo) (hdone u w hJw fun k p hp=>hG k p hp (ahead xo k ?_));have:=(htk.1 hp).1;omega
   · have him:m≤i:=by
       by_cases h:m≤i
       · exact h
       · have:=hyes i xo;rw [hi] at this;cases this
     have hmi:m=i:=by
      by_cases e:m=i
      · exact e
      · have:=ahead xo m xo;rw [hno m (Nat.le_refl _)] at this;cases this
     exact later m hnm hmi hno hyes hw
 · rintro L a w hs hall hI;rw [List.size_toArray] at hall;rcases hI with ⟨hno,u,rfl,hJw,hG⟩ | ⟨m,hnm,hml,hyes,hno,hw⟩
   · have hnl:n=l.length:=by
       by_cases e:n=l.length
       · exact e
       · have:=hall n xo;rw [hno n (Nat.le_refl _)] at this;cases this
     have hq:=hdone u w hJw fun k p hp=>hG k p hp (hall k (by have:=(htk.1 hp).1;omega))
     have hd:l.drop n=[]:=by rw [hnl];exact List.drop_length
     rw [hd] at hq;exact hq
   · have hml':m=l.length:=by
       by_cases e:m=l.length
       · exact e
       · have:=hall m xo;rw [hno m (Nat.le_refl _)] at this;cases this
     rw [hml',List.drop_length] at hw;exact hw
 · rw [List.size_toArray] at h;simp [Array.getD] at h
end
theorem wanted_yes {ops:Array Oper} {tmps:Array Value} {o:Oper} {j t:Nat} {b:Bool} (hg:o.guard=some (j,b)) (hd:(ops[j]?).bind (·.dst)=some t) (h:tmps.getD t undef= .bool b):Region.wanted o (yielded ops tmps)=true:=by
 have h2:tmps[t]? =some (.bool b):=by
  cases hx:tmps[t]? with
  | none=>rw [Array.getD_eq_getD_getElem?,hx] at h;cases h
  | some v=>rw [Array.getD_eq_getD_getElem?,hx] at h;simp at h;rw [h]
 simp [Region.wanted,hg,yielded,hd,h2]
theorem wanted_no {ops:Array Oper} {tmps:Array Value} {o:Oper} {j t:Nat} {b:Bool} (hg:o.guard=some (j,b)) (hd:(ops[j]?).bind (·.dst)=some t) (h:tmps.getD t undef= .bool (!b)):Region.wanted o (yielded ops tmps)=false:=by
 have h2:tmps[t]? =some (.bool (!b)):=by
  cases hx:tmps[t]? with
  | none=>rw [Array.getD_eq_getD_getElem?,hx] at h;cases h
  | some v=>rw [Array.getD_eq_getD_getElem?,hx] at h;simp at h;rw [h]
 simp [Region.wanted,hg,yielded,hd,h2]
theorem wanted_free {ops:Array Oper} {tmps:Array Value} {o:Oper} (hg:o.guard=none):Region.wanted o (yielded ops tmps)=true:=by simp [Region.wanted,hg]
end
section
open Go.RowKit Go.Shelf
attribute [local go_sem] Oper.semAt_some
def AnsB (w:World) (v:Value) (e:Ending) (w':World):Prop:=e= .returned v∧Below w.heap.size w w'
structure CntI (ws:List Int) (a b bo B:Nat) (w:World) (k:Nat) (W:World):Prop where
 box:W.cell? ⟨bo,0,none⟩=some (.int .i64 (cntP ws a b k))
 fz:W.frozen? ⟨bo,0,none⟩=false
 bel:Below B w W
theorem CntI.calm {ws:List Int} {a b bo B M:Nat} {w:World} {k:Nat} {W W':World} (h:CntI ws a b bo B w k W) (hc:Calm M W W') (hB:B≤M):CntI ws a b bo B w k W':=
  ⟨hc.cell h.box,hc.frozen h.box h.fz,hc.below hB h.bel⟩
theorem Count_ok (wa:Option Addr) (wc:Nat) (ws:List Int) (hu:U64s ws) (n a b:Nat) (hn:n≤65536) (hl:ws.length≤1000000000000) (hmay:wMayB ws n=true) (hab:a≤b) (hbn:b≤n) (w:World) (hw:IsRow .u64 w wa ws):
    Calls Tryz.prog 72 #[.slice wa ws.length wc,.int .i64 n,.int .i64 a,.int .i64 b] w (AnsB w (.tuple #[.int .i64 (cntW ws a b),.int .i64 0])):=by
 have AK:=hid (fun w hw=>asked_ok wa wc ws hu n hn hl hmay w hw);have hlen:n≤64*ws.length:=by
  simp only [wMayB,Bool.and_eq_true,decide_eq_true_eq] at hmay;omega
 have IT:=hid (fun S b1 b2 b3 s1 s2 s3 sw w hw c1 c2 c3=>parts1_iter wa wc ws hu a b hab xo xo hl S b1 b2 b3 s1 s2 s3 sw w hw c1 c2 c3);have HW:=hid hw;have HC:=hid (cntP_all hu hab);have HLT:=hid (fun x (h:wa=some x) (h0:0<ws.length)=>(show x.block<w.heap.size from by
  obtain ⟨bb,off,x',hx,-,-,hlt⟩:=hw.get h0;rw [hx] at h;cases h;exact hlt))
 obtain ⟨m,hm⟩:∃m,(b+63)/64-a/64=m:=⟨_,rfl⟩
 have HP:=hid (fun k (hk:k<m)=>partsL_get ws (a:=a) (b:=b) (k:=k) xo);have HPL:=hid ((partsL_length ws a b).trans hm);have HV:=hid (fun k (hk:k<m)=>cutV_bd hu (a:=a) (b:=b) (k:=a/64+k) xo);have HLE:=hid (cntP_le (ws:=ws) a b);have HS:=hid (cntP_succ ws a b);have hmb:m≤1024:=xo;rw [hm] at HC;obtain ⟨M,hM⟩:∃M,ws.length=M:=⟨_,rfl⟩
 have HM:=hid hM;rw [hM] at hlen hl AK IT HLT ⊢;clear hw hmay hM hu hm;refine calls_of_wp_m Tryz.func72 rfl ?_;simp only [Tryz.ntmps72,List.size_toArray,List.length_cons,List.length_nil,Nat.reduceAdd,Nat.reduceSub,Array.replicate_succ,Array.replicate_zero,List.push_toArray,List.append_toArray,List.nil_append,List.cons_append];go_wp2_with fail
 refine (AK.out _ (HW.out.below (br.alloc (Nat.le_refl _) _))).mono ?_;rintro e w' ⟨rfl,rfl⟩;go_wp2_with fail
 refine (parts_ok wa M wc a b _).mono ?_;rintro e w2 ⟨rfl,rfl⟩;go_wp2
 refine wp_range (xs:=partsL ws a b) (Kp:=KpS (fun k=>k≠w.heap.size∧k<w.heap.size+4)) rfl (enters_of Tryz.func149 xk rfl)
   (IT.out (fun k=>k≠w.heap.size∧k<w.heap.size+4) (w.heap.size+1) (w.heap.size+1+1) (w.heap.size+1+2) xo xo xo ?sw _ ?hw ?c1 ?c2 ?c3) br (fun _ _ _=>rfl) (fun h k=>fun i hi=>(k i hi).trans (h i hi)) ?kb ?ps
   (CntI ws a b w.heap.size w.heap.size w) (fun _ _=>False) ?hI (fun _ _ _ h _=>h) ?h0 ?round ?done (fun _ _ _ _ h _=>h.elim)
 case sw=>intro x hx h0;have:=HLT.out x hx h0;omega
 case hw=>exact HW.out.below xbel
 case c1=>(exact xcn)
 case c2=>(exact xcn)
 case c3=>(exact xcn)
 case kb=>
  intro W l o o' hl _ _ k hk;simp at hl;exact World.putObj_heap_other xo
 case ps=>
  intro x hx;simp only [partsL,List.mem_map] at hx;obtain ⟨k,_,rfl⟩:=hx;rfl
 case hI=>
  intro k W W' h hc;exact h.calm hc (by simp;omega)
 case h0=>
  exact ⟨by rw [cntP_zero];(exact xcn),by (exact xcn),by (exact xbel)⟩
 case round=>
  intro l k W hl hk hi;rw [HPL.out] at hk;rw [HP.out k hk];have hv:=HV.out k hk;have h1:=HLE.out k;have h2:=popI_le (cutV ws a b (a/64+k));have h3:=HS.out k;have O1:=hid (fun W=>Ones_ok (cutV ws a b (a/64+k)) hv.1 hv.2 W);generalize cutV ws a b (a/64+k)=x at *;generalize popI x=px at *;gi_wp2
  refine ⟨rfl,?_⟩;intro W2 hi2;have hcb:=hi2.box;have hfz:=hi2.fz;generalize cntP ws a b k=s at *;have H3:=hid h3;clear h3;gi_wp2
  refine wpIn_region_facts 4 xk (N:=42) rfl xk xk xdd (fun w'=>w'=W2.drew) (Ext 29) (factAt [.is (.int .i64 s),.is (.int .u64 x),.is (.int .i64 px),.is (.int .i64 (s+px))]) (factAt_stays _) rfl ?steps ?fin
  case steps=>
   refine ⟨?o0,?o1,?o2,?o3,trivial⟩
   case o0=>
    intro u a w' ev hJ hd K hK;have e1:tg a 8= .pointer (some ⟨w.heap.size,0,none⟩):=ev 8 xdd;have HK:=hid hK;subst hJ;clear hK ev hd;rw [if_pos (wanted_free rfl)];go_simp;exact HK.out _ _ xzc rfl rfl (Ext.refl _ _)
   case o1=>
    intro u a w' ev hJ hd K hK;have e1:tg a 12= .int .u64 x:=ev 12 xdd;have HK:=hid hK;subst hJ;clear hK ev hd;rw [if_pos (wanted_free rfl)];go_simp;exact HK.out _ _ xzc rfl rfl (Ext.refl _ _)
   case o2=>
    intro u a w' ev hJ hd K hK;have e1:tg a 38= .int .u64 x:=(ev 38 xdd).trans (hd 1 _ xk rfl);have HK:=hid hK;subst hJ;clear hK ev hd;rw [if_pos (wanted_free rfl)];go_simp;refine ⟨trivial,rfl,(callsIn_wide.2 (O1.out _)).mono ?_⟩;rintro e w'' ⟨rfl,rfl⟩;exact HK.out _ _ xzc rfl rfl (Ext.refl _ _)
   case o3=>
    intro u a w' ev hJ hd K hK;have e1:tg a 37= .int .i64 s:=(ev 37 xdd).trans (hd 0 _ xk rfl);have e2:tg a 39= .int .i64 px:=(ev 39 xdd).trans (hd 2 _ xk rfl);have HK:=hid hK;have hwr:IntKind.i64.wrap ((s:Int)+(px:Int))=(s:Int)+(px:Int):=IntWalk.i64_in _ xo;subst hJ;clear hK ev hd;rw [if_pos (wanted_free rfl)];go_simp;exact HK.out _ _ xzc rfl rfl (Ext.refl _ _)
  case fin=>
   intro u w2 hJ hG;have h3:u 40= .int .i64 (s+px):=hG 3 _ rfl;subst hJ;clear hG;simp only [mixFrame,mixL,dstsOf,List.take_succ_cons,List.take_zero,List.filterMap_cons,List.filterMap_nil,List.contains_cons,List.contains_nil,Nat.reduceBEq,Bool.or_false,Bool.false_or,Bool.or_true,Bool.true_or,if_true,if_false,Bool.false_eq_true,Nat.reduceAdd,Nat.zero_add,List.drop_succ_cons,List.drop_zero,h3];gi_wp2
   have e:((cntP ws a b (k+1):Nat):Int)=(s:Int)+(px:Int):=by rw [H3.out];push_cast;rfl
   refine ⟨(KeepsOthers.setCell W2 ⟨w.heap.size,0,none⟩ (.int .i64 ((s:Int)+px))).trans (keeps_drewN _ 1),fun i hi=>Below.heap_setCell W2 ⟨w.heap.size,0,none⟩ _ _ hi.1,⟨?_,?_,?_⟩⟩
   · rw [e];exact World.cell?_setCell_same _ _ _ hcb
   · rw [World.frozen?_drew,World.frozen?_setCell];exact hfz
   · exact (hi2.bel.setCell (Nat.le_refl _) _).drew
 case done=>
  intro D W hD hi hK;have hcb:=hi.box;have hfz:=hi.fz;rw [HPL.out,HC.out] at hcb;generalize cntW ws a b=s at *;go_wp2
  simp at hD;have hK2:(W.setCell ⟨w.heap.size,0,none⟩ (.int .i64 s)).heap[D]? =some (.deferred (some [])):=(Below.heap_setCell _ _ _ _ (by show D≠w.heap.size;omega)).trans hK;have hcalm:Calm (w.heap.size+1) (W.setCell ⟨w.heap.size,0,none⟩ (.int .i64 s)) ((W.setCell ⟨w.heap.size,0,none⟩ (.int .i64 s)).putObj D (.deferred none)):=Calm.putObj _ xo hK2 rfl;exact postM_one hK2 (results_ct rfl rfl (run_loadVar_one Tryz.underlying3 rfl (hcalm.cell (World.cell?_setCell_same _ _ _ hcb)))) ⟨rfl,hcalm.below xo (hi.bel.setCell (Nat.le_refl _) _)⟩
end
section
open Go.RowKit Go.Shelf
attribute [local go_sem] Oper.semAt_some
theorem cntW_succ {ws:List Int} {a b:Nat} (h:a≤b):cntW ws a (b+1)=cntW ws a b+if bitW ws b=true then 1 else 0:=by
 rw [←plsW_length,←plsW_length,plsW_succ h,List.length_append];split<;>rfl
theorem cntW_mono {ws:List Int} {a b c:Nat} (h:b≤c):cntW ws a b≤cntW ws a c:=by
 induction c with
 | zero=>rw [show b=0 by omega];exact Nat.le_refl _
 | succ c ih=>
  by_cases e:b=c+1
  · rw [e];exact Nat.le_refl _
  · by_cases h2:a≤c
    · rw [cntW_succ h2];have:=ih xo;omega
    · rw [cntW_none xo];omega
theorem prs_length (c:SlC) (a b:Nat):(prs c a b).length=cntW c.ws a b:=by rw [prs,List.length_map,plsW_length]
theorem prs_succ {c:SlC} {a b:Nat} (h:a≤b):prs c a (b+1)=prs c a b++if bitW c.ws b=true then [(c.ks.getD b 0,c.vs.getD b 0)] else []:=by
 unfold prs;rw [plsW_succ h,List.map_append];split<;>rfl
theorem prs_split {c:SlC} {a b d:Nat} (h1:a≤b) (h2:b≤d):∃r,prs c a d=prs c a b++r:=by
 induction d with
 | zero=>exact ⟨[],by rw [show b=0 by omega,List.append_nil]⟩
 | succ d ih=>
  by_cases e:b=d+1
  · exact ⟨[],by rw [e,List.append_nil]⟩
  · obtain ⟨r,hr⟩:=ih xo;rw [prs_succ xo,hr,List.append_assoc];exact ⟨_,rfl⟩
def pairsL (l:List (Int×Int)):List (Array Value):=l.map fun p=> #[.agg #[.int .i64 p.1,.int .i64 p.2]]
theorem pairsL_length (l:List (Int×Int)):(pairsL l).length=l.length:=by simp [pairsL]
theorem pairsL_at {c:SlC} {a b d:Nat} (h1:a≤b) (h2:b+1≤d) (hb:bitW c.ws b=true):(pairsL (prs c a d)).getD (cntW c.ws a b) #[]= #[.agg #[.int .i64 (c.ks.getD b 0),.int .i64 (c.vs.getD b 0)]]:=by
 obtain ⟨r,hr⟩:=prs_split (c:=c) (show a≤b+1 by omega) h2;rw [hr,prs_succ h1,if_pos hb,pairsL,List.map_append,List.map_append,List.getD_eq_getElem?_getD,List.append_assoc,List.getElem?_append_right (by rw [List.length_map,prs_length];exact Nat.le_refl _)];rw [List.length_map,prs_length,Nat.sub_self];rfl
theorem cell_at_drew {W W':World} (h:∃q,W'=W.drewN q) {p:Addr} {v:Value} (hc:W.cell? p=some v):W'.cell? p=some v:=by
 obtain ⟨q,rfl⟩:=h;exact hc
theorem is_ok (wa:Option Addr) (lw wc:Nat) (ws:List Int) (hu:U64s ws) (i:Nat) (hlw:ws.length=lw) (hi:i/64<lw) (hi2:i≤1000000000000) (b:Nat) (w:World) (hw:IsRow .u64 w wa ws) (c1:w.cell? ⟨b,1,none⟩=some (.slice wa lw wc)):
    Calls Tryz.prog 145 #[.pointer (some ⟨b,0,none⟩),.int .i64 i] w fun e w'=>e= .returned (.bool (bitW ws i))∧w=w':=by
 obtain ⟨bb,off,x,rfl,hx,hc,-⟩:=hw.get (i:=i/64) xo;have hg:=hu.get (i/64);rw [hx.out] at hg;have hb:bitW ws i=bitI x (i%64):=by rw [bitW,hx.out]
 have hand:=bitI_and hg.1 hg.2 (i%64);obtain ⟨q,hq⟩:∃q,i/64=q:=⟨_,rfl⟩
 obtain ⟨r,hr⟩:∃r,i%64=r:=⟨_,rfl⟩
 have hqI:(i:Int)/64=(q:Int):=xo;have hrI:(i:Int)%64=(r:Int):=xo;have hr64:r<64:=xo;rw [hr] at hand hb;rw [hq] at hc hi;rw [hb];generalize bitI x r=bt at *;clear hx hb hw hu hq hr hlw;cases bt with
 | true=>
  rw [if_pos rfl] at hand;go_enter Tryz.func145,Tryz.ntmps145
  go_wp2
  go_ret
  exact ⟨rfl,rfl⟩
 | false=>
  rw [if_neg xdd] at hand;go_enter Tryz.func145,Tryz.ntmps145
  go_wp2
  go_ret
  exact ⟨rfl,rfl⟩
structure PrBox (W:World) (b1 b2 b3:Nat) (c:SlC) (a:SlA) (lo hi:Nat):Prop where
 lo:W.cell? ⟨b1,0,none⟩=some (.int .i64 lo)
 hi:W.cell? ⟨b2,0,none⟩=some (.int .i64 hi)
 c0:W.cell? ⟨b3,0,none⟩=some (.int .i64 c.seg)
 c1:W.cell? ⟨b3,1,none⟩=some (.slice a.wa c.ws.length a.wc)
 c2:W.cell? ⟨b3,2,none⟩=some (.slice a.ka c.ks.length a.kc)
 c3:W.cell? ⟨b3,3,none⟩=some (.slice a.va c.vs.length a.vc)
 c4:W.cell? ⟨b3,4,none⟩=some (.slice a.ca c.cs.length a.cc)
 c5:W.cell? ⟨b3,5,none⟩=some (.int .u64 c.laid)
theorem PrBox.below {W W':World} {b1 b2 b3:Nat} {c:SlC} {a:SlA} {lo hi:Nat} (h:PrBox W b1 b2 b3 c a lo hi) (hb:Below W.heap.size W W'):PrBox W' b1 b2 b3 c a lo hi:=
  have t {p v} (hc:W.cell? p=some v):W'.cell? p=some v:=(hb.cell (World.block_lt_of_cell? _ _ hc)).trans hc
  ⟨t h.lo,t h.hi,t h.c0,t h.c1,t h.c2,t h.c3,t h.c4,t h.c5⟩
theorem PrBox.kept {S:Nat→Prop} {W W':World} {b1 b2 b3:Nat} {c:SlC} {a:SlA} {lo hi:Nat} (h:PrBox W b1 b2 b3 c a lo hi) (hk:KpS S W W') (s1:S b1) (s2:S b2) (s3:S b3):PrBox W' b1 b2 b3 c a lo hi:=
  ⟨hk.cell (a:=⟨b1,0,none⟩) s1 h.lo,hk.cell (a:=⟨b2,0,none⟩) s2 h.hi,hk.cell (a:=⟨b3,0,none⟩) s3 h.c0,hk.cell (a:=⟨b3,1,none⟩) s3 h.c1,hk.cell (a:=⟨b3,2,none⟩) s3 h.c2,hk.cell (a:=⟨b3,3,none⟩) s3 h.c3,hk.cell (a:=⟨b3,4,none⟩) s3 h.c4,hk.cell (a:=⟨b3,5,none⟩) s3 h.c5⟩
structure SlS (S:Nat→Prop) (c:SlC) (a:SlA):Prop where
 w:∀x,a.wa=some x→0<c.ws.length→S x.block
 k:∀x,a.ka=some x→0<c.ks.length→S x.block
 v:∀x,a.va=some x→0<c.vs.length→S x.block
theorem pairs1_iter (c:SlC) (a:SlA) (hu:U64s c.ws) (lo hi:Nat) (hlh:lo≤hi) (hkn:hi≤c.ks.length) (hvn:c.vs.length=c.ks.length) (hwn:c.ks.length≤64*c.ws.length) (hn:c.ks.length≤65536) (S:Nat→Prop) (b1 b2 b3:Nat) (s1:S b1) (s2:S b2) (s3:S b3) (hS:SlS S c a)
    (w:World) (hw:IsRow .u64 w a.wa c.ws) (hk:IsRow .i64 w a.ka c.ks) (hv:IsRow .i64 w a.va c.vs) (hbx:PrBox w b1 b2 b3 c a lo hi):
    Iter Tryz.prog 144 #[.pointer (some ⟨b1,0,none⟩),.pointer (some ⟨b2,0,none⟩),.pointer (some ⟨b3,0,none⟩)] (pairsL (prs c lo hi)) (KpS S) w:=by
 intro l J Jx W hW hJ hJx hY h0;have HY:=hid hY;have HJ:=hid hJ;have HBX:=hid (hbx.below hW);have HW:=hid (hw.below hW);have HK:=hid (hk.below hW);have HV:=hid (hv.below hW);have HS:=hid hS;have HPL:=hid ((pairsL_length _).trans (prs_length c lo hi));have HPA:=hid (fun b (h1:lo≤b) (h2:b+1≤hi) hb=>pairsL_at (c:=c) h1 h2 hb);have HCS:=hid (fun b (h1:lo≤b)=>cntW_succ (ws:=c.ws) h1);have HCM:=hid (fun b (h1:b≤hi)=>cntW_mono (ws:=c.ws) (a:=lo) h1);have HC0:=hid (cntW_none (ws:=c.ws) (Nat.le_refl lo));clear hY hJ hJx hw hk hv hS hbx;refine callsIn_of_wp Tryz.func144 rfl trivial ?_ rfl;simp only [Tryz.ntmps144,List.size_toArray,List.length_cons,List.length_nil,Nat.reduceAdd,Nat.reduceSub,Array.replicate_succ,Array.replicate_zero,List.push_toArray,List.append_toArray,List.nil_append,List.cons_append];have q1:=HBX.out.lo;gi_wp2
 gi_loopg [5] (hi-lo) (fun g iv wr=>∃i:Nat,i+g=hi∧lo≤i∧iv= .int .i64 i∧Hid (J (cntW c.ws lo i) wr)∧Hid (PrBox wr b1 b2 b3 c a lo hi)∧Hid (IsRow .u64 wr a.wa c.ws)∧Hid (IsRow .i64 wr a.ka c.ks)∧Hid (IsRow .i64 wr a.va c.vs))
 case atStart=>exact ⟨lo,by omega,Nat.le_refl _,rfl,hid (by rw [HC0.out];exact h0),HBX,HW,HK,HV⟩
 case round=>
  obtain ⟨i,hi',hli,rfl,HJ0,HB,HRW,HRK,HRV⟩:=hrel;by_cases hlt:i<hi
  · obtain ⟨bw,ow,x,hae,-,cw,zw⟩:=HRW.out.get (i:=i/64) xo;obtain ⟨bk,ok,kx,hke,hkx,ck,zk⟩:=HRK.out.get (i:=i) xo;obtain ⟨bv,ov,vx,hve,hvx,cv,zv⟩:=HRV.out.get (i:=i) xo;have hpa:=HPA.out i hli xo;rw [hkx.out,hvx.out] at hpa;have hcs:=HCS.out i hli;obtain ⟨k,hk⟩:∃k,cntW c.ws lo i=k:=⟨_,rfl⟩
    obtain ⟨m,hm⟩:∃m,cntW c.ws lo hi=m:=⟨_,rfl⟩
    have hkm:bitW c.ws i=true→k<m:=by
     intro hb;have h1:=HCM.out (i+1) xo;rw [hcs,if_pos hb] at h1;omega
    rw [hk] at HJ0 hpa hcs;have HPL2:=hid (HPL.out.trans hm);have hiw:i/64<c.ws.length:=xo;obtain ⟨bt,hbt⟩:∃bt,bitW c.ws i=bt:=⟨_,rfl⟩
    have hisok:=fun W' (hw:IsRow .u64 W' a.wa c.ws) b (h1:W'.cell? ⟨b,1,none⟩=some (.slice a.wa c.ws.length a.wc))=>is_ok a.wa c.ws.length a.wc c.ws hu i rfl hiw xo b W' hw h1
    rw [hbt] at hisok hpa hcs hkm;have HIO:=hid hisok;have HB0:=HB.out;obtain ⟨q1,q2,c0,c1,c2,c3,c4,c5⟩:=HB0;have HNW:=hid hiw;obtain ⟨seg,ws,ks,vs,cs,laid⟩:=c;obtain ⟨wa,ka,va,ca,wc,kc,vc,cc⟩:=a;dsimp only at *;subst hae hke hve;obtain ⟨n,hnn⟩:∃n,ks.length=n:=⟨_,rfl⟩
    have c3':=c3;rw [hvn,hnn] at c3';have c2':=c2;rw [hnn] at c2';have hin:i<n:=xo;have HI2:=hid hi';have HKM:=hid hkm;have HCS2:=hid hcs;have HRW2:=hid (HRW.out.alloc (.cells #[.int .i64 seg,.slice (some ⟨bw,ow,none⟩) ws.length wc,.slice (some ⟨bk,ok,none⟩) ks.length kc,.slice (some ⟨bv,ov,none⟩) vs.length vc,.slice ca cs.length cc,.int .u64 laid] 109));clear hk hm hcs hkm;gi_wp2
    have HBel:Below wr.heap.size wr (wr.alloc (.cells #[.int .i64 seg,.slice (some ⟨bw,ow,none⟩) ws.length wc,.slice (some ⟨bk,ok,none⟩) n kc,.slice (some ⟨bv,ov,none⟩) n vc,.slice ca cs.length cc,.int .u64 laid] 109)):=br.alloc (Nat.le_refl _) _;have c1q:(wr.alloc (.cells #[.int .i64 seg,.slice (some ⟨bw,ow,none⟩) ws.length wc,.slice (some ⟨bk,ok,none⟩) n kc,.slice (some ⟨bv,ov,none⟩) n vc,.slice ca cs.length cc,.int .u64 laid] 109)).cell? ⟨wr.heap.size,1,none⟩=some (.slice (some ⟨bw,ow,none⟩) ws.length wc):=xcw;generalize (wr.alloc (.cells #[.int .i64 seg,.slice (some ⟨bw,ow,none⟩) ws.length wc,.slice (some ⟨bk,ok,none⟩) n kc,.slice (some ⟨bv,ov,none⟩) n vc,.slice ca cs.length cc,.int .u64 laid] 109))=wq at *;replace c2:=(HBel.cell (World.block_lt_of_cell? _ _ c2')).trans c2';replace c3:=(HBel.cell (World.block_lt_of_cell? _ _ c3')).trans c3';replace ck:=(HBel.cell (World.block_lt_of_cell? _ _ ck)).trans ck;replace cv:=(HBel.cell (World.block_lt_of_cell? _ _ cv)).trans cv;have HBL:=hid HBel;have HIS:=hid (fun w' (hJ:∃q,w'=wq.drewN q)=>HIO.out w' (by obtain ⟨q,rfl⟩:=hJ;exact (HRW.out.below HBL.out).drewN q) wr.heap.size (cell_at_drew hJ c1q));clear HBel c0 c5 c4 c1 q1 q2 c2' c3' hisok cw HRW2;cases bt with
    | true=>
     refine wpIn_region_facts 15 xk (N:=33) rfl xk xk xdd (fun w'=>∃q,w'=wq.drewN q) (Ext 29) (factAt [.is (.int .i64 i),.is (.bool true),.is (.bool true),.is (.func (.yield l) #[] #[]),.is (.pointer (some ⟨b3,2,none⟩)),.is (.slice (some ⟨bk,ok,none⟩) n kc),.is (.int .i64 i),.is (.pointer (some ⟨bk,ok+i,none⟩)),.is (.int .i64 kx),.is (.pointer (some ⟨b3,3,none⟩)),.is (.slice (some ⟨bv,ov,none⟩) n vc),.is (.int .i64 i),.is (.pointer (some ⟨bv,ov+i,none⟩)),.is (.int .i64 vx),.is (.agg #[.int .i64 kx,.int .i64 vx])]) (factAt_stays _) ⟨1,rfl⟩ ?steps ?fin
     case steps=>
      refine ⟨?o0,?o1,?o2,?o3,?o4,?o5,?o6,?o7,?o8,?o9,?o10,?o11,?o12,?o13,?o14,trivial⟩
      case o0=>
       intro u a w' ev hJ hd K hK;rw [if_pos (wanted_free rfl)];have e5:tg a 5= .int .i64 i:=ev 5 xdd;have HK:=hid hK;clear hK ev hd;go_simp;exact HK.out _ _ xzc hJ rfl (Ext.refl _ _)
      case o1=>
       intro u a w' ev hJ hd K hK;rw [if_pos (wanted_free rfl)];have e6:tg a 6= .pointer (some ⟨wr.heap.size,0,none⟩):=ev 6 xdd;have e15:tg a 15= .int .i64 i:=(ev 15 xdd).trans (hd 0 _ xk rfl);have HK:=hid hK;have HI:=hid (HIS.out w' hJ);have HJ:=hid hJ;clear hK ev hd hJ;go_simp;refine ⟨trivial,rfl,(callsIn_wide.2 HI.out).mono ?_⟩;rintro e w'' ⟨rfl,rfl⟩;exact HK.out _ _ xzc HJ.out rfl (Ext.refl _ _)
      case o2=>
       intro u a w' ev hJ hd K hK;rw [if_pos (wanted_free rfl)];have e16:tg a 16= .bool true:=(ev 16 xdd).trans (hd 1 _ xk rfl);have HK:=hid hK;clear hK ev hd;go_simp;exact HK.out _ _ xzc hJ rfl (Ext.refl _ _)
      case o3=>
       intro u a w' ev hJ hd K hK;have eg:a.tmps.getD 17 undef= .bool true:=(ev 17 xdd).trans (hd 2 _ xk rfl);rw [if_pos (wanted_yes (j:=2) (t:=17) (b:=true) rfl xk eg)];have e0:tg a 0= .func (.yield l) #[] #[]:=ev 0 xdd;have HK:=hid hK;clear hK ev hd eg;go_simp;exact HK.out _ _ xzc hJ rfl (Ext.refl _ _)
      case o4=>
       intro u a w' ev hJ hd K hK;have eg:a.tmps.getD 17 undef= .bool true:=(ev 17 xdd).trans (hd 2 _ xk rfl);rw [if_pos (wanted_yes (j:=2) (t:=17) (b:=true) rfl xk eg)];have e3:tg a 3= .pointer (some ⟨b3,0,none⟩):=ev 3 xdd;have HK:=hid hK;clear hK ev hd eg;go_simp;exact HK.out _ _ xzc hJ rfl (Ext.refl _ _)
      case o5=>
       intro u a w' ev hJ hd K hK;have eg:a.tmps.getD 17 undef= .bool true:=(ev 17 xdd).trans (hd 2 _ xk rfl);rw [if_pos (wanted_yes (j:=2) (t:=17) (b:=true) rfl xk eg)];have e19:tg a 19= .pointer (some ⟨b3,2,none⟩):=(ev 19 xdd).trans (hd 4 _ xk rfl);have g0:=(cell_at_drew hJ c2)
       have HK:=hid hK;clear hK ev hd eg;go_simp;exact HK.out _ _ xzc hJ rfl (Ext.refl _ _)
      case o6=>
       intro u a w' ev hJ hd K hK;have eg:a.tmps.getD 17 undef= .bool true:=(ev 17 xdd).trans (hd 2 _ xk rfl);rw [if_pos (wanted_yes (j:=2) (t:=17) (b:=true) rfl xk eg)];have e5:tg a 5= .int .i64 i:=ev 5 xdd;have HK:=hid hK;clear hK ev hd eg;go_simp;exact HK.out _ _ xzc hJ rfl (Ext.refl _ _)
      case o7=>
       intro u a w' ev hJ hd K hK;have eg:a.tmps.getD 17 undef= .bool true:=(ev 17 xdd).trans (hd 2 _ xk rfl);rw [if_pos (wanted_yes (j:=2) (t:=17) (b:=true) rfl xk eg)];have e20:tg a 20= .slice (some ⟨bk,ok,none⟩) n kc:=(ev 20 xdd).trans (hd 5 _ xk rfl);have e21:tg a 21= .int .i64 i:=(ev 21 xdd).trans (hd 6 _ xk rfl);have HK:=hid hK;clear hK ev hd eg;go_simp;exact HK.out _ _ xzc hJ rfl (Ext.refl _ _)
      case o8=>
       intro u a w' ev hJ hd K hK;have eg:a.tmps.getD 17 undef= .bool true:=(ev 17 xdd).trans (hd 2 _ xk rfl);rw [if_pos (wanted_yes (j:=2) (t:=17) (b:=true) rfl xk eg)];have e22:tg a 22= .pointer (some ⟨bk,ok+i,none⟩):=(ev 22 xdd).trans (hd 7 _ xk rfl);have g0:=(cell_at_drew hJ ck)
       have HK:=hid hK;clear hK ev hd eg;go_simp;exact HK.out _ _ xzc hJ rfl (Ext.refl _ _)
      case o9=>
       intro u a w' ev hJ hd K hK;have eg:a.tmps.getD 17 undef= .bool true:=(ev 17 xdd).trans (hd 2 _ xk rfl);rw [if_pos (wanted_yes (j:=2) (t:=17) (b:=true) rfl xk eg)];have e3:tg a 3= .pointer (some ⟨b3,0,none⟩):=ev 3 xdd;have HK:=hid hK;clear hK ev hd eg;go_simp;exact HK.out _ _ xzc hJ rfl (Ext.refl _ _)
      case o10=>
       intro u a w' ev hJ hd K hK;have eg:a.tmps.getD 17 undef= .bool true:=(ev 17 xdd).trans (hd 2 _ xk rfl);rw [if_pos (wanted_yes (j:=2) (t:=17) (b:=true) rfl xk eg)];have e24:tg a 24= .pointer (some ⟨b3,3,none⟩):=(ev 24 xdd).trans (hd 9 _ xk rfl);have g0:=(cell_at_drew hJ c3)
       have HK:=hid hK;clear hK ev hd eg;go_simp;exact HK.out _ _ xzc hJ rfl (Ext.refl _ _)
      case o11=>
       intro u a w' ev hJ hd K hK;have eg:a.tmps.getD 17 undef= .bool true:=(ev 17 xdd).trans (hd 2 _ xk rfl);rw [if_pos (wanted_yes (j:=2) (t:=17) (b:=true) rfl xk eg)];have e5:tg a 5= .int .i64 i:=ev 5 xdd;have HK:=hid hK;clear hK ev hd eg;go_simp;exact HK.out _ _ xzc hJ rfl (Ext.refl _ _)
      case o12=>
       intro u a w' ev hJ hd K hK;have eg:a.tmps.getD 17 undef= .bool true:=(ev 17 xdd).trans (hd 2 _ xk rfl);rw [if_pos (wanted_yes (j:=2) (t:=17) (b:=true) rfl xk eg)];have e25:tg a 25= .slice (some ⟨bv,ov,none⟩) n vc:=(ev 25 xdd).trans (hd 10 _ xk rfl);have e26:tg a 26= .int .i64 i:=(ev 26 xdd).trans (hd 11 _ xk rfl);have HK:=hid hK;clear hK ev hd eg;go_simp;exact HK.out _ _ xzc hJ rfl (Ext.refl _ _)
      case o13=>
       intro u a w' ev hJ hd K hK;have eg:a.tmps.getD 17 undef= .bool true:=(ev 17 xdd).trans (hd 2 _ xk rfl);rw [if_pos (wanted_yes (j:=2) (t:=17) (b:=true) rfl xk eg)];have e27:tg a 27= .pointer (some ⟨bv,ov+i,none⟩):=(ev 27 xdd).trans (hd 12 _ xk rfl);have g0:=(cell_at_drew hJ cv)
       have HK:=hid hK;clear hK ev hd eg;go_simp;exact HK.out _ _ xzc hJ rfl (Ext.refl _ _)
      case o14=>
       intro u a w' ev hJ hd K hK;have eg:a.tmps.getD 17 undef= .bool true:=(ev 17 xdd).trans (hd 2 _ xk rfl);rw [if_pos (wanted_yes (j:=2) (t:=17) (b:=true) rfl xk eg)];have e23:tg a 23= .int .i64 kx:=(ev 23 xdd).trans (hd 8 _ xk rfl);have e28:tg a 28= .int .i64 vx:=(ev 28 xdd).trans (hd 13 _ xk rfl);have f23:a.tmps[23]?.getD undef= .int .i64 kx:=by rw [←Array.getD_eq_getD_getElem?];exact e23
       have f28:a.tmps[28]?.getD undef= .int .i64 vx:=by rw [←Array.getD_eq_getD_getElem?];exact e28
       have HK:=hid hK;clear hK ev hd eg;go_simp;exact HK.out _ _ xzc hJ rfl (Ext.refl _ _)
     case fin=>
      intro u w3 hJ hG;have h17:u 17= .bool true:=hG 2 _ rfl;have h18:u 18= .func (.yield l) #[] #[]:=hG 3 _ rfl;have h29:u 29= .agg #[.int .i64 kx,.int .i64 vx]:=hG 14 _ rfl;have hBq:Below wr.heap.size wr w3:=by obtain ⟨q,rfl⟩:=hJ;exact below_drewN HBL.out q
      have HBQ:=hid hBq;have hkm:=HKM.out rfl;obtain ⟨fn,tmps,assign,body,hy,hR⟩:=HY.out k w3 (by rw [HPL2.out];exact hkm) (HJ.out _ _ _ HJ0.out hBq);rw [hpa rfl] at hy;clear hG c2 c3 ck cv hJ hpa hBq;simp only [mixFrame,mixL,dstsOf,List.take_succ_cons,List.take_zero,List.filterMap_cons,List.filterMap_nil,List.contains_cons,List.contains_nil,Nat.reduceBEq,Bool.or_false,Bool.false_or,Bool.or_true,Bool.true_or,if_true,if_false,Bool.false_eq_true,Nat.reduceAdd,Nat.zero_add,List.drop_succ_cons,List.drop_zero,h17,h18,h29];gi_wp2
      refine ⟨rfl,hR.mono ?_⟩;rintro e W3 (⟨rfl,hJ3,hk3⟩ | ⟨rfl,hJx3⟩)
      · have HB3:=hid ((HB.out.below HBQ.out).kept hk3 s1 s2 s3);have HW3:=hid (hk3.row HS.out.w (HRW.out.below HBQ.out));have HK3:=hid (hk3.row HS.out.k (HRK.out.below HBQ.out));have HV3:=hid (hk3.row HS.out.v (HRV.out.below HBQ.out));have HJ3:=hid hJ3;clear hJ3 hk3 hy hR;gi_wp2
        gi_roundg (gk-1)
        case measure=>have:=HI2.out;omega
        case rel=>
         refine ⟨i+1,by have:=HI2.out;omega,by omega,by go_num,hid ?_,HB3,HW3,HK3,HV3⟩;have e9:=HCS2.out;simp only [if_true] at e9;rw [e9];exact HJ3.out
      · have HJ3:=hid hJx3;clear hJx3 hy hR;gi_wp2
        exact bodyPost_ret (results_none rfl _ _ _) rfl ⟨⟨_,rfl⟩,.inr ⟨k+1,by rw [HPL2.out];omega,HJ3.out⟩⟩
    | false=>
     refine wpIn_region_facts 15 xk (N:=33) rfl xk xk xdd (fun w'=>∃q,w'=wq.drewN q) (Ext 29) (factAt [.is (.int .i64 i),.is (.bool false),.is (.bool false),.is undef,.is undef,.is undef,.is undef,.is undef,.is undef,.is undef,.is undef,.is undef,.is undef,.is undef,.is undef]) (factAt_stays _) ⟨1,rfl⟩ ?steps ?fin
     case steps=>
      refine ⟨?o0,?o1,?o2,?o3,?o4,?o5,?o6,?o7,?o8,?o9,?o10,?o11,?o12,?o13,?o14,trivial⟩
      case o0=>
       intro u a w' ev hJ hd K hK;rw [if_pos (wanted_free rfl)];have e5:tg a 5= .int .i64 i:=ev 5 xdd;have HK:=hid hK;clear hK ev hd;go_simp;exact HK.out _ _ xzc hJ rfl (Ext.refl _ _)
      case o1=>
       intro u a w' ev hJ hd K hK;rw [if_pos (wanted_free rfl)];have e6:tg a 6= .pointer (some ⟨wr.heap.size,0,none⟩):=ev 6 xdd;have e15:tg a 15= .int .i64 i:=(ev 15 xdd).trans (hd 0 _ xk rfl);have HK:=hid hK;have HI:=hid (HIS.out w' hJ);have HJ:=hid hJ;clear hK ev hd hJ;go_simp;refine ⟨trivial,rfl,(callsIn_wide.2 HI.out).mono ?_⟩;rintro e w'' ⟨rfl,rfl⟩;exact HK.out _ _ xzc HJ.out rfl (Ext.refl _ _)
      case o2=>
       intro u a w' ev hJ hd K hK;rw [if_pos (wanted_free rfl)];have e16:tg a 16= .bool false:=(ev 16 xdd).trans (hd 1 _ xk rfl);have HK:=hid hK;clear hK ev hd;go_simp;exact HK.out _ _ xzc hJ rfl (Ext.refl _ _)
      case o3=>
       intro u a w' ev hJ hd K hK;have eg:a.tmps.getD 17 undef= .bool false:=(ev 17 xdd).trans (hd 2 _ xk rfl);rw [if_neg (by rw [wanted_no (j:=2) (t:=17) (b:=true) rfl xk eg];decide)];exact ⟨fun _ _=>trivial,hK _ _ xzc hJ rfl (Ext.refl _ _)⟩
      case o4=>
       intro u a w' ev hJ hd K hK;have eg:a.tmps.getD 17 undef= .bool false:=(ev 17 xdd).trans (hd 2 _ xk rfl);rw [if_neg (by rw [wanted_no (j:=2) (t:=17) (b:=true) rfl xk eg];decide)];exact ⟨fun _ _=>trivial,hK _ _ xzc hJ rfl (Ext.refl _ _)⟩
      case o5=>
       intro u a w' ev hJ hd K hK;have eg:a.tmps.getD 17 undef= .bool false:=(ev 17 xdd).trans (hd 2 _ xk rfl);rw [if_neg (by rw [wanted_no (j:=2) (t:=17) (b:=true) rfl xk eg];decide)];exact ⟨fun _ _=>trivial,hK _ _ xzc hJ rfl (Ext.refl _ _)⟩
      case o6=>
       intro u a w' ev hJ hd K hK;have eg:a.tmps.getD 17 undef= .bool false:=(ev 17 xdd).trans (hd 2 _ xk rfl);rw [if_neg (by rw [wanted_no (j:=2) (t:=17) (b:=true) rfl xk eg];decide)];exact ⟨fun _ _=>trivial,hK _ _ xzc hJ rfl (Ext.refl _ _)⟩
      case o7=>
       intro u a w' ev hJ hd K hK;have eg:a.tmps.getD 17 undef= .bool false:=(ev 17 xdd).trans (hd 2 _ xk rfl);rw [if_neg (by rw [wanted_no (j:=2) (t:=17) (b:=true) rfl xk eg];decide)];exact ⟨fun _ _=>trivial,hK _ _ xzc hJ rfl (Ext.refl _ _)⟩
      case o8=>
       intro u a w' ev hJ hd K hK;have eg:a.tmps.getD 17 undef= .bool false:=(ev 17 xdd).trans (hd 2 _ xk rfl);rw [if_neg (by rw [wanted_no (j:=2) (t:=17) (b:=true) rfl xk eg];decide)];exact ⟨fun _ _=>trivial,hK _ _ xzc hJ rfl (Ext.refl _ _)⟩
      case o9=>
       intro u a w' ev hJ hd K hK;have eg:a.tmps.getD 17 undef= .bool false:=(ev 17 xdd).trans (hd 2 _ xk rfl);rw [if_neg (by rw [wanted_no (j:=2) (t:=17) (b:=true) rfl xk eg];decide)];exact ⟨fun _ _=>trivial,hK _ _ xzc hJ rfl (Ext.refl _ _)⟩
      case o10=>
       intro u a w' ev hJ hd K hK;have eg:a.tmps.getD 17 undef= .bool false:=(ev 17 xdd).trans (hd 2 _ xk rfl);rw [if_neg (by rw [wanted_no (j:=2) (t:=17) (b:=true) rfl xk eg];decide)];exact ⟨fun _ _=>trivial,hK _ _ xzc hJ rfl (Ext.refl _ _)⟩
      case o11=>
       intro u a w' ev hJ hd K hK;have eg:a.tmps.getD 17 undef= .bool false:=(ev 17 xdd).trans (hd 2 _ xk rfl);rw [if_neg (by rw [wanted_no (j:=2) (t:=17) (b:=true) rfl xk eg];decide)];exact ⟨fun _ _=>trivial,hK _ _ xzc hJ rfl (Ext.refl _ _)⟩
      case o12=>
       intro u a w' ev hJ hd K hK;have eg:a.tmps.getD 17 undef= .bool false:=(ev 17 xdd).trans (hd 2 _ xk rfl);rw [if_neg (by rw [wanted_no (j:=2) (t:=17) (b:=true) rfl xk eg];decide)];exact ⟨fun _ _=>trivial,hK _ _ xzc hJ rfl (Ext.refl _ _)⟩
      case o13=>
       intro u a w' ev hJ hd K hK;have eg:a.tmps.getD 17 undef= .bool false:=(ev 17 xdd).trans (hd 2 _ xk rfl);rw [if_neg (by rw [wanted_no (j:=2) (t:=17) (b:=true) rfl xk eg];decide)];exact ⟨fun _ _=>trivial,hK _ _ xzc hJ rfl (Ext.refl _ _)⟩
      case o14=>
       intro u a w' ev hJ hd K hK;have eg:a.tmps.getD 17 undef= .bool false:=(ev 17 xdd).trans (hd 2 _ xk rfl);rw [if_neg (by rw [wanted_no (j:=2) (t:=17) (b:=true) rfl xk eg];decide)];exact ⟨fun _ _=>trivial,hK _ _ xzc hJ rfl (Ext.refl _ _)⟩
     case fin=>
      intro u w3 hJ hG;have h17:u 17= .bool false:=hG 2 _ rfl;have h18:u 18=undef:=hG 3 _ rfl;have h29:u 29=undef:=hG 14 _ rfl;have hBq:Below wr.heap.size wr w3:=by obtain ⟨q,rfl⟩:=hJ;exact below_drewN HBL.out q
      have HBQ:=hid hBq;clear hG c2 c3 ck cv hJ hpa hBq;simp only [mixFrame,mixL,dstsOf,List.take_succ_cons,List.take_zero,List.filterMap_cons,List.filterMap_nil,List.contains_cons,List.contains_nil,Nat.reduceBEq,Bool.or_false,Bool.false_or,Bool.or_true,Bool.true_or,if_true,if_false,Bool.false_eq_true,Nat.reduceAdd,Nat.zero_add,List.drop_succ_cons,List.drop_zero,h17,h18,h29];gi_wp2
      refine ⟨fun _ h=>(by cases h),?_⟩;gi_wp2
      gi_roundg (gk-1)
      case measure=>have:=HI2.out;omega
      case rel=>
       refine ⟨i+1,by have:=HI2.out;omega,by omega,by go_num,hid ?_,hid (HB.out.below HBQ.out),hid (HRW.out.below HBQ.out),hid (HRK.out.below HBQ.out),hid (HRV.out.below HBQ.out)⟩;have e9:=HCS2.out;simp only [Bool.false_eq_true,if_false,Nat.add_zero] at e9;rw [e9];exact HJ.out _ _ _ HJ0.out HBQ.out
  · have hih:hi=i:=xo;subst hih;have q1:=HB.out.hi;have HJ1:=HJ0.out;gi_wp2
    refine bodyPost_end (results_none rfl _ _ _) rfl ⟨⟨_,rfl⟩,.inl ?_⟩;rw [HPL.out];exact HJ0.out
end
section
open Go.RowKit
theorem fits_ok (seg many:Int) (w:World):
    Calls Tryz.prog 94 #[.int .i64 seg,.int .i64 many] w fun e w'=>e= .returned (.bool (fitB seg many))∧w=w':=by
 by_cases c1:4≤seg
 · by_cases c2:seg≤64
   · have PW:=hid Power_ok;obtain ⟨b1,hb1⟩:∃b,pwB seg=b:=⟨_,rfl⟩
     cases b1 with
     | false=>
      have e:fitB seg many=false:=by simp [fitB,hb1]
      rw [e];clear e;go_enter Tryz.func94,Tryz.ntmps94
      go_wp2_with (go_at_call 136;refine (PW.out _ xo _).mono ?_;rintro e w' ⟨rfl,rfl⟩;rw [hb1])
      go_ret
      exact ⟨rfl,rfl⟩
     | true =>
      by_cases c4:seg≤many
      · by_cases c5:many≤65536
        · obtain ⟨r,hr⟩:∃r,many%seg=r:=⟨_,rfl⟩
          obtain ⟨q,hq⟩:∃q,many/seg=q:=⟨_,rfl⟩
          have hq2:q≤65536:=by rw [←hq];exact Int.le_trans (Int.ediv_le_self _ xo) c5
          have hq0:0≤q:=by rw [←hq];exact Int.ediv_nonneg xo xo
          have ht1:many.tmod seg=r:=by rw [Int.tmod_eq_emod_of_nonneg xo];exact hr
          have ht2:many.tdiv seg=q:=by rw [Int.tdiv_eq_ediv_of_nonneg xo];exact hq
          have hs0:(seg==0)=false:=by simp;omega
          by_cases c6:r=0
          · have e:fitB seg many=pwB q:=by simp [fitB,hb1,hr,hq,c1,c2,c4,c5,c6]
            rw [e];subst c6;clear e;go_enter Tryz.func94,Tryz.ntmps94
            go_wp2_with (go_at_call 136;refine (PW.out _ xo _).mono ?_;rintro e w' ⟨rfl,rfl⟩;try rw [hb1])
            go_ret
            exact ⟨rfl,rfl⟩
          · have e:fitB seg many=false:=by simp [fitB,hb1,hr,c6]
            rw [e];have c6':(r==0)=false:=by simpa using c6
            clear e;go_enter Tryz.func94,Tryz.ntmps94
            go_wp2_with (go_at_call 136;refine (PW.out _ xo _).mono ?_;rintro e w' ⟨rfl,rfl⟩;rw [hb1])
            go_ret
            exact ⟨rfl,rfl⟩
        · have e:fitB seg many=false:=by simp [fitB,c5]
          rw [e];clear e;go_enter Tryz.func94,Tryz.ntmps94
          go_wp2_with (go_at_call 136;refine (PW.out _ xo _).mono ?_;rintro e w' ⟨rfl,rfl⟩;rw [hb1])
          go_ret
          exact ⟨rfl,rfl⟩
      · have e:fitB seg many=false:=by simp [fitB,c4]
        rw [e];clear e;go_enter Tryz.func94,Tryz.ntmps94
        go_wp2_with (go_at_call 136;refine (PW.out _ xo _).mono ?_;rintro e w' ⟨rfl,rfl⟩;rw [hb1])
        go_ret
        exact ⟨rfl,rfl⟩
   · have e:fitB seg many=false:=by simp [fitB,c2]
     rw [e];clear e;go_enter Tryz.func94,Tryz.ntmps94
     go_wp2
     go_ret
     exact ⟨rfl,rfl⟩
 · have e:fitB seg many=false:=by simp [fitB,c1]
   rw [e];clear e;go_enter Tryz.func94,Tryz.ntmps94
   go_wp2
   go_ret
   exact ⟨rfl,rfl⟩
theorem Fits04_ok (seg many:Int) (w:World):
    Calls Tryz.prog 109 #[.int .i64 seg,.int .i64 many] w fun e w'=>e= .returned (.bool (fitB seg many))∧w=w':=by
 by_cases c1:4≤seg
 · by_cases c2:seg≤64
   · have PW:=hid Power01_ok;obtain ⟨b1,hb1⟩:∃b,pwB seg=b:=⟨_,rfl⟩
     cases b1 with
     | false=>
      have e:fitB seg many=false:=by simp [fitB,hb1]
      rw [e];clear e;go_enter Tryz.func109,Tryz.ntmps109
      go_wp2_with (go_at_call 139;refine (PW.out _ xo _).mono ?_;rintro e w' ⟨rfl,rfl⟩;rw [hb1])
      go_ret
      exact ⟨rfl,rfl⟩
     | true =>
      have hm0:seg≤many∨many<seg:=xo;by_cases c4:seg≤many
      · by_cases c5:many≤65536
        · obtain ⟨r,hr⟩:∃r,many%seg=r:=⟨_,rfl⟩
          obtain ⟨q,hq⟩:∃q,many/seg=q:=⟨_,rfl⟩
          have hq2:q≤65536:=by rw [←hq];exact Int.le_trans (Int.ediv_le_self _ xo) c5
          have hq0:0≤q:=by rw [←hq];exact Int.ediv_nonneg xo xo
          have ht1:many.tmod seg=r:=by rw [Int.tmod_eq_emod_of_nonneg xo];exact hr
          have ht2:many.tdiv seg=q:=by rw [Int.tdiv_eq_ediv_of_nonneg xo];exact hq
          have hs0:(seg==0)=false:=by simp;omega
          by_cases c6:r=0
          · have e:fitB seg many=pwB q:=by simp [fitB,hb1,hr,hq,c1,c2,c4,c5,c6]
            rw [e];subst c6;clear e;go_enter Tryz.func109,Tryz.ntmps109
            go_wp2_with (go_at_call 139;refine (PW.out _ xo _).mono ?_;rintro e w' ⟨rfl,rfl⟩;try rw [hb1])
            go_ret
            exact ⟨rfl,rfl⟩
          · have e:fitB seg many=false:=by simp [fitB,hb1,hr,c6]
            rw [e];have c6':(r==0)=false:=by simpa using c6
            clear e;go_enter Tryz.func109,Tryz.ntmps109
            go_wp2_with (go_at_call 139;refine (PW.out _ xo _).mono ?_;rintro e w' ⟨rfl,rfl⟩;rw [hb1])
            go_ret
            exact ⟨rfl,rfl⟩
        · have e:fitB seg many=false:=by simp [fitB,c5]
          rw [e];clear e;go_enter Tryz.func109,Tryz.ntmps109
          go_wp2_with (go_at_call 139;refine (PW.out _ xo _).mono ?_;rintro e w' ⟨rfl,rfl⟩;rw [hb1])
          go_ret
          exact ⟨rfl,rfl⟩
      · have e:fitB seg many=false:=by simp [fitB,c4]
        rw [e];clear e;have ht1:1≤many→many.tmod seg=many:=fun h=>by rw [Int.tmod_eq_emod_of_nonneg xo];exact Int.emod_eq_of_lt xo xo
        by_cases c7:1≤many
        · replace ht1:=ht1 c7;have c7':(many==0)=false:=by simp;omega
          have hs0:(seg==0)=false:=by simp;omega
          have c8:many≤65536:=xo;go_enter Tryz.func109,Tryz.ntmps109
          go_wp2_with (go_at_call 139;refine (PW.out _ xo _).mono ?_;rintro e w' ⟨rfl,rfl⟩;rw [hb1])
          go_ret
          exact ⟨rfl,rfl⟩
        · clear ht1;go_enter Tryz.func109,Tryz.ntmps109
          go_wp2_with (go_at_call 139;refine (PW.out _ xo _).mono ?_;rintro e w' ⟨rfl,rfl⟩;rw [hb1])
          go_ret
          exact ⟨rfl,rfl⟩
   · have e:fitB seg many=false:=by simp [fitB,c2]
     rw [e];clear e;go_enter Tryz.func109,Tryz.ntmps109
     go_wp2
     go_ret
     exact ⟨rfl,rfl⟩
 · have e:fitB seg many=false:=by simp [fitB,c1]
   rw [e];clear e;go_enter Tryz.func109,Tryz.ntmps109
   go_wp2
   go_ret
   exact ⟨rfl,rfl⟩
theorem Down_ok (n:Nat) (ni:Int) (hn:ni=n) (h0:1≤n) (h1:n≤65536) (w:World):
    Calls Tryz.prog 137 #[.int .i64 ni] w fun e w'=>e= .returned (.tuple #[.int .i64 (n.log2:Nat),.int .i64 0])∧w=w':=by
 subst hn;have hlog:n.log2≤n:=Nat.log2_le_self n;have HL:=hid hlog;clear hlog;go_enter Tryz.func137,Tryz.ntmps137
 go_wp2
 refine wp_scope_loop 0 (fun g a' w'=>w'=w∧∃b k:Nat,b=g∧b≤n∧1≤b∧k+b.log2=n.log2∧∃u:Nat→Value,a'= {tmps:= #[.int .i64 b,u 1,.int .i64 k,u 3,u 4,u 5,u 6,u 7,u 8,u 9,u 10,u 11,u 12],defers:=[]}) rfl ?_ ?_
 · rintro g a wo ⟨rfl,b,k,rfl,hbn,hb1,hk,u,rfl⟩ H hH;have hkb:k≤65536:=by have:=HL.out;omega
   by_cases h:2≤b
   · have h2:=log2_two h;have H2:=hid (And.intro h2 hk);clear h2 hk;go_wp2
     refine wp_goto ?_;refine show (0=0∧H _ _) from ⟨rfl,hH (b/2) _ _ xo ⟨rfl,b/2,k+1,rfl,by omega,by omega,by have:=H2.out;omega,frame_mk _ _ _ ?_⟩⟩
     rw [show ((b/2:Nat):Int)=(b:Int)/2 by omega,show ((k+1:Nat):Int)=(k:Int)+1 by omega];rfl
   · have h2:=log2_one (n:=b) xo;have hkl:k=n.log2:=xo;subst hkl;have hb:b=1:=xo;subst hb;clear h2 hk;go_wp2
     simp only [Exit.jump];go_ret2
     exact ⟨rfl,rfl⟩
 · intro H hH hpass;go_wp2
   refine wp_label ?_;go_step
   go_step
   refine hpass n _ _ ?_;exact ⟨rfl,n,0,rfl,Nat.le_refl _,h0,by omega,frame_mk _ _ _ rfl⟩
end
end Go.Proofs.YtmnlagmmbfjbeaaGreatDoor

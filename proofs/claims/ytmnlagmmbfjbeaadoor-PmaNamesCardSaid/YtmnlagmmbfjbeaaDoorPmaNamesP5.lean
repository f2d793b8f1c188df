/- Merged: InvIn, OccCnt. -/
import Derived.Test.YtmnlagmmbfjbeaaDoorPmaNamesP4
import Derived.Test.YtmnlagmmbfjbeaaDoorPmaNamesP2
import Derived.OrdersIn
namespace Go.Proofs.YtmnlagmmbfjbeaaDoor
set_option maxRecDepth 100000
set_option maxHeartbeats 40000000
set_option linter.unusedVariables false
set_option linter.unusedSimpArgs false
section
open Go.RowKit
section
variable {F:Fence} {dp:Nat} {P:Program} {ops:Array Oper} {Q:Exit→Act→World→Prop}
def ClosedL (ops:Array Oper) (L:Array Bool):Prop:=∀(j:Nat) (p:Oper),ops[j]? =some p→L.getD j false=true→∀e ∈ p.after,Region.binds .any e=true→L.getD e.on false=true
theorem ClosedL.set {L:Array Bool} {i:Nat} {o:Oper} (h:ClosedL ops L) (hi:i<L.size) (ho:ops[i]? =some o) (hall:∀e ∈ o.after,Region.binds .any e=true→L.getD e.on false=true):ClosedL ops (L.setIfInBounds i true):=by
 have keep:∀k,L.getD k false=true→(L.setIfInBounds i true).getD k false=true:=by
  intro k hk;by_cases e:k=i
  · subst e;exact set_same hi
  · rw [set_else e];exact hk
 intro j p hp hj e he hb;by_cases ej:j=i
 · subst ej;obtain rfl:p=o:=Option.some.inj (hp.symm.trans ho);exact keep _ (hall e he hb)
 · rw [set_else ej] at hj;exact keep _ (h j p hp hj e he hb)
def maskOf (acc:List Nat) (o:Oper):Nat:=o.after.toList.foldl (fun m e=>if Region.binds .any e then m ||| (2^e.on ||| acc.getD e.on 0) else m) 0
def masksOf:List Oper→List Nat→List Nat
  | [],acc=>acc
  | o::r,acc=>masksOf r (acc++[maskOf acc o])
theorem mask_bit (acc:List Nat):∀(es:List Edge) (m j:Nat),(es.foldl (fun m e=>if Region.binds .any e then m ||| (2^e.on ||| acc.getD e.on 0) else m) m).testBit j=true→
    m.testBit j=true∨∃e ∈ es,Region.binds .any e=true∧(j=e.on∨(acc.getD e.on 0).testBit j=true):=by
 intro es;induction es with
 | nil=>intro m j h;exact .inl h
 | cons e r ih=>
  intro m j h;rw [List.foldl_cons] at h;rcases ih _ j h with h1 | ⟨e',he',hb,h1⟩
  · by_cases hb:Region.binds .any e=true
    · rw [if_pos hb,Nat.testBit_or,Nat.testBit_or,Bool.or_eq_true,Bool.or_eq_true] at h1;rcases h1 with h1|h1|h1
      · exact .inl h1
      · refine .inr ⟨e,by simp,hb,.inl ?_⟩;rw [Nat.testBit_two_pow,decide_eq_true_eq] at h1;exact h1.symm
      · exact .inr ⟨e,by simp,hb,.inr h1⟩
    · rw [if_neg hb] at h1;exact .inl h1
  · exact .inr ⟨e',by simp [he'],hb,h1⟩
def GoodM (l:List Oper) (L:Array Bool) (i m:Nat):Prop:=∀o,l[i]? =some o→(∀e ∈ o.after,Region.binds .any e=true→L.getD e.on false=true)→∀j,m.testBit j=true→L.getD j false=true
theorem masks_sound {l:List Oper} {L:Array Bool} (hcl:ClosedL l.toArray L):∀(r:List Oper) (acc:List Nat) (k:Nat),acc.length=k→(∀j,r[j]? =l[k+j]?)→(∀i,i<k→GoodM l L i (acc.getD i 0))→∀i,GoodM l L i ((masksOf r acc).getD i 0):=by
 intro r;induction r with
 | nil=>
  intro acc k hk hr hg i;by_cases h:i<k
  · exact hg i h
  · intro o ho _ j hj;rw [masksOf,List.getD_eq_getElem?_getD,List.getElem?_eq_none xo] at hj;simp at hj
 | cons o r ih=>
  intro acc k hk hr hg;rw [masksOf];refine ih _ (k+1) (by simp [hk]) (fun j=>by have:=hr (j+1);rw [List.getElem?_cons_succ] at this;rw [this];congr 1;omega) ?_;intro i hi;by_cases h:i<k
  · rw [List.getD_eq_getElem?_getD,List.getElem?_append_left xo,←List.getD_eq_getElem?_getD];exact hg i h
  · have hik:i=k:=xo;subst hik;rw [List.getD_eq_getElem?_getD,List.getElem?_append_right xo];intro o' ho' hall j hj;have ho:l[i]? =some o:=by have:=hr 0;simpa using this.symm
    obtain rfl:o'=o:=Option.some.inj (ho'.symm.trans ho);simp only [hk,Nat.sub_self,List.getElem?_cons_zero,Option.getD_some] at hj;rcases mask_bit acc _ _ _ hj with h0 | ⟨e,he,hb,h1⟩
    · simp at h0
    · have hl:=hall e (by simpa using he) hb;rcases h1 with rfl|h1
      · exact hl
      · by_cases hek:e.on<i
        · have hlen:i<l.length:=(List.getElem?_eq_some_iff.1 ho).1;have hoe:l[e.on]? =some (l[e.on]'xo):=List.getElem?_eq_getElem xo;exact hg e.on hek _ hoe (fun e2 he2 hb2=>hcl e.on _ (by rw [List.getElem?_toArray];exact hoe) hl e2 he2 hb2) j h1
        · rw [List.getD_eq_getElem?_getD,List.getElem?_eq_none xo] at h1;simp at h1
def tailM (l:List Oper) (n:Nat):Bool:=
  (List.range l.length).all fun i=>decide (i<n)||(decide ((masksOf l []).getD i 0%2^i=2^i-1)&&match l[i]? with|some o=>o.after.all (fun e=>decide (e.on<i))|none=>true)
theorem wpAnyIn_inv (I:Array Bool→Act→World→Prop)
    (hac:∀(i:Nat) (o:Oper),ops[i]? =some o→∀e ∈ o.after,e.on<i)
    (step:∀(L:Array Bool) (a:Act) (w:World) (i:Nat) (o:Oper),L.size=ops.size→ops[i]? =some o→L.getD i false=false→
      (∀e ∈ o.after,Region.binds .any e=true→L.getD e.on false=true)→ClosedL ops L→I L a w→wpOpIn F dp P ops Q i (I (L.setIfInBounds i true)) a w)
    (done:∀(L:Array Bool) (a:Act) (w:World),L.size=ops.size→(∀i,i<ops.size→L.getD i false=true)→I L a w→Q .normal a w):
    ∀(f:Nat) (L:Array Bool) (a:Act) (w:World),L.size=ops.size→leftOf L ops.size≤f→ClosedL ops L→I L a w→wpAnyIn F dp P .any ops Q f L a w:=by
 have none_ready:∀(L:Array Bool),L.size=ops.size→Region.ready .any ops L=[]→∀i,i<ops.size→L.getD i false=true:=by
  intro L hs hr i;induction i using Nat.strongRecOn with
  | ind i ih=>
   intro hi;cases hc:L.getD i false with
   | true=>rfl
   | false=>
    have hm:i ∈ Region.ready .any ops L:=by
     refine mem_ready.2 ⟨?_,ops[i],Array.getElem?_eq_some_iff.2 ⟨hi,rfl⟩,fun e he _=> ?_⟩
     · have h1:i<L.size:=xo;simp [h1] at hc ⊢;exact hc
     · have:=hac i ops[i] (Array.getElem?_eq_some_iff.2 ⟨hi,rfl⟩) e he;exact ih e.on this xo
    rw [hr] at hm;cases hm
 intro f;induction f with
 | zero=>
  intro L a w hs hl hcl hI;have hall:=leftOf_zero (L:=L) ops.size xo;refine ⟨?_,done L a w hs hall hI⟩;rw [List.eq_nil_iff_forall_not_mem];intro i hi;obtain ⟨h1,o,ho,_⟩:=mem_ready.1 hi;have hlt:=(Array.getElem?_eq_some_iff.1 ho).1;have h2:=hall i hlt;have h3:i<L.size:=xo;simp [h3] at h1 h2;rw [h1] at h2;cases h2
 | succ f ih=>
  intro L a w hs hl hcl hI;refine ⟨fun hr=>done L a w hs (none_ready L hs hr) hI,fun i hi=> ?_⟩;obtain ⟨h1,o,ho,hall⟩:=mem_ready.1 hi;have hlt:=(Array.getElem?_eq_some_iff.1 ho).1;have h3:i<L.size:=xo;have h4:L.getD i false=false:=by simp [h3] at h1 ⊢;exact h1
  refine wpOpIn_mono (fun a' w' hI'=>ih _ a' w' (by simpa using hs) ?_ (hcl.set h3 ho hall) hI') (step L a w i o hs ho h4 hall hcl hI);have:=leftOf_set h3 h4 ops.size hlt;omega
def OpOkG (F:Fence) (dp:Nat) (P:Program) (ops:Array Oper) (Q:Exit→Act→World→Prop) (D:List Nat) (t0:Array Value) (n:Nat) (ds:List Deferred) (J:World→Prop) (Ext:World→World→Prop) (G:Nat→Value→World→Prop) (k:Nat) (o:Oper):Prop:=
  ∀ (u:Nat→Value) (a:Act) (w:World),(∀t,t<n→a.tmps.getD t undef=mixAt D u t0 t)→J w→
    (∀(j:Nat) (p:Oper),(o.after.any fun e=>Region.binds .any e&&e.on==j)=true→ops[j]? =some p→G j (valOf u p) w)→
    ∀K:Act→World→Prop,(∀v w',(o.dst=none→v=undef)→J w'→G k v w'→Ext w w'→K (a.put o.dst v) w')→if Region.wanted o (yielded ops a.tmps) then o.wpIn F dp P a w K Q else (∀f,o.about P w a.eval=some f→F.fn f)∧K (a.put o.dst undef) w
def OpsOkG (F:Fence) (dp:Nat) (P:Program) (ops:Array Oper) (Q:Exit→Act→World→Prop) (D:List Nat) (t0:Array Value) (n:Nat) (ds:List Deferred) (J:World→Prop) (Ext:World→World→Prop) (G:Nat→Value→World→Prop):Nat→List Oper→Prop
  | _,[]=>True
  | k,o::rest=>OpOkG F dp P ops Q D t0 n ds J Ext G k o∧OpsOkG F dp P ops Q D t0 n ds J Ext G (k+1) rest
theorem OpsOkG.at {D:List Nat} {t0:Array Value} {n:Nat} {ds:List Deferred} {J:World→Prop} {Ext:World→World→Prop} {G:Nat→Value→World→Prop}:∀ {l:List Oper} {k:Nat},OpsOkG F dp P ops Q D t0 n ds J Ext G k l→∀ {i:Nat} {o:Oper},l[i]? =some o→OpOkG F dp P ops Q D t0 n ds J Ext G (k+i) o
  | [],_,_,i,o,ho=>by simp at ho
  | x::rest,k,h,0,o,ho=>by simp at ho;subst ho;exact h.1
  | x::rest,k,h,i+1,o,ho=>by
   have:=OpsOkG.at h.2 (i:=i) (o:=o) (by simpa using ho);rwa [Nat.add_assoc,Nat.add_comm 1 i] at this
theorem wpOpIn_of_list {l:List Oper} {i:Nat} {o:Oper} {a:Act} {w:World} (ho:l[i]? =some o) (h:wpListIn F dp P l.toArray Q (l.drop i) a w):wpOpIn F dp P l.toArray Q i (wpListIn F dp P l.toArray Q (l.drop (i+1))) a w:=by
 have hi:=(List.getElem?_eq_some_iff.1 ho).1;have hd:l.drop i=o::l.drop (i+1):=by
  rw [List.drop_eq_getElem_cons hi];congr 1
  exact (List.getElem?_eq_some_iff.1 ho).2
 rw [hd] at h;unfold wpOpIn;simp only [List.getElem?_toArray,ho];exact h
def regionG (l:List Oper) (n:Nat):Bool:=
  (dstsOf l).Nodup&&(dstsOf l).all (fun d=>decide (d<n)) &&
  (List.range l.length).all fun i=>match l[i]? with|some o=>o.after.all fun e=>decide (e.on<i)|none=>true
theorem wpIn_region_facts {id:Nat} {l:List Oper} {t0:Array Value} {ds:List Deferred} {w0:World} {N:Nat} (n:Nat) (hm:P.follows .mixedOrders=true) (hn:t0.size=N) (hB:regionG (l.take n) N=true) (hT:tailM l n=true) (hle:n≤l.length)
    (J:World→Prop) (Ext:World→World→Prop) (G:Nat→Value→World→Prop) (hst:∀k x w w',Ext w w'→G k x w→G k x w') (hJ:J w0.drew)
    (hop:OpsOkG F dp P l.toArray Q (dstsOf (l.take n)) t0 N ds J Ext G 0 (l.take n))
    (hdone:∀(u:Nat→Value) (w:World),J w→(∀(k:Nat) (o:Oper),(l.take n)[k]? =some o→G k (valOf u o) w)→wpListIn F dp P l.toArray Q (l.drop n) {tmps:=mixFrame (dstsOf (l.take n)) u t0,defers:=ds} w):
    (Code.region id l.toArray true).wpIn F dp P Q {tmps:=t0,defers:=ds} w0:=by
 subst hn;simp only [regionG,Bool.and_eq_true,List.all_eq_true,decide_eq_true_eq] at hB;obtain ⟨⟨hnd,hlt⟩,hac⟩:=hB;simp only [tailM,List.all_eq_true,List.mem_range,Bool.or_eq_true,decide_eq_true_eq] at hT;have htk:∀ {k:Nat} {o:Oper},(l.take n)[k]? =some o↔k<n∧l[k]? =some o:=by
  intro k o;rw [List.getElem?_take];by_cases h:k<n
  · rw [if_pos h];exact ⟨fun h1=>⟨h,h1⟩,fun h1=>h1.2⟩
  · rw [if_neg h];exact ⟨fun h1=>(by cases h1),fun h1=>absurd h1.1 h⟩
 refine wpIn_region_any hm (wpAnyIn_inv (F:=F) (dp:=dp) (ops:=l.toArray)
   (fun L a w=>((∀i,n≤i→L.getD i false=false)∧∃u:Nat→Value,a= {tmps:=mixFrame (dstsOf (l.take n)) u t0,defers:=ds}∧J w∧∀(k:Nat) (o:Oper),(l.take n)[k]? =some o→L.getD k false=true→G k (valOf u o) w) ∨
     (∃m,n≤m∧m≤l.length∧(∀i,i<m→L.getD i false=true)∧(∀i,m≤i→L.getD i false=false)∧wpListIn F dp P l.toArray Q (l.drop m) a w))
   ?_ ?_ ?_ _ _ _ _ xsi (leftOf_le _ _) (fun j p hp hj=>by simp [Array.getD] at hj) (.inl ⟨fun i _=>by rw [List.size_toArray];simp [Array.getD],fun t=>t0.getD t undef,by rw [mixFrame_start],hJ,fun k o _ h=> ?_⟩))
 · intro i o ho e he;have hi:i<l.length:=(Array.getElem?_eq_some_iff.1 ho).1;rw [List.getElem?_toArray] at ho;by_cases hin:i<n
   · have h1:(l.take n)[i]? =some o:=htk.2 ⟨hin,ho⟩;have:=hac i (List.mem_range.2 (List.getElem?_eq_some_iff.1 h1).1);rw [h1] at this;have h2:=Array.all_eq_true_iff_forall_mem.1 this e he;simpa using h2
   · have h1:=hT i hi;rcases h1 with h1|h1
     · omega
     · rw [ho] at h1;simp only [Bool.and_eq_true] at h1;have h2:=Array.all_eq_true_iff_forall_mem.1 h1.2 e he;simpa using h2
 · rintro L a w i o hs ho hi hall hcl hI;rw [List.getElem?_toArray] at ho;have hil:i<l.length:=(List.getElem?_eq_some_iff.1 ho).1;have hilt:i<L.size:=by rw [hs];simpa using hil
   have ahead:n≤i→∀j,j<i→L.getD j false=true:=by
    intro hin j hj;have h1:=hT i hil;rcases h1 with h1|h1
    · omega
    · simp only [Bool.and_eq_true,decide_eq_true_eq] at h1;have hbit:((masksOf l []).getD i 0).testBit j=true:=by
       have h2:=congrArg (fun m=>Nat.testBit m j) h1.1;simp only [Nat.testBit_mod_two_pow,Nat.testBit_two_pow_sub_one,decide_eq_true hj,Bool.true_and] at h2;exact h2
      exact masks_sound hcl l [] 0 rfl (fun j=>by rw [Nat.zero_add]) (fun i hi=>by omega) i o ho hall j hbit
   have later:∀(m:Nat),n≤m→m=i→(∀j,m≤j→L.getD j false=false)→(∀j,j<m→L.getD j false=true)→wpListIn F dp P l.toArray Q (l.drop m) a w→
       wpOpIn F dp P l.toArray Q i (fun a' w'=>((∀k,n≤k→(L.setIfInBounds i true).getD k false=false)∧∃u:Nat→Value,a'= {tmps:=mixFrame (dstsOf (l.take n)) u t0,defers:=ds}∧J w'∧∀(k:Nat) (o:Oper),(l.take n)[k]? =some o→(L.setIfInBounds i true).getD k false=true→G k (valOf u o) w') ∨
         (∃m,n≤m∧m≤l.length∧(∀k,k<m→(L.setIfInBounds i true).getD k false=true)∧(∀k,m≤k→(L.setIfInBounds i true).getD k false=false)∧wpListIn F dp P l.toArray Q (l.drop m) a' w')) a w:=by
    rintro m hnm rfl hno hyes hw;refine wpOpIn_mono (fun a' w' h=> .inr ⟨m+1,by omega,by omega,fun k hk=> ?_,fun k hk=> ?_,h⟩) (wpOpIn_of_list ho hw)
    · by_cases e:k=m
      · subst e;exact set_same hilt
      · rw [set_else e];exact hyes k xo
    · rw [set_else xo];exact hno k xo
   rcases hI with ⟨hno,u,rfl,hJw,hG⟩ | ⟨m,hnm,hml,hyes,hno,hw⟩
   · by_cases hin:i<n
     · have htki:(l.take n)[i]? =some o:=htk.2 ⟨hin,ho⟩;have hok:=hop.at htki;rw [Nat.zero_add] at hok;unfold wpOpIn;simp only [List.getElem?_toArray,ho];refine hok u {tmps:=mixFrame (dstsOf (l.take n)) u t0,defers:=ds} w (fun t ht=>mixFrame_get ht) hJw (fun j p hj hp=> ?_) _ (fun v w' hv hJ' hG' hE=> ?_)
       · rw [List.getElem?_toArray] at hp;obtain ⟨e,he,hbe⟩:=Array.any_eq_true.1 hj;simp only [Bool.and_eq_true,beq_iff_eq] at hbe;have hl:=hall _ (Array.getElem_mem he) hbe.1;rw [hbe.2] at hl;have hjn:j<n:=by
          by_cases h:j<n
          · exact h
          · rw [hno j xo] at hl;cases hl
         exact hG j p (htk.2 ⟨hjn,hp⟩) hl
       · refine Or.inl ⟨fun k hk=>by rw [set_else xo];exact hno k hk,?_⟩;cases hd:o.dst with
         | none=>
          refine ⟨u,rfl,hJ',fun k p hp hk=> ?_⟩;by_cases e:k=i
          · subst e;obtain rfl:p=o:=Option.some.inj (hp.symm.trans htki);have:valOf u p=undef:=by simp [valOf,hd]
            rw [this,←hv hd];exact hG'
          · rw [set_else e] at hk;exact hst _ _ _ _ hE (hG k p hp hk)
         | some d=>
          have hdm:(dstsOf (l.take n)).contains d=true:=by
           simp only [List.contains_iff_mem];exact List.mem_filterMap.2 ⟨o,List.mem_of_getElem? htki,hd⟩
          refine ⟨fun t=>if t=d then v else u t,by simp only [Act.put,mixFrame_put hdm],hJ',fun k p hp hk=> ?_⟩;by_cases e:k=i
          · subst e;obtain rfl:p=o:=Option.some.inj (hp.symm.trans htki);simpa [valOf,hd] using hG'
          · rw [set_else e] at hk;have hne:=nodup_slot hnd htki hp (fun h=>e h.symm) hd;have:valOf (fun t=>if t=d then v else u t) p=valOf u p:=by
             unfold valOf;cases hpd:p.dst with
             | none=>rfl
             | some d'=>exact if_neg (fun h=>hne (by rw [hpd,h]))
            rw [this];exact hst _ _ _ _ hE (hG k p hp hk)
     · have hin':n=i:=by
         by_cases e:n=i
         · exact e
         · have:=ahead xo n xo;rw [hno n (Nat.le_refl _)] at this;cases this
       refine later n (Nat.le_refl _) hin' hno (fun j hj=>ahead xo j xo) (hdone u w hJw fun k p hp=>hG k p hp (ahead xo k ?_));have:=(htk.1 hp).1;omega
   · have him:m≤i:=by
       by_cases h:m≤i
       · exact h
       · have:=hyes i xo;rw [hi] at this;cases this
     have hmi:m=i:=by
      by_cases e:m=i
      · exact e
      · have:=ahead xo m xo;rw [hno m (Nat.le_refl _)] at this;cases this
     exact later m hnm hmi hno hyes hw
 · rintro L a w hs hall hI;rw [List.size_toArray] at hall;rcases hI with ⟨hno,u,rfl,hJw,hG⟩ | ⟨m,hnm,hml,hyes,hno,hw⟩
   · have hnl:n=l.length:=by
       by_cases e:n=l.length
       · exact e
       · have:=hall n xo;rw [hno n (Nat.le_refl _)] at this;cases this
     have hq:=hdone u w hJw fun k p hp=>hG k p hp (hall k (by have:=(htk.1 hp).1;omega))
     have hd:l.drop n=[]:=by rw [hnl];exact List.drop_length
     rw [hd] at hq;exact hq
   · have hml':m=l.length:=by
       by_cases e:m=l.length
       · exact e
       · have:=hall m xo;rw [hno m (Nat.le_refl _)] at this;cases this
     rw [hml',List.drop_length] at hw;exact hw
 · rw [List.size_toArray] at h;simp [Array.getD] at h
end
theorem wanted_yes {ops:Array Oper} {tmps:Array Value} {o:Oper} {j t:Nat} {b:Bool} (hg:o.guard=some (j,b)) (hd:(ops[j]?).bind (·.dst)=some t) (h:tmps.getD t undef= .bool b):Region.wanted o (yielded ops tmps)=true:=by
 have h2:tmps[t]? =some (.bool b):=by
  cases hx:tmps[t]? with
  | none=>rw [Array.getD_eq_getD_getElem?,hx] at h;cases h
  | some v=>rw [Array.getD_eq_getD_getElem?,hx] at h;simp at h;rw [h]
 simp [Region.wanted,hg,yielded,hd,h2]
theorem wanted_no {ops:Array Oper} {tmps:Array Value} {o:Oper} {j t:Nat} {b:Bool} (hg:o.guard=some (j,b)) (hd:(ops[j]?).bind (·.dst)=some t) (h:tmps.getD t undef= .bool (!b)):Region.wanted o (yielded ops tmps)=false:=by
 have h2:tmps[t]? =some (.bool (!b)):=by
  cases hx:tmps[t]? with
  | none=>rw [Array.getD_eq_getD_getElem?,hx] at h;cases h
  | some v=>rw [Array.getD_eq_getD_getElem?,hx] at h;simp at h;rw [h]
 simp [Region.wanted,hg,yielded,hd,h2]
theorem wanted_free {ops:Array Oper} {tmps:Array Value} {o:Oper} (hg:o.guard=none):Region.wanted o (yielded ops tmps)=true:=by simp [Region.wanted,hg]
end
section
open Go.RowKit Go.Shelf
attribute [local go_sem] Oper.semAt_some
def AnsB (w:World) (v:Value) (e:Ending) (w':World):Prop:=e= .returned v∧Below w.heap.size w w'
structure CntI (ws:List Int) (a b bo B:Nat) (w:World) (k:Nat) (W:World):Prop where
 box:W.cell? ⟨bo,0,none⟩=some (.int .i64 (cntP ws a b k))
 fz:W.frozen? ⟨bo,0,none⟩=false
 bel:Below B w W
theorem CntI.calm {ws:List Int} {a b bo B M:Nat} {w:World} {k:Nat} {W W':World} (h:CntI ws a b bo B w k W) (hc:Calm M W W') (hB:B≤M):CntI ws a b bo B w k W':=
  ⟨hc.cell h.box,hc.frozen h.box h.fz,hc.below hB h.bel⟩
theorem Count_ok (wa:Option Addr) (wc:Nat) (ws:List Int) (hu:U64s ws) (n a b:Nat) (hn:n≤65536) (hl:ws.length≤1000000000000) (hmay:wMayB ws n=true) (hab:a≤b) (hbn:b≤n) (w:World) (hw:IsRow .u64 w wa ws):
    Calls Tryd.prog 33 #[.slice wa ws.length wc,.int .i64 n,.int .i64 a,.int .i64 b] w (AnsB w (.tuple #[.int .i64 (cntW ws a b),.int .i64 0])):=by
 have AK:=hid (fun w hw=>asked_ok wa wc ws hu n hn hl hmay w hw);have hlen:n≤64*ws.length:=by
  simp only [wMayB,Bool.and_eq_true,decide_eq_true_eq] at hmay;omega
 have IT:=hid (fun S b1 b2 b3 s1 s2 s3 sw w hw c1 c2 c3=>parts1_iter wa wc ws hu a b hab xo xo hl S b1 b2 b3 s1 s2 s3 sw w hw c1 c2 c3);have HW:=hid hw;have HC:=hid (cntP_all hu hab);have HLT:=hid (fun x (h:wa=some x) (h0:0<ws.length)=>(show x.block<w.heap.size from by
  obtain ⟨bb,off,x',hx,-,-,hlt⟩:=hw.get h0;rw [hx] at h;cases h;exact hlt))
 obtain ⟨m,hm⟩:∃m,(b+63)/64-a/64=m:=⟨_,rfl⟩
 have HP:=hid (fun k (hk:k<m)=>partsL_get ws (a:=a) (b:=b) (k:=k) xo);have HPL:=hid ((partsL_length ws a b).trans hm);have HV:=hid (fun k (hk:k<m)=>cutV_bd hu (a:=a) (b:=b) (k:=a/64+k) xo);have HLE:=hid (cntP_le (ws:=ws) a b);have HS:=hid (cntP_succ ws a b);have hmb:m≤1024:=xo;rw [hm] at HC;obtain ⟨M,hM⟩:∃M,ws.length=M:=⟨_,rfl⟩
 have HM:=hid hM;rw [hM] at hlen hl AK IT HLT ⊢;clear hw hmay hM hu hm;refine calls_of_wp_m Tryd.func33 rfl ?_;simp only [Tryd.ntmps33,List.size_toArray,List.length_cons,List.length_nil,Nat.reduceAdd,Nat.reduceSub,Array.replicate_succ,Array.replicate_zero,List.push_toArray,List.append_toArray,List.nil_append,List.cons_append];go_wp2_with fail
 refine (AK.out _ (HW.out.below (br.alloc (Nat.le_refl _) _))).mono ?_;rintro e w' ⟨rfl,rfl⟩;go_wp2_with fail
 refine (parts_ok wa M wc a b _).mono ?_;rintro e w2 ⟨rfl,rfl⟩;go_wp2
 refine wp_range (xs:=partsL ws a b) (Kp:=KpS (fun k=>k≠w.heap.size∧k<w.heap.size+4)) rfl (enters_of Tryd.func82 xk rfl)
   (IT.out (fun k=>k≠w.heap.size∧k<w.heap.size+4) (w.heap.size+1) (w.heap.size+1+1) (w.heap.size+1+2) xo xo xo ?sw _ ?hw ?c1 ?c2 ?c3) br (fun _ _ _=>rfl) (fun h k=>fun i hi=>(k i hi).trans (h i hi)) ?kb ?ps
   (CntI ws a b w.heap.size w.heap.size w) (fun _ _=>False) ?hI (fun _ _ _ h _=>h) ?h0 ?round ?done (fun _ _ _ _ h _=>h.elim)
 case sw=>intro x hx h0;have:=HLT.out x hx h0;omega
 case hw=>exact HW.out.below xbel
 case c1=>(exact xcn)
 case c2=>(exact xcn)
 case c3=>(exact xcn)
 case kb=>
  intro W l o o' hl _ _ k hk;simp at hl;exact World.putObj_heap_other xo
 case ps=>
  intro x hx;simp only [partsL,List.mem_map] at hx;obtain ⟨k,_,rfl⟩:=hx;rfl
 case hI=>
  intro k W W' h hc;exact h.calm hc (by simp;omega)
 case h0=>
  exact ⟨by rw [cntP_zero];(exact xcn),by (exact xcn),by (exact xbel)⟩
 case round=>
  intro l k W hl hk hi;rw [HPL.out] at hk;rw [HP.out k hk];have hv:=HV.out k hk;have h1:=HLE.out k;have h2:=popI_le (cutV ws a b (a/64+k));have h3:=HS.out k;have O1:=hid (fun W=>Ones_ok (cutV ws a b (a/64+k)) hv.1 hv.2 W);generalize cutV ws a b (a/64+k)=x at *;generalize popI x=px at *;gi_wp2
  refine ⟨rfl,?_⟩;intro W2 hi2;have hcb:=hi2.box;have hfz:=hi2.fz;generalize cntP ws a b k=s at *;have H3:=hid h3;clear h3;gi_wp2
  refine wpIn_region_facts 4 xk (N:=42) rfl xk xk xdd (fun w'=>w'=W2.drew) (Ext 29) (factAt [.is (.int .i64 s),.is (.int .u64 x),.is (.int .i64 px),.is (.int .i64 (s+px))]) (factAt_stays _) rfl ?steps ?fin
  case steps=>
   refine ⟨?o0,?o1,?o2,?o3,trivial⟩
   case o0=>
    intro u a w' ev hJ hd K hK;have e1:tg a 8= .pointer (some ⟨w.heap.size,0,none⟩):=ev 8 xdd;have HK:=hid hK;subst hJ;clear hK ev hd;rw [if_pos (wanted_free rfl)];go_simp;exact HK.out _ _ xzc rfl rfl (Ext.refl _ _)
   case o1=>
    intro u a w' ev hJ hd K hK;have e1:tg a 12= .int .u64 x:=ev 12 xdd;have HK:=hid hK;subst hJ;clear hK ev hd;rw [if_pos (wanted_free rfl)];go_simp;exact HK.out _ _ xzc rfl rfl (Ext.refl _ _)
   case o2=>
    intro u a w' ev hJ hd K hK;have e1:tg a 38= .int .u64 x:=(ev 38 xdd).trans (hd 1 _ xk rfl);have HK:=hid hK;subst hJ;clear hK ev hd;rw [if_pos (wanted_free rfl)];go_simp;refine ⟨trivial,rfl,(callsIn_wide.2 (O1.out _)).mono ?_⟩;rintro e w'' ⟨rfl,rfl⟩;exact HK.out _ _ xzc rfl rfl (Ext.refl _ _)
   case o3=>
    intro u a w' ev hJ hd K hK;have e1:tg a 37= .int .i64 s:=(ev 37 xdd).trans (hd 0 _ xk rfl);have e2:tg a 39= .int .i64 px:=(ev 39 xdd).trans (hd 2 _ xk rfl);have HK:=hid hK;have hwr:IntKind.i64.wrap ((s:Int)+(px:Int))=(s:Int)+(px:Int):=IntWalk.i64_in _ xo;subst hJ;clear hK ev hd;rw [if_pos (wanted_free rfl)];go_simp;exact HK.out _ _ xzc rfl rfl (Ext.refl _ _)
  case fin=>
   intro u w2 hJ hG;have h3:u 40= .int .i64 (s+px):=hG 3 _ rfl;subst hJ;clear hG;simp only [mixFrame,mixL,dstsOf,List.take_succ_cons,List.take_zero,List.filterMap_cons,List.filterMap_nil,List.contains_cons,List.contains_nil,Nat.reduceBEq,Bool.or_false,Bool.false_or,Bool.or_true,Bool.true_or,if_true,if_false,Bool.false_eq_true,Nat.reduceAdd,Nat.zero_add,List.drop_succ_cons,List.drop_zero,h3];gi_wp2
   have e:((cntP ws a b (k+1):Nat):Int)=(s:Int)+(px:Int):=by rw [H3.out];push_cast;rfl
   refine ⟨(KeepsOthers.setCell W2 ⟨w.heap.size,0,none⟩ (.int .i64 ((s:Int)+px))).trans (keeps_drewN _ 1),fun i hi=>Below.heap_setCell W2 ⟨w.heap.size,0,none⟩ _ _ hi.1,⟨?_,?_,?_⟩⟩
   · rw [e];exact World.cell?_setCell_same _ _ _ hcb
   · rw [World.frozen?_drew,World.frozen?_setCell];exact hfz
   · exact (hi2.bel.setCell (Nat.le_refl _) _).drew
 case done=>
  intro D W hD hi hK;have hcb:=hi.box;have hfz:=hi.fz;rw [HPL.out,HC.out] at hcb;generalize cntW ws a b=s at *;go_wp2
  simp at hD;have hK2:(W.setCell ⟨w.heap.size,0,none⟩ (.int .i64 s)).heap[D]? =some (.deferred (some [])):=(Below.heap_setCell _ _ _ _ (by show D≠w.heap.size;omega)).trans hK;have hcalm:Calm (w.heap.size+1) (W.setCell ⟨w.heap.size,0,none⟩ (.int .i64 s)) ((W.setCell ⟨w.heap.size,0,none⟩ (.int .i64 s)).putObj D (.deferred none)):=Calm.putObj _ xo hK2 rfl;exact postM_one hK2 (results_ct rfl rfl (run_loadVar_one Tryd.underlying3 rfl (hcalm.cell (World.cell?_setCell_same _ _ _ hcb)))) ⟨rfl,hcalm.below xo (hi.bel.setCell (Nat.le_refl _) _)⟩
end
end Go.Proofs.YtmnlagmmbfjbeaaDoor

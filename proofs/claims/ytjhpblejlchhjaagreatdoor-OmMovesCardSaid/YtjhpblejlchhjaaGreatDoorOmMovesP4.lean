/- Merged: InvLate, ConfW, ConfC, ConfF. -/
import Derived.Test.YtjhpblejlchhjaaGreatDoorOmMovesP3
import Derived.Lib.QuietBelow
import Derived.Deep.CutRange
namespace Go.Proofs.YtjhpblejlchhjaaGreatDoor
set_option maxRecDepth 100000
set_option maxHeartbeats 40000000
set_option linter.unusedVariables false
set_option linter.unusedSimpArgs false
section
open Go.RowKit
section
variable {P:Program} {ops:Array Oper} {Q:Exit→Act→World→Prop}
theorem wpAny_invL (I:Array Bool→Act→World→Prop)
    (hac:∀(i:Nat) (o:Oper),ops[i]? =some o→∀e ∈ o.after,Region.binds .any e=true→e.on<i)
    (step:∀(L:Array Bool) (a:Act) (w:World) (i:Nat) (o:Oper),L.size=ops.size→ops[i]? =some o→L.getD i false=false→
      (∀e ∈ o.after,Region.binds .any e=true→L.getD e.on false=true)→ClosedL ops L→I L a w→wpOp P ops Q i (I (L.setIfInBounds i true)) a w)
    (done:∀(L:Array Bool) (a:Act) (w:World),L.size=ops.size→(∀i,i<ops.size→L.getD i false=true)→I L a w→Q .normal a w):
    ∀(f:Nat) (L:Array Bool) (a:Act) (w:World),L.size=ops.size→leftOf L ops.size≤f→ClosedL ops L→I L a w→wpAny P .any ops Q f L a w:=by
 have none_ready:∀(L:Array Bool),L.size=ops.size→Region.ready .any ops L=[]→∀i,i<ops.size→L.getD i false=true:=by
  intro L hs hr i;induction i using Nat.strongRecOn with
  | ind i ih=>
   intro hi;cases hc:L.getD i false with
   | true=>rfl
   | false=>
    have hm:i ∈ Region.ready .any ops L:=by
     refine mem_ready.2 ⟨?_,ops[i],Array.getElem?_eq_some_iff.2 ⟨hi,rfl⟩,fun e he hb=> ?_⟩
     · have h1:i<L.size:=xo;simp [h1] at hc ⊢;exact hc
     · have:=hac i ops[i] (Array.getElem?_eq_some_iff.2 ⟨hi,rfl⟩) e he hb;exact ih e.on this xo
    rw [hr] at hm;cases hm
 intro f;induction f with
 | zero=>
  intro L a w hs hl hcl hI;have hall:=leftOf_zero (L:=L) ops.size xo;refine ⟨?_,done L a w hs hall hI⟩;rw [List.eq_nil_iff_forall_not_mem];intro i hi;obtain ⟨h1,o,ho,_⟩:=mem_ready.1 hi;have hlt:=(Array.getElem?_eq_some_iff.1 ho).1;have h2:=hall i hlt;have h3:i<L.size:=xo;simp [h3] at h1 h2;rw [h1] at h2;cases h2
 | succ f ih=>
  intro L a w hs hl hcl hI;refine ⟨fun hr=>done L a w hs (none_ready L hs hr) hI,fun i hi=> ?_⟩;obtain ⟨h1,o,ho,hall⟩:=mem_ready.1 hi;have hlt:=(Array.getElem?_eq_some_iff.1 ho).1;have h3:i<L.size:=xo;have h4:L.getD i false=false:=by simp [h3] at h1 ⊢;exact h1
  refine wpOp_mono (fun a' w' hI'=>ih _ a' w' (by simpa using hs) ?_ (hcl.set h3 ho hall) hI') (step L a w i o hs ho h4 hall hcl hI);have:=leftOf_set h3 h4 ops.size hlt;omega
def regionL (l:List Oper) (n:Nat):Bool:=
  (dstsOf l).Nodup&&(dstsOf l).all (fun d=>decide (d<n))&&l.all (fun o=>o.guard.isNone) &&
  (List.range l.length).all fun i=>match l[i]? with|some o=>o.after.all fun e=> !Region.binds .any e||decide (e.on<i)|none=>true
def tailL (l:List Oper) (n:Nat):Bool:=
  (List.range l.length).all fun i=>decide (i<n)||(decide ((masksOf l []).getD i 0%2^i=2^i-1)&&match l[i]? with|some o=>o.after.all (fun e=> !Region.binds .any e||decide (e.on<i))|none=>true)
theorem wp_region_late {id:Nat} {l:List Oper} {t0:Array Value} {ds:List Deferred} {w0:World} {N:Nat} (n:Nat) (hm:P.follows .mixedOrders=true) (hn:t0.size=N) (hB:regionL (l.take n) N=true) (hT:tailL l n=true) (hle:n≤l.length)
    (J:World→Prop) (Ext:World→World→Prop) (G:Nat→Value→World→Prop) (hst:∀k x w w',Ext w w'→G k x w→G k x w') (hJ:J w0.drew)
    (hop:OpsOk P l.toArray Q (dstsOf (l.take n)) t0 N ds J Ext G 0 (l.take n))
    (hdone:∀(u:Nat→Value) (w:World),J w→(∀(k:Nat) (o:Oper),(l.take n)[k]? =some o→G k (valOf u o) w)→wpList P l.toArray Q (l.drop n) {tmps:=mixFrame (dstsOf (l.take n)) u t0,defers:=ds} w):
    (Code.region id l.toArray true).wp P Q {tmps:=t0,defers:=ds} w0:=by
 subst hn;simp only [regionL,Bool.and_eq_true,List.all_eq_true,decide_eq_true_eq] at hB;obtain ⟨⟨⟨hnd,hlt⟩,hgd⟩,hac⟩:=hB;simp only [tailL,List.all_eq_true,List.mem_range,Bool.or_eq_true,decide_eq_true_eq] at hT;have htk:∀ {k:Nat} {o:Oper},(l.take n)[k]? =some o↔k<n∧l[k]? =some o:=by
  intro k o;rw [List.getElem?_take];by_cases h:k<n
  · rw [if_pos h];exact ⟨fun h1=>⟨h,h1⟩,fun h1=>h1.2⟩
  · rw [if_neg h];exact ⟨fun h1=>(by cases h1),fun h1=>absurd h1.1 h⟩
 refine wp_region_any hm (wpAny_invL (ops:=l.toArray)
   (fun L a w=>((∀i,n≤i→L.getD i false=false)∧∃u:Nat→Value,a= {tmps:=mixFrame (dstsOf (l.take n)) u t0,defers:=ds}∧J w∧∀(k:Nat) (o:Oper),(l.take n)[k]? =some o→L.getD k false=true→G k (valOf u o) w) ∨
     (∃m,n≤m∧m≤l.length∧(∀i,i<m→L.getD i false=true)∧(∀i,m≤i→L.getD i false=false)∧wpList P l.toArray Q (l.drop m) a w))
   ?_ ?_ ?_ _ _ _ _ xsi (leftOf_le _ _) (fun j p hp hj=>by simp [Array.getD] at hj) (.inl ⟨fun i _=>by rw [List.size_toArray];simp [Array.getD],fun t=>t0.getD t undef,by rw [mixFrame_start],hJ,fun k o _ h=> ?_⟩))
 · intro i o ho e he hb;have hi:i<l.length:=(Array.getElem?_eq_some_iff.1 ho).1;rw [List.getElem?_toArray] at ho;by_cases hin:i<n
   · have h1:(l.take n)[i]? =some o:=htk.2 ⟨hin,ho⟩;have:=hac i (List.mem_range.2 (List.getElem?_eq_some_iff.1 h1).1);rw [h1] at this;have h2:=Array.all_eq_true_iff_forall_mem.1 this e he;rw [hb] at h2;simpa using h2
   · have h1:=hT i hi;rcases h1 with h1|h1
     · omega
     · rw [ho] at h1;simp only [Bool.and_eq_true] at h1;have h2:=Array.all_eq_true_iff_forall_mem.1 h1.2 e he;rw [hb] at h2;simpa using h2
 · rintro L a w i o hs ho hi hall hcl hI;rw [List.getElem?_toArray] at ho;have hil:i<l.length:=(List.getElem?_eq_some_iff.1 ho).1;have hilt:i<L.size:=by rw [hs];simpa using hil
   have ahead:n≤i→∀j,j<i→L.getD j false=true:=by
    intro hin j hj;have h1:=hT i hil;rcases h1 with h1|h1
    · omega
    · simp only [Bool.and_eq_true,decide_eq_true_eq] at h1;have hbit:((masksOf l []).getD i 0).testBit j=true:=by
       have h2:=congrArg (fun m=>Nat.testBit m j) h1.1;simp only [Nat.testBit_mod_two_pow,Nat.testBit_two_pow_sub_one,decide_eq_true hj,Bool.true_and] at h2;exact h2
      exact masks_sound hcl l [] 0 rfl (fun j=>by rw [Nat.zero_add]) (fun i hi=>by omega) i o ho hall j hbit
   have later:∀(m:Nat),n≤m→m=i→(∀j,m≤j→L.getD j false=false)→(∀j,j<m→L.getD j false=true)→wpList P l.toArray Q (l.drop m) a w→
       wpOp P l.toArray Q i (fun a' w'=>((∀k,n≤k→(L.setIfInBounds i true).getD k false=false)∧∃u:Nat→Value,a'= {tmps:=mixFrame (dstsOf (l.take n)) u t0,defers:=ds}∧J w'∧∀(k:Nat) (o:Oper),(l.take n)[k]? =some o→(L.setIfInBounds i true).getD k false=true→G k (valOf u o) w') ∨
         (∃m,n≤m∧m≤l.length∧(∀k,k<m→(L.setIfInBounds i true).getD k false=true)∧(∀k,m≤k→(L.setIfInBounds i true).getD k false=false)∧wpList P l.toArray Q (l.drop m) a' w')) a w:=by
    rintro m hnm rfl hno hyes hw;refine wpOp_mono (fun a' w' h=> .inr ⟨m+1,by omega,by omega,fun k hk=> ?_,fun k hk=> ?_,h⟩) (wpOp_of_list ho hw)
    · by_cases e:k=m
      · subst e;exact set_same hilt
      · rw [set_else e];exact hyes k xo
    · rw [set_else xo];exact hno k xo
   rcases hI with ⟨hno,u,rfl,hJw,hG⟩ | ⟨m,hnm,hml,hyes,hno,hw⟩
   · by_cases hin:i<n
     · have htki:(l.take n)[i]? =some o:=htk.2 ⟨hin,ho⟩;have hok:=hop.at htki;rw [Nat.zero_add] at hok;have hg:o.guard=none:=by
        have:=hgd o (List.mem_of_getElem? htki);cases hx:o.guard with
        | none=>rfl
        | some x=>rw [hx] at this;cases this
       unfold wpOp;simp only [List.getElem?_toArray,ho];rw [if_pos (by simp [Region.wanted,hg])];left;refine hok u _ w (fun t ht=>mixFrame_get ht) hJw (fun j p hj hp=> ?_) _ (fun v w' hv hJ' hG' hE=> .inl ⟨fun k hk=>by rw [set_else xo];exact hno k hk,?_⟩)
       · rw [List.getElem?_toArray] at hp;obtain ⟨e,he,hbe⟩:=Array.any_eq_true.1 hj;simp only [Bool.and_eq_true,beq_iff_eq] at hbe;have hl:=hall _ (Array.getElem_mem he) hbe.1;rw [hbe.2] at hl;have hjn:j<n:=by
          by_cases h:j<n
          · exact h
          · rw [hno j xo] at hl;cases hl
         exact hG j p (htk.2 ⟨hjn,hp⟩) hl
       · cases hd:o.dst with
         | none=>
          refine ⟨u,rfl,hJ',fun k p hp hk=> ?_⟩;by_cases e:k=i
          · subst e;obtain rfl:p=o:=Option.some.inj (hp.symm.trans htki);have:valOf u p=undef:=by simp [valOf,hd]
            rw [this,←hv hd];exact hG'
          · rw [set_else e] at hk;exact hst _ _ _ _ hE (hG k p hp hk)
         | some d=>
          have hdm:(dstsOf (l.take n)).contains d=true:=by
           simp only [List.contains_iff_mem];exact List.mem_filterMap.2 ⟨o,List.mem_of_getElem? htki,hd⟩
          refine ⟨fun t=>if t=d then v else u t,by simp only [Act.put,mixFrame_put hdm],hJ',fun k p hp hk=> ?_⟩;by_cases e:k=i
          · subst e;obtain rfl:p=o:=Option.some.inj (hp.symm.trans htki);simpa [valOf,hd] using hG'
          · rw [set_else e] at hk;have hne:=nodup_slot hnd htki hp (fun h=>e h.symm) hd;have:valOf (fun t=>if t=d then v else u t) p=valOf u p:=by
             unfold valOf;cases hpd:p.dst with
             | none=>rfl
             | some d'=>exact if_neg (fun h=>hne (by rw [hpd,h]))
            rw [this];exact hst _ _ _ _ hE (hG k p hp hk)
     · have hin':n=i:=by
         by_cases e:n=i
         · exact e
         · have:=ahead xo n xo;rw [hno n (Nat.le_refl _)] at this;cases this
       refine later n (Nat.le_refl _) hin' hno (fun j hj=>ahead xo j xo) (hdone u w hJw fun k p hp=>hG k p hp (ahead xo k ?_));have:=(htk.1 hp).1;omega
   · have him:m≤i:=by
       by_cases h:m≤i
       · exact h
       · have:=hyes i xo;rw [hi] at this;cases this
     have hmi:m=i:=by
      by_cases e:m=i
      · exact e
      · have:=ahead xo m xo;rw [hno m (Nat.le_refl _)] at this;cases this
     exact later m hnm hmi hno hyes hw
 · rintro L a w hs hall hI;rw [List.size_toArray] at hall;rcases hI with ⟨hno,u,rfl,hJw,hG⟩ | ⟨m,hnm,hml,hyes,hno,hw⟩
   · have hnl:n=l.length:=by
       by_cases e:n=l.length
       · exact e
       · have:=hall n xo;rw [hno n (Nat.le_refl _)] at this;cases this
     have hq:=hdone u w hJw fun k p hp=>hG k p hp (hall k (by have:=(htk.1 hp).1;omega))
     have hd:l.drop n=[]:=by rw [hnl];exact List.drop_length
     rw [hd] at hq;exact hq
   · have hml':m=l.length:=by
       by_cases e:m=l.length
       · exact e
       · have:=hall m xo;rw [hno m (Nat.le_refl _)] at this;cases this
     rw [hml',List.drop_length] at hw;exact hw
 · rw [List.size_toArray] at h;simp [Array.getD] at h
end
end
section
open Go.RowKit Go.Shelf
attribute [local go_sem] Oper.semAt_some
theorem mul_bd {a b A B:Int} (h0:0≤a) (h1:a≤A) (h2:0≤b) (h3:b≤B):0≤a*b∧a*b≤A*B:=
  ⟨Int.mul_nonneg h0 h2,Int.mul_le_mul h1 h3 h2 (Int.le_trans h0 h1)⟩
theorem cfHead_num {c:Cfg} (h:cfHead c=true):1≤c.tag∧c.tag≤3∧1≤c.most∧c.most≤16384∧4≤c.seg∧c.seg≤64∧c.seg≤c.least∧c.least≤256∧1≤c.den∧c.den≤64∧0≤c.ll∧c.ll<c.rl∧c.rl<c.rh∧c.rh<c.lh∧c.lh≤c.den∧c.den≤2*c.rh∧8*c.rl≤c.den∧2*c.den≤c.rl*c.least∧c.rl*c.least≤64*256∧0≤c.rl*c.least:=by
 obtain ⟨h1,h2,h3,h4,h5,h6,h7,h8,h9,h10,h11,h12,h13,h14,h15,h16⟩:=cfHead_facts h;have s:=powB_iff.1 h5;have l:=powB_iff.1 h6;have q:=mul_bd (show 0≤c.rl by omega) (show c.rl≤64 by omega) (show 0≤c.least by omega) l.2.1;exact ⟨h1,h2,h3,h4,s.1,s.2.1,l.1,l.2.1,h7,h8,h9,h10,h11,h12,h13,h14,h15,h16,q.2,q.1⟩
theorem taks_bd {c:Cfg} (h:cfHead c=true) {n:Int} (h0:0≤n) (h1:n≤16384):1≤taks c n∧taks c n≤65536∧c.least≤taks c n:=by
 have f:=cfHead_num h;have a:=takF_bd (c:=c) (n:=n) 20 c.least xo;have b:=takF_le (c:=c) (n:=n) xo xo h0 20 c.least 65536 xo xo;unfold taks;exact ⟨by omega,b,a.1⟩
theorem htC_bd {c:Cfg} (h:1≤c.seg) {size:Int} (h0:0≤size) (h1:size≤65536):htC c size≤16:=by
 have hq0:0≤size/c.seg:=Int.ediv_nonneg h0 xo;have hq1:size/c.seg≤65536:=Int.le_trans (Int.ediv_le_self _ h0) h1;unfold htC;generalize size/c.seg=q at *;by_cases hz:q.toNat=0
 · rw [hz];decide
 · have:q.toNat.log2<17:=(Nat.log2_lt hz).2 xo;omega
theorem wdC_bd {c:Cfg} {a H h:Nat} (hs:c.seg=((2^a:Nat):Int)) (hb:2^a*2^H≤65536) (hh:h≤H):0≤wdC c h∧wdC c h≤65536:=by
 have e:wdC c h=((2^a*2^h:Nat):Int):=by rw [wdC,hs];push_cast;rfl
 have:2^a*2^h≤2^a*2^H:=Nat.mul_le_mul_left _ (Nat.pow_le_pow_right xo hh);rw [e];omega
theorem tak_turn {c:Cfg} {n size T X Y:Int} {k:Nat} (hX:n*c.den=X) (hY:c.rh*size=Y) (h0:0≤n) (h1:n≤16384) (h6:1≤c.rh) (h8:c.den≤2*c.rh) (hK:takF c n k size=T∧X≤size*2^k) (z0:0≤size) (hY2:size≤Y):
    (¬Y<X→size=T)∧(Y<X→size≤32768∧∃j,k=j+1∧takF c n j (2*size)=T∧X≤2*size*2^j):=by
 obtain ⟨k1,k2⟩:=hK;constructor
 · intro hlt;rw [takF_done (by rw [hX,hY];exact hlt)] at k1;exact k1
 · intro hlt;constructor
   · have h9:n*c.den≤n*(2*c.rh):=Int.mul_le_mul_of_nonneg_left h8 h0;have h10:n*(2*c.rh)=c.rh*(2*n):=by rw [Int.mul_comm n,Int.mul_assoc,Int.mul_left_comm]
     have:=Int.lt_of_mul_lt_mul_left (show c.rh*size<c.rh*(2*n) by omega) xo;omega
   · cases k with
     | zero=>
      simp at k2;omega
     | succ j=>
      rw [takF,if_pos (by rw [hX,hY];exact hlt)] at k1;refine ⟨j,rfl,k1,?_⟩;rw [Int.pow_succ] at k2;have:2*size*2^j=size*(2^j*2):=by rw [Int.mul_comm 2 size,Int.mul_assoc,Int.mul_comm 2]
      omega
theorem tak_start {c:Cfg} {n:Int} (h0:0≤n) (h1:n≤16384) (h2:1≤c.least) (h4:1≤c.den) (h5:c.den≤64):n*c.den≤c.least*2^20∧0≤n*c.den∧n*c.den≤16384*64:=by
 have m:=mul_bd h0 h1 (show 0≤c.den by omega) h5;have:=Int.mul_le_mul_of_nonneg_right h2 (show (0:Int)≤2^20 by decide);have e:(2:Int)^20=1048576:=by decide
 rw [e] at this ⊢;exact ⟨by omega,m⟩
theorem takes_ok (c:Cfg) (hc:cfHead c=true) (n:Int) (h0:0≤n) (h1:n≤16384) (w:World):
    Calls Tryz.prog 139 #[.agg #[.int .u8 c.tag,.int .i64 c.most,.int .i64 c.seg,.int .i64 c.least,.int .i64 c.den,.int .i64 c.ll,.int .i64 c.rl,.int .i64 c.rh,.int .i64 c.lh],.int .i64 n] w (AnsB w (.int .i64 (taks c n))):=by
 obtain ⟨d0,d1,d2,d3,d4,d5,d6,d7,d8,d9,d10,d11,d12,d13,d14,d15,d16,d17⟩:=cfHead_num hc;obtain ⟨s1,s2,s3⟩:=tak_start (c:=c) h0 h1 xo d8 d9;have HQ:=hid (And.intro h0 (And.intro h1 (And.intro (show 1≤c.rh by omega) d15)));unfold taks;obtain ⟨T,hT⟩:∃T,takF c n 20 c.least=T:=⟨_,rfl⟩
 rw [hT];have HT:=hid hT;obtain ⟨X,hX⟩:∃X,n*c.den=X:=⟨_,rfl⟩
 rw [hX] at s1 s2 s3;have HX:=hid hX;have H1:=hid s1;have hl1:1≤c.least:=xo;have hrb:1≤c.rh∧c.rh≤64:=xo;clear hT hX s1 hc d17;obtain ⟨hr1,hr2⟩:=hrb;have CR:=hid (fun size (z0:SmI size) W=>Cross_ok n size c.rh c.den ⟨by omega,by omega⟩ z0 ⟨by omega,by omega⟩ ⟨by omega,by omega⟩ W);generalize hrh:c.rh=rh at *;generalize hden:c.den=den at *;generalize hle:c.least=le at *;have HE:=hid (And.intro hrh (And.intro hden hle));clear hrh hden hle;go_enter Tryz.func139,Tryz.ntmps139
 go_wp2
 refine wp_scope_loop 0 (fun g a' w'=>∃size:Int,(∃u:Nat→Value,a'= {tmps:= #[.agg #[.int .u8 c.tag,.int .i64 c.most,.int .i64 c.seg,.int .i64 le,.int .i64 den,.int .i64 c.ll,.int .i64 c.rl,.int .i64 rh,.int .i64 c.lh],.int .i64 n,.pointer (some ⟨w.heap.size,0,none⟩),u 3,u 4,.int .i64 size,u 6,u 7,u 8,u 9,u 10,u 11,u 12,u 13,u 14,u 15,u 16,u 17,u 18,u 19,u 20,u 21,u 22,u 23,u 24],defers:=[]})∧Hid (Below w.heap.size w w')∧w.heap.size<w'.heap.size∧w'.cell? ⟨w.heap.size,7,none⟩=some (.int .i64 rh)∧w'.cell? ⟨w.heap.size,4,none⟩=some (.int .i64 den)∧0≤size∧size≤65536∧Hid (takF c n g size=T∧X≤size*2^g)) rfl ?_ ?_
 · rintro g a wo ⟨size,⟨u,rfl⟩,HB,hz,c7,c4,z0,z1,HK⟩ H hH;obtain ⟨Y,hY⟩:∃Y,rh*size=Y:=⟨_,rfl⟩
   have hY2:size≤Y:=by
    rw [←hY];have a2:=Int.mul_le_mul_of_nonneg_right hr1 z0;omega
   have tt:=tak_turn (by rw [HE.out.2.1];exact HX.out) (by rw [HE.out.1];exact hY) HQ.out.1 HQ.out.2.1 (by have:=HQ.out.2.2.1;have:=HE.out;omega) (by have:=HQ.out.2.2.2;have:=HE.out;omega) HK.out z0 hY2;have cv:crossV n size rh den=if Y<X then 1 else if X<Y then -1 else 0:=by
    unfold crossV;have e1:size*rh=Y:=by rw [Int.mul_comm];exact hY
    have e2:n*den=X:=HX.out;rw [e1,e2];split<;>split<;>(try split)<;>first|rfl|omega
   have C1:=hid (CR.out size ⟨by omega,by omega⟩);rw [cv] at C1;clear CR cv hY hY2 HK;have hzw:=HB.out.size;by_cases hlt:Y<X
   · rw [if_pos hlt] at C1;obtain ⟨hs,j,rfl,hj⟩:=tt.2 hlt;have HJ:=hid hj;clear tt hj;go_wp2_with fail
     refine (C1.out _).mono ?_;rintro e w1 ⟨rfl,hb1⟩;have b7:=(hb1.cell (p:=⟨w.heap.size,7,none⟩) hz).trans c7;have b4:=(hb1.cell (p:=⟨w.heap.size,4,none⟩) hz).trans c4;have hz1:=hb1.size;have HB1:=hid (below_via hb1 HB.out hzw);clear hb1 c7 c4;go_wp2
     refine wp_goto ?_;refine show (0=0∧H _ _) from ⟨rfl,hH j _ _ xo ⟨2*size,frame_mk _ _ _ ?_,HB1,by omega,b7,b4,by omega,by omega,HJ⟩⟩
     rw [show 2*size=size*2 by omega];rfl
   · rw [if_neg hlt] at C1;have hfin:=tt.1 hlt;subst hfin;clear tt;obtain ⟨v,hv⟩:∃v:Int,(if X<Y then (-1:Int) else 0)=v:=⟨_,rfl⟩
     have hv0:v≤0:=by rw [←hv];split<;>omega
     rw [hv] at C1;clear hv;go_wp2_with fail
     refine (C1.out _).mono ?_;rintro e w1 ⟨rfl,hb1⟩;have HB1:=hid (below_via hb1 HB.out hzw);clear hb1;go_wp2
     simp only [Exit.jump];go_ret
     exact ⟨rfl,HB1.out⟩
 · intro H hH hpass;go_wp2
   refine wp_label ?_;go_step
   go_step
   refine hpass 20 _ _ ?_;refine ⟨le,frame_mk _ _ _ rfl,hid (br.alloc (Nat.le_refl _) _),by simp,by rw [World.cell?_alloc_at _ _ _ _ rfl];rfl,by rw [World.cell?_alloc_at _ _ _ _ rfl];rfl,by omega,by omega,hid ⟨HT.out,H1.out⟩⟩
theorem height_ok (c:Cfg) (size:Int) (h0:c.seg≤size) (h1:size≤65536) (h2:1≤c.seg) (w:World):
    Calls Tryz.prog 138 #[.agg #[.int .u8 c.tag,.int .i64 c.most,.int .i64 c.seg,.int .i64 c.least,.int .i64 c.den,.int .i64 c.ll,.int .i64 c.rl,.int .i64 c.rh,.int .i64 c.lh],.int .i64 size] w (AnsB w (.int .i64 (htC c size:Nat))):=by
 have hq0:1≤size/c.seg:=by
  have:=Int.ediv_le_ediv (c:=c.seg) xo h0;rwa [Int.ediv_self xo] at this
 have hq1:size/c.seg≤65536:=Int.le_trans (Int.ediv_le_self _ xo) h1;have hq2:size.tdiv c.seg=size/c.seg:=Int.tdiv_eq_ediv_of_nonneg xo;have hs0:(c.seg==0)=false:=by simp;omega
 unfold htC;generalize size/c.seg=q at *;obtain ⟨m,rfl⟩:=Int.eq_ofNat_of_zero_le (show 0≤q by omega);rw [Int.toNat_natCast];have LG:=hid (fun w=>Down_ok m m rfl xo xo w);generalize m.log2=z at *;have hwm:IntKind.i64.wrap (m:Int)=(m:Int):=IntWalk.i64_in _ xo;go_enter Tryz.func138,Tryz.ntmps138
 go_wp2_with (go_at_call 167;refine (LG.out _).mono ?_;rintro e w' ⟨rfl,rfl⟩)
 go_ret
 exact ⟨rfl,br.alloc (Nat.le_refl _) _⟩
end
section
open Go.RowKit Go.Shelf Go.Sort
attribute [local go_sem] Oper.semAt_some
theorem cell_heap {w:World} {g:Nat} {cs:Array Value} {e:TypeId} {fr:Nat×Nat} (h:w.heap[g]? =some (.cells cs e fr)) (i:Nat):w.cell? ⟨g,i,none⟩=cs[i]? :=by
 unfold World.cell?;simp [h]
theorem bools_heap {w:World} {g:Nat} {e:TypeId} {l:List Bool} (h:w.heap[g]? =some (.cells (l.map Value.bool).toArray e (0,0))):IsBools w g l:=by
 intro i hi;rw [cell_heap h];simp [List.getD_eq_getElem?_getD,hi]
def Fact.bools {T:TypeId} (e:TypeId) (he:e≠T) (n:Nat) (l:List Bool):Fact T:=⟨fun v w=>∃g,v= .slice (some ⟨g,0,none⟩) n n∧w.heap[g]? =some (.cells (l.map Value.bool).toArray e (0,0)),fun _ _ _ h ⟨g,h1,h2⟩=>⟨g,h1,h.same _ _ h2 (fun cs fr e'=>by cases e';exact he rfl)⟩⟩
def szL (c:Cfg):List Bool:=[decide (1≤c.tag),decide (c.tag≤3),decide (1≤c.most),decide (c.most≤16384),powB c.seg 4 64,powB c.least c.seg 256,decide (1≤c.den),decide (c.den≤64)]
def ptL (c:Cfg):List Bool:=[decide (0≤c.ll),decide (c.ll<c.rl),decide (c.rl<c.rh),decide (c.rh<c.lh),decide (c.lh≤c.den)]
def lsL (c:Cfg):List Bool:=[decide (c.den≤2*c.rh),decide (8*c.rl≤c.den),decide (2*c.den≤c.rl*c.least)]
theorem cfHead_split (c:Cfg):cfHead c=((szL c).all id&&(ptL c).all id&&(lsL c).all id):=by
 simp [cfHead,szL,ptL,lsL,Bool.and_assoc]
theorem szp_num {c:Cfg} (h1:(szL c).all id=true) (h2:(ptL c).all id=true):1≤c.den∧c.den≤64∧0≤c.ll∧c.ll<c.rl∧c.rl<c.rh∧c.rh<c.lh∧c.lh≤c.den∧c.rl*c.least≤64*256∧0≤c.rl*c.least:=by
 simp only [szL,ptL,List.all_cons,List.all_nil,Bool.and_true,id,Bool.and_eq_true,decide_eq_true_eq] at h1 h2;obtain ⟨a1,a2,a3,a4,a5,a6,a7,a8⟩:=h1;obtain ⟨b1,b2,b3,b4,b5⟩:=h2;have s:=powB_iff.1 a5;have l:=powB_iff.1 a6;have q:=mul_bd (show 0≤c.rl by omega) (show c.rl≤64 by omega) (show 0≤c.least by omega) l.2.1;exact ⟨a7,a8,b1,b2,b3,b4,b5,q.2,q.1⟩
theorem cfE_bad {c:Cfg} (h:cfHead c=false):cfE c=50:=by simp [cfE,cfMay,h]
theorem Check5_ok (c:Cfg) (w:World):
    Calls Tryz.prog 87 #[.agg #[.int .u8 c.tag,.int .i64 c.most,.int .i64 c.seg,.int .i64 c.least,.int .i64 c.den,.int .i64 c.ll,.int .i64 c.rl,.int .i64 c.rh,.int .i64 c.lh]] w (AnsB w (.int .i64 (cfE c))):=by
 obtain ⟨s,hs⟩:∃s,(szL c).all id=s:=⟨_,rfl⟩
 obtain ⟨p,hp⟩:∃p,(ptL c).all id=p:=⟨_,rfl⟩
 obtain ⟨q,hq⟩:∃q,(lsL c).all id=q:=⟨_,rfl⟩
 have hh:=cfHead_split c;rw [hs,hp,hq] at hh;obtain ⟨r,hr⟩:∃r,cfE c=r:=⟨_,rfl⟩
 rw [hr];have HH:=hid hh;have HR:=hid hr;have HP:=hid hp;have HQ:=hid hq;have HSZ:=hid hs;clear hh hr hp hq;go_enter Tryz.func87,Tryz.ntmps87
 go_upto_region 1 with (fail)
 generalize hwz:w.alloc _=wz;have c_t0:wz.cell? ⟨w.heap.size,0,none⟩=some (.int .u8 c.tag):=by rw [←hwz];(exact xcg)
 have c_t1:wz.cell? ⟨w.heap.size,1,none⟩=some (.int .i64 c.most):=by rw [←hwz];(exact xcg)
 have c_t2:wz.cell? ⟨w.heap.size,2,none⟩=some (.int .i64 c.seg):=by rw [←hwz];(exact xcg)
 have c_t3:wz.cell? ⟨w.heap.size,3,none⟩=some (.int .i64 c.least):=by rw [←hwz];(exact xcg)
 have c_t4:wz.cell? ⟨w.heap.size,4,none⟩=some (.int .i64 c.den):=by rw [←hwz];(exact xcg)
 have c_t5:wz.cell? ⟨w.heap.size,5,none⟩=some (.int .i64 c.ll):=by rw [←hwz];(exact xcg)
 have c_t6:wz.cell? ⟨w.heap.size,6,none⟩=some (.int .i64 c.rl):=by rw [←hwz];(exact xcg)
 have c_t7:wz.cell? ⟨w.heap.size,7,none⟩=some (.int .i64 c.rh):=by rw [←hwz];(exact xcg)
 have c_t8:wz.cell? ⟨w.heap.size,8,none⟩=some (.int .i64 c.lh):=by rw [←hwz];(exact xcg)
 have z_t:w.heap.size<wz.heap.size:=by rw [←hwz];(exact xlt)
 have HS:Hid (Below w.heap.size w wz):=by rw [←hwz];exact hid (br.alloc (Nat.le_refl _) _)
 have hz:w.heap.size+1=wz.heap.size:=by rw [←hwz];simp
 clear hwz;refine wp_region_facts 28 xk (N:=108) rfl xk xk xdd (fun w'=>Below wz.heap.size wz w') (Ext 23) (factAt [.is (.pointer (some ⟨w.heap.size,0,none⟩)),.is (.int .u8 c.tag),.is (.bool (decide (1≤c.tag))),.is (.pointer (some ⟨w.heap.size,0,none⟩)),.is (.int .u8 c.tag),.is (.bool (decide (c.tag≤3))),.is (.pointer (some ⟨w.heap.size,1,none⟩)),.is (.int .i64 c.most),.is (.bool (decide (1≤c.most))),.is (.pointer (some ⟨w.heap.size,1,none⟩)),.is (.int .i64 c.most),.is (.bool (decide (c.most≤16384))),.is (.pointer (some ⟨w.heap.size,2,none⟩)),.is (.int .i64 c.seg),.is (.bool (powB c.seg 4 64)),.is (.pointer (some ⟨w.heap.size,3,none⟩)),.is (.int .i64 c.least),.is (.pointer (some ⟨w.heap.size,2,none⟩)),.is (.int .i64 c.seg),.is (.bool (powB c.least c.seg 256)),.is (.pointer (some ⟨w.heap.size,4,none⟩)),.is (.int .i64 c.den),.is (.bool (decide (1≤c.den))),.is (.pointer (some ⟨w.heap.size,4,none⟩)),.is (.int .i64 c.den),.is (.bool (decide (c.den≤64))),.bools 4 xdd 8 (szL c),.is (.bool s)]) (factAt_stays _) br.drew ?steps ?fin
 case steps=>
     refine ⟨?o0,?o1,?o2,?o3,?o4,?o5,?o6,?o7,?o8,?o9,?o10,?o11,?o12,?o13,?o14,?o15,?o16,?o17,?o18,?o19,?o20,?o21,?o22,?o23,?o24,?o25,?o26,?o27,trivial⟩
     case o0=>
      intro u a w' ev hJ hd K hK;have e1:tg a 1= .pointer (some ⟨w.heap.size,0,none⟩):=ev 1 xdd;have HK:=hid hK;clear hK ev hd;go_simp;exact HK.out _ _ xzc hJ rfl (Ext.refl _ _)
     case o1=>
      intro u a w' ev hJ hd K hK;have e5:tg a 5= .pointer (some ⟨w.heap.size,0,none⟩):=(ev 5 xdd).trans (hd 0 _ xk rfl);have g0:=xjc hJ c_t0;have HK:=hid hK;clear hK ev hd;go_simp;exact HK.out _ _ xzc hJ rfl (Ext.refl _ _)
     case o2=>
      intro u a w' ev hJ hd K hK;have e6:tg a 6= .int .u8 c.tag:=(ev 6 xdd).trans (hd 1 _ xk rfl);have HK:=hid hK;clear hK ev hd;go_simp;exact HK.out _ _ xzc hJ rfl (Ext.refl _ _)
     case o3=>
      intro u a w' ev hJ hd K hK;have e1:tg a 1= .pointer (some ⟨w.heap.size,0,none⟩):=ev 1 xdd;have HK:=hid hK;clear hK ev hd;go_simp;exact HK.out _ _ xzc hJ rfl (Ext.refl _ _)
     case o4=>
      intro u a w' ev hJ hd K hK;have e8:tg a 8= .pointer (some ⟨w.heap.size,0,none⟩):=(ev 8 xdd).trans (hd 3 _ xk rfl);have g0:=xjc hJ c_t0;have HK:=hid hK;clear hK ev hd;go_simp;exact HK.out _ _ xzc hJ rfl (Ext.refl _ _)
     case o5=>
      intro u a w' ev hJ hd K hK;have e9:tg a 9= .int .u8 c.tag:=(ev 9 xdd).trans (hd 4 _ xk rfl);have HK:=hid hK;clear hK ev hd;go_simp;exact HK.out _ _ xzc hJ rfl (Ext.refl _ _)
     case o6=>
      intro u a w' ev hJ hd K hK;have e1:tg a 1= .pointer (some ⟨w.heap.size,0,none⟩):=ev 1 xdd;have HK:=hid hK;clear hK ev hd;go_simp;exact HK.out _ _ xzc hJ rfl (Ext.refl _ _)
     case o7=>
      intro u a w' ev hJ hd K hK;have e11:tg a 11= .pointer (some ⟨w.heap.size,1,none⟩):=(ev 11 xdd).trans (hd 6 _ xk rfl);have g0:=xjc hJ c_t1;have HK:=hid hK;clear hK ev hd;go_simp;exact HK.out _ _ xzc hJ rfl (Ext.refl _ _)
     case o8=>
      intro u a w' ev hJ hd K hK;have e12:tg a 12= .int .i64 c.most:=(ev 12 xdd).trans (hd 7 _ xk rfl);have HK:=hid hK;clear hK ev hd;go_simp;exact HK.out _ _ xzc hJ rfl (Ext.refl _ _)
     case o9=>
      intro u a w' ev hJ hd K hK;have e1:tg a 1= .pointer (some ⟨w.heap.size,0,none⟩):=ev 1 xdd;have HK:=hid hK;clear hK ev hd;go_simp;exact HK.out _ _ xzc hJ rfl (Ext.refl _ _)
     case o10=>
      intro u a w' ev hJ hd K hK;have e14:tg a 14= .pointer (some ⟨w.heap.size,1,none⟩):=(ev 14 xdd).trans (hd 9 _ xk rfl);have g0:=xjc hJ c_t1;have HK:=hid hK;clear hK ev hd;go_simp;exact HK.out _ _ xzc hJ rfl (Ext.refl _ _)
     case o11=>
      intro u a w' ev hJ hd K hK;have e15:tg a 15= .int .i64 c.most:=(ev 15 xdd).trans (hd 10 _ xk rfl);have HK:=hid hK;clear hK ev hd;go_simp;exact HK.out _ _ xzc hJ rfl (Ext.refl _ _)
     case o12=>
      intro u a w' ev hJ hd K hK;have e1:tg a 1= .pointer (some ⟨w.heap.size,0,none⟩):=ev 1 xdd;have HK:=hid hK;clear hK ev hd;go_simp;exact HK.out _ _ xzc hJ rfl (Ext.refl _ _)
     case o13=>
      intro u a w' ev hJ hd K hK;have e17:tg a 17= .pointer (some ⟨w.heap.size,2,none⟩):=(ev 17 xdd).trans (hd 12 _ xk rfl);have g0:=xjc hJ c_t2;have HK:=hid hK;clear hK ev hd;go_simp;exact HK.out _ _ xzc hJ rfl (Ext.refl _ _)
     case o14=>
      intro u a w' ev hJ hd K hK;have e18:tg a 18= .int .i64 c.seg:=(ev 18 xdd).trans (hd 13 _ xk rfl);have HK:=hid hK;have HC:=hid (cpower_ok c.seg 4 64 xo w');clear hK ev hd;go_simp;refine HC.out.mono ?_;rintro e w'' ⟨rfl,rfl⟩;exact HK.out _ _ xzc hJ rfl (Ext.refl _ _)
     case o15=>
      intro u a w' ev hJ hd K hK;have e1:tg a 1= .pointer (some ⟨w.heap.size,0,none⟩):=ev 1 xdd;have HK:=hid hK;clear hK ev hd;go_simp;exact HK.out _ _ xzc hJ rfl (Ext.refl _ _)
     case o16=>
      intro u a w' ev hJ hd K hK;have e20:tg a 20= .pointer (some ⟨w.heap.size,3,none⟩):=(ev 20 xdd).trans (hd 15 _ xk rfl);have g0:=xjc hJ c_t3;have HK:=hid hK;clear hK ev hd;go_simp;exact HK.out _ _ xzc hJ rfl (Ext.refl _ _)
     case o17=>
      intro u a w' ev hJ hd K hK;have e1:tg a 1= .pointer (some ⟨w.heap.size,0,none⟩):=ev 1 xdd;have HK:=hid hK;clear hK ev hd;go_simp;exact HK.out _ _ xzc hJ rfl (Ext.refl _ _)
     case o18=>
      intro u a w' ev hJ hd K hK;have e22:tg a 22= .pointer (some ⟨w.heap.size,2,none⟩):=(ev 22 xdd).trans (hd 17 _ xk rfl);have g0:=xjc hJ c_t2;have HK:=hid hK;clear hK ev hd;go_simp;exact HK.out _ _ xzc hJ rfl (Ext.refl _ _)
     case o19=>
      intro u a w' ev hJ hd K hK;have e21:tg a 21= .int .i64 c.least:=(ev 21 xdd).trans (hd 16 _ xk rfl);have e23:tg a 23= .int .i64 c.seg:=(ev 23 xdd).trans (hd 18 _ xk rfl);have HK:=hid hK;have HC:=hid (cpower_ok c.least c.seg 256 xo w');clear hK ev hd;go_simp;refine HC.out.mono ?_;rintro e w'' ⟨rfl,rfl⟩;exact HK.out _ _ xzc hJ rfl (Ext.refl _ _)
     case o20=>
      intro u a w' ev hJ hd K hK;have e1:tg a 1= .pointer (some ⟨w.heap.size,0,none⟩):=ev 1 xdd;have HK:=hid hK;clear hK ev hd;go_simp;exact HK.out _ _ xzc hJ rfl (Ext.refl _ _)
     case o21=>
      intro u a w' ev hJ hd K hK;have e25:tg a 25= .pointer (some ⟨w.heap.size,4,none⟩):=(ev 25 xdd).trans (hd 20 _ xk rfl);have g0:=xjc hJ c_t4;have HK:=hid hK;clear hK ev hd;go_simp;exact HK.out _ _ xzc hJ rfl (Ext.refl _ _)
     case o22=>
      intro u a w' ev hJ hd K hK;have e26:tg a 26= .int .i64 c.den:=(ev 26 xdd).trans (hd 21 _ xk rfl);have HK:=hid hK;clear hK ev hd;go_simp;exact HK.out _ _ xzc hJ rfl (Ext.refl _ _)
     case o23=>
      intro u a w' ev hJ hd K hK;have e1:tg a 1= .pointer (some ⟨w.heap.size,0,none⟩):=ev 1 xdd;have HK:=hid hK;clear hK ev hd;go_simp;exact HK.out _ _ xzc hJ rfl (Ext.refl _ _)
     case o24=>
      intro u a w' ev hJ hd K hK;have e28:tg a 28= .pointer (some ⟨w.heap.size,4,none⟩):=(ev 28 xdd).trans (hd 23 _ xk rfl);have g0:=xjc hJ c_t4;have HK:=hid hK;clear hK ev hd;go_simp;exact HK.out _ _ xzc hJ rfl (Ext.refl _ _)
     case o25=>
      intro u a w' ev hJ hd K hK;have e29:tg a 29= .int .i64 c.den:=(ev 29 xdd).trans (hd 24 _ xk rfl);have HK:=hid hK;clear hK ev hd;go_simp;exact HK.out _ _ xzc hJ rfl (Ext.refl _ _)
     case o26=>
      intro u a w' ev hJ hd K hK;have e7:tg a 7= .bool (decide (1≤c.tag)):=(ev 7 xdd).trans (hd 2 _ xk rfl);have e10:tg a 10= .bool (decide (c.tag≤3)):=(ev 10 xdd).trans (hd 5 _ xk rfl);have e13:tg a 13= .bool (decide (1≤c.most)):=(ev 13 xdd).trans (hd 8 _ xk rfl);have e16:tg a 16= .bool (decide (c.most≤16384)):=(ev 16 xdd).trans (hd 11 _ xk rfl);have e19:tg a 19= .bool (powB c.seg 4 64):=(ev 19 xdd).trans (hd 14 _ xk rfl);have e24:tg a 24= .bool (powB c.least c.seg 256):=(ev 24 xdd).trans (hd 19 _ xk rfl);have e27:tg a 27= .bool (decide (1≤c.den)):=(ev 27 xdd).trans (hd 22 _ xk rfl);have e30:tg a 30= .bool (decide (c.den≤64)):=(ev 30 xdd).trans (hd 25 _ xk rfl);have f7:a.tmps[7]?.getD undef= .bool (decide (1≤c.tag)):=by rw [←Array.getD_eq_getD_getElem?];exact e7
      have f10:a.tmps[10]?.getD undef= .bool (decide (c.tag≤3)):=by rw [←Array.getD_eq_getD_getElem?];exact e10
      have f13:a.tmps[13]?.getD undef= .bool (decide (1≤c.most)):=by rw [←Array.getD_eq_getD_getElem?];exact e13
      have f16:a.tmps[16]?.getD undef= .bool (decide (c.most≤16384)):=by rw [←Array.getD_eq_getD_getElem?];exact e16
      have f19:a.tmps[19]?.getD undef= .bool (powB c.seg 4 64):=by rw [←Array.getD_eq_getD_getElem?];exact e19
      have f24:a.tmps[24]?.getD undef= .bool (powB c.least c.seg 256):=by rw [←Array.getD_eq_getD_getElem?];exact e24
      have f27:a.tmps[27]?.getD undef= .bool (decide (1≤c.den)):=by rw [←Array.getD_eq_getD_getElem?];exact e27
      have f30:a.tmps[30]?.getD undef= .bool (decide (c.den≤64)):=by rw [←Array.getD_eq_getD_getElem?];exact e30
      have HK:=hid hK;have hz':=hJ.size;clear hK ev hd;go_simp;exact HK.out _ _ xzc (hJ.alloc hz' _) ⟨_,rfl,alloc_new _ _⟩ (Ext.below (br.alloc (Nat.le_refl _) _))
     case o27=>
      intro u a w' ev hJ hd K hK;obtain ⟨g,h1,h2⟩:(Fact.bools (T:=23) 4 xdd 8 (szL c)).holds (u 31) w':=hd 26 _ xk rfl;have e31:tg a 31= .slice (some ⟨g,0,none⟩) 8 8:=(ev 31 xdd).trans h1;have HK:=hid hK;have HC:=hid (all_ok (szL c) 8 g (by simp [szL]) w' (bools_heap h2));rw [hs,show (szL c).length=8 from rfl] at HC;clear hK ev hd h1 h2;go_simp;refine HC.out.mono ?_;rintro e w'' ⟨rfl,rfl⟩;exact HK.out _ _ xzc hJ rfl (Ext.refl _ _)
 case fin=>
  intro u w2 hJ hG;have h1:u 32= .bool s:=hG 27 _ rfl;have hz_w2:=hJ.size;replace c_t0:w2.cell? ⟨w.heap.size,0,none⟩=some (.int .u8 c.tag):=xjt hJ xlt xcn;replace c_t1:w2.cell? ⟨w.heap.size,1,none⟩=some (.int .i64 c.most):=xjt hJ xlt xcn;replace c_t2:w2.cell? ⟨w.heap.size,2,none⟩=some (.int .i64 c.seg):=xjt hJ xlt xcn;replace c_t3:w2.cell? ⟨w.heap.size,3,none⟩=some (.int .i64 c.least):=xjt hJ xlt xcn;replace c_t4:w2.cell? ⟨w.heap.size,4,none⟩=some (.int .i64 c.den):=xjt hJ xlt xcn;replace c_t5:w2.cell? ⟨w.heap.size,5,none⟩=some (.int .i64 c.ll):=xjt hJ xlt xcn;replace c_t6:w2.cell? ⟨w.heap.size,6,none⟩=some (.int .i64 c.rl):=xjt hJ xlt xcn;replace c_t7:w2.cell? ⟨w.heap.size,7,none⟩=some (.int .i64 c.rh):=xjt hJ xlt xcn;replace c_t8:w2.cell? ⟨w.heap.size,8,none⟩=some (.int .i64 c.lh):=xjt hJ xlt xcn;replace z_t:w.heap.size<w2.heap.size:=xo;have HB2:=hid (below_via hJ HS.out xo);have hz2:=hJ.size;clear hG hJ;simp only [mixFrame,mixL,dstsOf,List.take_succ_cons,List.take_zero,List.filterMap_cons,List.filterMap_nil,List.contains_cons,List.contains_nil,Nat.reduceBEq,Bool.or_false,Bool.false_or,Bool.or_true,Bool.true_or,if_true,if_false,Bool.false_eq_true,Nat.reduceAdd,Nat.zero_add,List.drop_succ_cons,List.drop_zero,h1];go_wp2_with fail
  refine (all_ok (ptL c) 5 w2.heap.size (by simp [ptL]) _ (bools_alloc w2 (ptL c) _)).mono ?_;rw [HP.out];rintro e w3 ⟨rfl,rfl⟩;have HB3:=hid (HB2.out.alloc (by omega:w.heap.size≤w2.heap.size) (.cells ((ptL c).map Value.bool).toArray 4));cases s with
  | false=>
   have hr50:r=50:=by rw [←HR.out];exact cfE_bad (by rw [HH.out];rfl)
   subst hr50;go_wp2
   go_ret
   exact ⟨rfl,HB3.out⟩
  | true=>
   cases p with
   | false=>
    have hr50:r=50:=by rw [←HR.out];exact cfE_bad (by rw [HH.out];rfl)
    subst hr50;go_wp2
    go_ret
    exact ⟨rfl,HB3.out⟩
   | true=>
    obtain ⟨d1,d2,d3,d4,d5,d6,d7,d8,d9⟩:=szp_num HSZ.out HP.out;have w1:IntKind.i64.wrap (2*c.rh)=2*c.rh:=IntWalk.i64_in _ xo;have w2':IntKind.i64.wrap (8*c.rl)=8*c.rl:=IntWalk.i64_in _ xo;have w3':IntKind.i64.wrap (2*c.den)=2*c.den:=IntWalk.i64_in _ xo;have w4':IntKind.i64.wrap (c.rl*c.least)=c.rl*c.least:=IntWalk.i64_in _ xo;go_wp2_with fail
    refine (all_ok (lsL c) 3 (w2.heap.size+1) (by simp [lsL]) _ ?_).mono ?_
    · have hb:=bools_alloc (w2.alloc (.cells ((ptL c).map Value.bool).toArray 4)) (lsL c) 4;rw [World.size_alloc] at hb;exact hb
    rw [HQ.out];rintro e w3 ⟨rfl,rfl⟩;have HB4:=hid (HB3.out.alloc (by simp;omega) (.cells ((lsL c).map Value.bool).toArray 4));clear HB3;cases q with
    | false=>
     have hr50:r=50:=by rw [←HR.out];exact cfE_bad (by rw [HH.out];rfl)
     subst hr50;go_wp2
     go_ret
     exact ⟨rfl,HB4.out⟩
    | true=>
     have hd:cfHead c=true:=HH.out;have hnum:=cfHead_num hd;have tb:=taks_bd hd (n:=c.most) xo xo;have TK:=hid (fun W=>takes_ok c hd c.most xo xo W);have HT:=hid (fun W=>height_ok c (taks c c.most) xo xo xo W);have hb:=htC_bd (c:=c) xo (size:=taks c c.most) xo xo;have m1:=mul_bd (show 0≤c.den by omega) d2 (show (0:Int)≤(htC c (taks c c.most):Nat) by omega) (show ((htC c (taks c c.most):Nat):Int)≤16 by omega);have m2:=mul_bd (show 0≤c.lh-c.rh by omega) (show c.lh-c.rh≤64 by omega) (show 0≤c.seg by omega) (show c.seg≤64 by omega);have he:r=if c.den*(htC c (taks c c.most):Nat)≤(c.lh-c.rh)*c.seg then 0 else 50:=by
      rw [←HR.out,cfE,cfMay,hd,Bool.true_and];simp
     have HE:=hid he;clear he hb tb hnum hd;generalize taks c c.most=T at *;generalize ((htC c T:Nat):Int)=HHt at *;have w5:IntKind.i64.wrap (c.den*HHt)=c.den*HHt:=IntWalk.i64_in _ xo;have w6:IntKind.i64.wrap ((c.lh-c.rh)*c.seg)=(c.lh-c.rh)*c.seg:=IntWalk.i64_in _ xo;have w7:IntKind.i64.wrap (c.lh-c.rh)=c.lh-c.rh:=IntWalk.i64_in _ xo;clear m1 m2;go_upto_region 5 with (fail)
     generalize hwy:(w2.alloc (.cells ((ptL c).map Value.bool).toArray 4)).alloc _=wy;replace c_t0:wy.cell? ⟨w.heap.size,0,none⟩=some (.int .u8 c.tag):=by rw [←hwy];(exact xcg)
     replace c_t1:wy.cell? ⟨w.heap.size,1,none⟩=some (.int .i64 c.most):=by rw [←hwy];(exact xcg)
     replace c_t2:wy.cell? ⟨w.heap.size,2,none⟩=some (.int .i64 c.seg):=by rw [←hwy];(exact xcg)
     replace c_t3:wy.cell? ⟨w.heap.size,3,none⟩=some (.int .i64 c.least):=by rw [←hwy];(exact xcg)
     replace c_t4:wy.cell? ⟨w.heap.size,4,none⟩=some (.int .i64 c.den):=by rw [←hwy];(exact xcg)
     replace c_t5:wy.cell? ⟨w.heap.size,5,none⟩=some (.int .i64 c.ll):=by rw [←hwy];(exact xcg)
     replace c_t6:wy.cell? ⟨w.heap.size,6,none⟩=some (.int .i64 c.rl):=by rw [←hwy];(exact xcg)
     replace c_t7:wy.cell? ⟨w.heap.size,7,none⟩=some (.int .i64 c.rh):=by rw [←hwy];(exact xcg)
     replace c_t8:wy.cell? ⟨w.heap.size,8,none⟩=some (.int .i64 c.lh):=by rw [←hwy];(exact xcg)
     replace z_t:w.heap.size<wy.heap.size:=by rw [←hwy];(exact xlt)
     have HB5:Hid (Below w.heap.size w wy):=by rw [←hwy];exact HB4
     clear hwy HB4;obtain ⟨X,hX⟩:∃X,c.den*HHt=X:=⟨_,rfl⟩
     obtain ⟨Y,hY⟩:∃Y,(c.lh-c.rh)*c.seg=Y:=⟨_,rfl⟩
     rw [hX] at w5 HE;rw [hY] at w6 HE;have K0:=hid (fun d os=>kr wy d os (TK.out _));have K1:=hid (fun d os=>kr wy d os (HT.out _));have q0:=cg c_t0;have q1:=cg c_t1;have q2:=cg c_t2;have q3:=cg c_t3;have q4:=cg c_t4;have q5:=cg c_t5;have q6:=cg c_t6;have q7:=cg c_t7;have q8:=cg c_t8;refine wp_region_quiet_below xk xk ?_;repeat (go_big_quiet_step (first|exact K0.out _ _|exact K1.out _ _))
     refine wpQuiet_nil ?_;intro _ hw';obtain ⟨⟨dq,osq⟩,hw''⟩:=hw';subst hw'';have hbq:=below_regrown wy dq osq;clear q0 q1 q2 q3 q4 q5 q6 q7 q8 K0 K1;have HB6:=xv hbq HB5;clear hbq HB5;generalize Sort.grow (redrawn wy dq) osq=wx at *;by_cases hc:X≤Y
     · have hr0:=HE.out;rw [if_pos hc] at hr0;subst hr0;go_wp2
       go_ret
       exact ⟨rfl,HB6.out⟩
     · have hr0:=HE.out;rw [if_neg hc] at hr0;subst hr0;go_wp2
       go_ret
       exact ⟨rfl,HB6.out⟩
end
section
open Go.RowKit Go.Shelf Go.Sort
theorem cfMay_head {c:Cfg} (h:cfMay c=true):cfHead c=true:=by
 simp only [cfMay,Bool.and_eq_true] at h;exact h.1
theorem cfE_ok {c:Cfg} (h:cfMay c=true):cfE c=0:=by simp [cfE,h]
theorem High_no (c:Cfg) (hc:cfMay c=true) (size:Int) (hp:powB size c.least (taks c c.most)=false) (w:World):
    Calls Tryz.prog 88 #[.agg #[.int .u8 c.tag,.int .i64 c.most,.int .i64 c.seg,.int .i64 c.least,.int .i64 c.den,.int .i64 c.ll,.int .i64 c.rl,.int .i64 c.rh,.int .i64 c.lh],.int .i64 size] w (AnsB w (.tuple #[.int .i64 0,.int .i64 2])):=by
 have hd:=cfMay_head hc;obtain ⟨d0,d1,d2,d3,d4,d5,d6,d7,d8,d9,d10,d11,d12,d13,d14,d15,d16,d17⟩:=cfHead_num hd;have tb:=taks_bd hd (n:=c.most) xo xo;have CK:=hid (fun W=>Check5_ok c W);rw [cfE_ok hc] at CK;have TK:=hid (fun W=>takes_ok c hd c.most xo xo W);have PW:=hid (fun W=>cpower_ok size c.least (taks c c.most) xo W);rw [hp] at PW;clear hd hc hp;generalize taks c c.most=T at *;go_enter Tryz.func88,Tryz.ntmps88
 go_wp2_with fail
 refine (CK.out _).mono ?_;rintro e w1 ⟨rfl,hb1⟩;have hz_w1:=hb1.size;try simp only [World.size_alloc,World.size_setCell] at hz_w1
 have hh:=bc9 hb1 (al9 (b:=w.heap.size) xsi);obtain ⟨c_t0,c_t1,c_t2,c_t3,c_t4,c_t5,c_t6,c_t7,c_t8⟩:=hh;have z_t:=blt hb1 (alz (b:=w.heap.size) xsi);have hB1:Below w.heap.size w w1:=xbel;have HB1:=hid hB1;clear hb1 hB1;go_upto_region 4 with (fail)
 have K0:=hid (fun d os=>kr w1 d os (TK.out _));have K1:=hid (fun d os=>kr w1 d os ((PW.out _).mono fun _ _ h=>⟨h.1,h.2 ▸ Below.refl _ _⟩));have q0:=cg c_t0;have q1:=cg c_t1;have q2:=cg c_t2;have q3:=cg c_t3;have q4:=cg c_t4;have q5:=cg c_t5;have q6:=cg c_t6;have q7:=cg c_t7;have q8:=cg c_t8;refine wp_region_quiet_below xk xk ?_;repeat (go_big_quiet_step (first|exact K0.out _ _|exact K1.out _ _))
 refine wpQuiet_nil ?_;intro _ hw';obtain ⟨⟨dq,osq⟩,hw''⟩:=hw';subst hw'';have hbq:=below_regrown w1 dq osq;clear q0 q1 q2 q3 q4 q5 q6 q7 q8 K0 K1;generalize Sort.grow (redrawn w1 dq) osq=wx at *;have HB2:=xv hbq HB1;go_wp2
 go_ret2
 exact ⟨rfl,HB2.out⟩
theorem High_in (c:Cfg) (hc:cfMay c=true) (size:Int) (hp:powB size c.least (taks c c.most)=true) (w:World):
    Calls Tryz.prog 88 #[.agg #[.int .u8 c.tag,.int .i64 c.most,.int .i64 c.seg,.int .i64 c.least,.int .i64 c.den,.int .i64 c.ll,.int .i64 c.rl,.int .i64 c.rh,.int .i64 c.lh],.int .i64 size] w (AnsB w (.tuple #[.int .i64 (htC c size:Nat),.int .i64 0])):=by
 have hd:=cfMay_head hc;obtain ⟨d0,d1,d2,d3,d4,d5,d6,d7,d8,d9,d10,d11,d12,d13,d14,d15,d16,d17⟩:=cfHead_num hd;have tb:=taks_bd hd (n:=c.most) xo xo;have CK:=hid (fun W=>Check5_ok c W);rw [cfE_ok hc] at CK;have TK:=hid (fun W=>takes_ok c hd c.most xo xo W);have PW:=hid (fun W=>cpower_ok size c.least (taks c c.most) xo W);have sb:=powB_iff.1 hp;have HT:=hid (fun W=>height_ok c size xo xo xo W);rw [hp] at PW;clear hd hc hp;generalize taks c c.most=T at *;generalize ((htC c size:Nat):Int)=HH at *;clear sb tb;go_enter Tryz.func88,Tryz.ntmps88
 go_wp2_with fail
 refine (CK.out _).mono ?_;rintro e w1 ⟨rfl,hb1⟩;have hz_w1:=hb1.size;try simp only [World.size_alloc,World.size_setCell] at hz_w1
 have hh:=bc9 hb1 (al9 (b:=w.heap.size) xsi);obtain ⟨c_t0,c_t1,c_t2,c_t3,c_t4,c_t5,c_t6,c_t7,c_t8⟩:=hh;have z_t:=blt hb1 (alz (b:=w.heap.size) xsi);have hB1:Below w.heap.size w w1:=xbel;have HB1:=hid hB1;clear hb1 hB1;go_upto_region 4 with (fail)
 have K0:=hid (fun d os=>kr w1 d os (TK.out _));have K1:=hid (fun d os=>kr w1 d os ((PW.out _).mono fun _ _ h=>⟨h.1,h.2 ▸ Below.refl _ _⟩));have q0:=cg c_t0;have q1:=cg c_t1;have q2:=cg c_t2;have q3:=cg c_t3;have q4:=cg c_t4;have q5:=cg c_t5;have q6:=cg c_t6;have q7:=cg c_t7;have q8:=cg c_t8;refine wp_region_quiet_below xk xk ?_;repeat (go_big_quiet_step (first|exact K0.out _ _|exact K1.out _ _))
 refine wpQuiet_nil ?_;intro _ hw';obtain ⟨⟨dq,osq⟩,hw''⟩:=hw';subst hw'';have hbq:=below_regrown w1 dq osq;clear q0 q1 q2 q3 q4 q5 q6 q7 q8 K0 K1;generalize Sort.grow (redrawn w1 dq) osq=wx at *;have HB2:=xv hbq HB1;have hz_wx:=hbq.size;simp (disch:=omega) only [xcl hbq] at *;replace z_t:=blt hbq z_t;have hz2:=HB2.out.size;go_wp2_with fail
 refine (HT.out _).mono ?_;rintro e w3 ⟨rfl,hb3⟩;have hz_w3:=hb3.size;simp (disch:=omega) only [xcl hb3] at *;replace z_t:=blt hb3 z_t;have HB3:=hid (below_via hb3 HB2.out hz2);go_wp2
 go_ret2
 exact ⟨rfl,HB3.out⟩
theorem Cap_in (c:Cfg) (hc:cfMay c=true) (n:Int) (h0:0≤n) (h1:n≤c.most) (w:World):
    Calls Tryz.prog 101 #[.agg #[.int .u8 c.tag,.int .i64 c.most,.int .i64 c.seg,.int .i64 c.least,.int .i64 c.den,.int .i64 c.ll,.int .i64 c.rl,.int .i64 c.rh,.int .i64 c.lh],.int .i64 n] w (AnsB w (.tuple #[.int .i64 (taks c n),.int .i64 0])):=by
 have hd:=cfMay_head hc;obtain ⟨d0,d1,d2,d3,d4,d5,d6,d7,d8,d9,d10,d11,d12,d13,d14,d15,d16,d17⟩:=cfHead_num hd;have CK:=hid (fun W=>Check5_ok c W);rw [cfE_ok hc] at CK;have TK:=hid (fun W=>takes_ok c hd n xo xo W);clear hd hc;generalize taks c n=T at *;clear d0 d1 d2 d4 d5 d6 d7 d8 d9 d10 d11 d12 d13 d14 d15 d16 d17;go_enter Tryz.func101,Tryz.ntmps101
 go_wp2_with fail
 refine (CK.out _).mono ?_;rintro e w1 ⟨rfl,hb1⟩;have hz_w1:=hb1.size;try simp only [World.size_alloc,World.size_setCell] at hz_w1
 have hh:=bc9 hb1 (al9 (b:=w.heap.size) xsi);obtain ⟨c_t0,c_t1,c_t2,c_t3,c_t4,c_t5,c_t6,c_t7,c_t8⟩:=hh;have z_t:=blt hb1 (alz (b:=w.heap.size) xsi);have hB1:Below w.heap.size w w1:=xbel;have HB1:=hid hB1;have hz1:=hB1.size;clear hb1 hB1;go_wp2_with fail
 refine (TK.out _).mono ?_;rintro e w3 ⟨rfl,hb3⟩;have hz_w3:=hb3.size;simp (disch:=omega) only [xcl hb3] at *;replace z_t:=blt hb3 z_t;have HB3:=hid (below_via hb3 HB1.out hz1);go_wp2
 go_ret2
 exact ⟨rfl,HB3.out⟩
structure CapC (c:Cfg) (size:Int) (a H:Nat):Prop where
 may:cfMay c=true
 cap:powB size c.least (taks c c.most)=true
 seg:c.seg=((2^a:Nat):Int)
 a2:2≤a
 a6:a≤6
 all:size=((2^a*2^H:Nat):Int)
 big:2^a*2^H≤65536
 hgt:htC c size=H
 h14:H≤14
theorem pow2_bd {a lo hi:Nat} (h1:2^lo≤2^a) (h2:2^a≤2^hi):lo≤a∧a≤hi:=
  ⟨(Nat.pow_le_pow_iff_right xo).1 h1,(Nat.pow_le_pow_iff_right xo).1 h2⟩
theorem capC_of {c:Cfg} {size:Int} (hc:cfMay c=true) (hp:powB size c.least (taks c c.most)=true):∃a H,CapC c size a H:=by
 have hd:=cfMay_head hc;obtain ⟨d0,d1,d2,d3,d4,d5,d6,d7,d8,d9,d10,d11,d12,d13,d14,d15,d16,d17⟩:=cfHead_num hd;have tb:=taks_bd hd (n:=c.most) xo xo;have hf:=cfHead_facts hd;obtain ⟨-,-,a,ea⟩:=powB_nat hf.2.2.2.2.1;obtain ⟨l1,l2,b,eb⟩:=powB_nat hp;have ha:=pow2_bd (a:=a) (lo:=2) (hi:=6) xo xo;have hab:a≤b:=(Nat.pow_le_pow_iff_right (a:=2) xo).1 xo;obtain ⟨H,rfl⟩:∃H,b=a+H:=⟨b-a,by omega⟩
 rw [Nat.pow_add] at eb;have hb:=pow2_bd (a:=a+H) (lo:=0) (hi:=16) (by rw [Nat.pow_add];omega) (by rw [Nat.pow_add];omega);refine ⟨a,H,hc,hp,ea,ha.1,ha.2,eb,by omega,?_,by omega⟩;rw [htC,ea,eb,Int.natCast_mul,Int.mul_ediv_cancel_left _ (by have:=Nat.two_pow_pos a;omega),Int.toNat_natCast,Nat.log2_two_pow]
theorem CapC.wd {c:Cfg} {size:Int} {a H h:Nat} (k:CapC c size a H) (hh:h≤H):wdC c h=((2^a*2^h:Nat):Int)∧4≤wdC c h∧wdC c h≤65536∧2^a*2^h≤2^a*2^H:=by
 have h1:=wdC_bd k.seg k.big hh;have e:wdC c h=((2^a*2^h:Nat):Int):=by rw [wdC,k.seg];push_cast;rfl
 have h4:2^2≤2^a:=Nat.pow_le_pow_right xo k.a2;have h5:=Nat.mul_le_mul h4 (Nat.two_pow_pos h);have h6:2^a*2^h≤2^a*2^H:=Nat.mul_le_mul_left _ (Nat.pow_le_pow_right xo hh);exact ⟨e,by omega,h1.2,h6⟩
theorem CapC.least {c:Cfg} {size:Int} {a H:Nat} (k:CapC c size a H):size=c.least∨0<H:=by
 have l:=powB_iff.1 k.cap;obtain ⟨d0,d1,d2,d3,d4,d5,d6,d7,d8,d9,d10,d11,d12,d13,d14,d15,d16,d17⟩:=cfHead_num (cfMay_head k.may);rcases Nat.eq_zero_or_pos H with e|e
 · left;have:=k.all;have:=k.seg;rw [e] at *;simp at *;omega
 · exact Or.inr e
theorem casked_in (c:Cfg) (size:Int) (a H h:Nat) (k:CapC c size a H) (hh:h≤H) (n:Int) (h0:0≤n) (h1:n≤wdC c h) (w:World):
    Calls Tryz.prog 123 #[.agg #[.int .u8 c.tag,.int .i64 c.most,.int .i64 c.seg,.int .i64 c.least,.int .i64 c.den,.int .i64 c.ll,.int .i64 c.rl,.int .i64 c.rh,.int .i64 c.lh],.int .i64 size,.int .i64 h,.int .i64 n] w (AnsB w (.tuple #[.int .i64 H,.int .i64 0])):=by
 obtain ⟨e,w4,w6,-⟩:=k.wd hh;have e2:c.seg*2^h=wdC c h:=rfl;have hH:=k.h14;have HI:=hid (fun W=>High_in c k.may size k.cap W);rw [k.hgt] at HI;clear k e;generalize wdC c h=W at *;have hwr:IntKind.i64.wrap (c.seg*2^h)=W:=by rw [e2];exact IntWalk.i64_in _ xo
 clear e2;go_enter Tryz.func123,Tryz.ntmps123
 go_wp2_with fail
 refine (HI.out _).mono ?_;rintro e w1 ⟨rfl,hb1⟩;have hz_w1:=hb1.size;try simp only [World.size_alloc,World.size_setCell] at hz_w1
 have hh:=bc9 hb1 (al9 (b:=w.heap.size) xsi);obtain ⟨c_t0,c_t1,c_t2,c_t3,c_t4,c_t5,c_t6,c_t7,c_t8⟩:=hh;have z_t:=blt hb1 (alz (b:=w.heap.size) xsi);have hB1:Below w.heap.size w w1:=xbel;have HB1:=hid hB1;clear hb1 hB1;go_wp2
 go_ret2
 exact ⟨rfl,HB1.out⟩
theorem casked_out (c:Cfg) (size:Int) (a H h:Nat) (k:CapC c size a H) (hh:h≤H) (n:Int) (h0:0≤n) (h1:wdC c h<n) (w:World):
    Calls Tryz.prog 123 #[.agg #[.int .u8 c.tag,.int .i64 c.most,.int .i64 c.seg,.int .i64 c.least,.int .i64 c.den,.int .i64 c.ll,.int .i64 c.rl,.int .i64 c.rh,.int .i64 c.lh],.int .i64 size,.int .i64 h,.int .i64 n] w (AnsB w (.tuple #[.int .i64 0,.int .i64 2])):=by
 obtain ⟨e,w4,w6,-⟩:=k.wd hh;have e2:c.seg*2^h=wdC c h:=rfl;have hH:=k.h14;have HI:=hid (fun W=>High_in c k.may size k.cap W);rw [k.hgt] at HI;clear k e;generalize wdC c h=W at *;have hwr:IntKind.i64.wrap (c.seg*2^h)=W:=by rw [e2];exact IntWalk.i64_in _ xo
 clear e2;go_enter Tryz.func123,Tryz.ntmps123
 go_wp2_with fail
 refine (HI.out _).mono ?_;rintro e w1 ⟨rfl,hb1⟩;have hz_w1:=hb1.size;try simp only [World.size_alloc,World.size_setCell] at hz_w1
 have hh:=bc9 hb1 (al9 (b:=w.heap.size) xsi);obtain ⟨c_t0,c_t1,c_t2,c_t3,c_t4,c_t5,c_t6,c_t7,c_t8⟩:=hh;have z_t:=blt hb1 (alz (b:=w.heap.size) xsi);have hB1:Below w.heap.size w w1:=xbel;have HB1:=hid hB1;clear hb1 hB1;go_wp2
 go_ret2
 exact ⟨rfl,HB1.out⟩
theorem density_ok (c:Cfg) (size:Int) (a H h:Nat) (k:CapC c size a H) (hh:h≤H) (n leaf root:Int) (h0:0≤n) (h1:n≤65538) (l0:0≤leaf) (l1:leaf≤64) (r0:0≤root) (r1:root≤64) (w:World):
    Calls Tryz.prog 124 #[.agg #[.int .u8 c.tag,.int .i64 c.most,.int .i64 c.seg,.int .i64 c.least,.int .i64 c.den,.int .i64 c.ll,.int .i64 c.rl,.int .i64 c.rh,.int .i64 c.lh],.int .i64 H,.int .i64 h,.int .i64 n,.int .i64 leaf,.int .i64 root] w (AnsB w (.int .i64 (dnsV c H h n leaf root))):=by
 obtain ⟨e,w4,w6,-⟩:=k.wd hh;have e2:c.seg*2^h=wdC c h:=rfl;have hH:=k.h14;obtain ⟨d0,d1,d2,d3,d4,d5,d6,d7,d8,d9,d10,d11,d12,d13,d14,d15,d16,d17⟩:=cfHead_num (cfMay_head k.may);have m1:=mul_bd (show 0≤c.den by omega) d9 (show (0:Int)≤(H:Int) by omega) (show (H:Int)≤14 by omega);have m2:=mul_bd l0 l1 (show (0:Int)≤(H:Int) by omega) (show (H:Int)≤14 by omega);have m3:=mul_bd l0 l1 (show (0:Int)≤(H:Int)-h by omega) (show (H:Int)-h≤14 by omega);have m4:=mul_bd r0 r1 (show (0:Int)≤(h:Int) by omega) (show (h:Int)≤14 by omega);have m5:=mul_bd l0 l1 (show (0:Int)≤(h:Int) by omega) (show (h:Int)≤14 by omega);have el:=limF_eq leaf root H h;have el2:limF leaf root H h=leaf*H+(root-leaf)*h:=rfl;have e3:(root-leaf)*h=root*h-leaf*h:=Int.sub_mul ..;have bl:0≤limF leaf root H h∧limF leaf root H h≤2000:=xo;have x1:IntKind.i64.wrap (leaf*H)=leaf*H:=IntWalk.i64_in _ xo;have x2:IntKind.i64.wrap ((root-leaf)*h)=(root-leaf)*h:=IntWalk.i64_in _ xo;have x3:IntKind.i64.wrap (leaf*H+(root-leaf)*h)=leaf*H+(root-leaf)*h:=IntWalk.i64_in _ xo;have x4:IntKind.i64.wrap (root-leaf)=root-leaf:=IntWalk.i64_in _ xo;have x5:IntKind.i64.wrap (c.den*H)=c.den*H:=IntWalk.i64_in _ xo;unfold dnsV;have BT:=hid (fun W (hp:0<H)=>Between_ok leaf root h H ⟨by omega,by omega⟩ ⟨by omega,by omega⟩ ⟨by omega,by omega⟩ ⟨by omega,by omega⟩ xo xo xo (limF leaf root H h) rfl x1 x2 x3 x4 W);have C1:=hid (fun W=>Cross_ok n (wdC c h) (limF leaf root H h) (c.den*H) ⟨by omega,by omega⟩ ⟨by omega,by omega⟩ ⟨by omega,by omega⟩ ⟨by omega,by omega⟩ W);have C2:=hid (fun W=>Cross_ok n (wdC c h) root c.den ⟨by omega,by omega⟩ ⟨by omega,by omega⟩ ⟨by omega,by omega⟩ ⟨by omega,by omega⟩ W);clear k e m1 m2 m3 m4 m5 el el2 e3 bl x1 x2 x3 x4;generalize wdC c h=W at *;have hwr:IntKind.i64.wrap (c.seg*2^h)=W:=by rw [e2];exact IntWalk.i64_in _ xo
 clear e2;generalize limF leaf root H h=lim at *;clear d0 d1 d2 d3 d4 d5 d6 d7 d8 d9 d10 d11 d12 d13 d14 d15 d16 d17;rcases Nat.eq_zero_or_pos H with hz|hz
 · rw [if_neg xo];generalize crossV n W root c.den=v at *;have hg:decide (0<(H:Int))=false:=by simp;omega
   clear BT C1;go_enter Tryz.func124,Tryz.ntmps124
   go_upto_region 1 with (fail)
   generalize hwz:w.alloc _=wz;have hh:=ec9 hwz (al9 (b:=w.heap.size) xsi);obtain ⟨c_t0,c_t1,c_t2,c_t3,c_t4,c_t5,c_t6,c_t7,c_t8⟩:=hh;have z_t:=elt hwz (alz (b:=w.heap.size) xsi);have HS:Hid (Below w.heap.size w wz):=by rw [←hwz];exact hid (br.alloc (Nat.le_refl _) _)
   clear hwz;have q0:=cg c_t0;have q1:=cg c_t1;have q2:=cg c_t2;have q3:=cg c_t3;have q4:=cg c_t4;have q5:=cg c_t5;have q6:=cg c_t6;have q7:=cg c_t7;have q8:=cg c_t8;refine wp_region_quiet_below xk xk ?_;repeat (go_big_quiet_step (fail))
   refine wpQuiet_nil ?_;intro _ hw';obtain ⟨⟨dq,osq⟩,hw''⟩:=hw';subst hw'';have hbq:=below_regrown wz dq osq;clear q0 q1 q2 q3 q4 q5 q6 q7 q8;generalize Sort.grow (redrawn wz dq) osq=wx at *;have HB2:=xv hbq HS;have hz2:=HB2.out.size;have hz_wx:=hbq.size;simp (disch:=omega) only [xcl hbq] at *;replace z_t:=blt hbq z_t;go_wp2_with fail
   refine (C2.out _).mono ?_;rintro e w3 ⟨rfl,hb3⟩;have hz_w3:=hb3.size;simp (disch:=omega) only [xcl hb3] at *;replace z_t:=blt hb3 z_t;have HB3:=hid (below_via hb3 HB2.out hz2);go_wp2
   go_ret
   exact ⟨rfl,HB3.out⟩
 · rw [if_pos hz];generalize crossV n W lim (c.den*H)=v at *;have hg:decide (0<(H:Int))=true:=by simp;omega
   have BT':=hid (fun W=>BT.out W hz);clear BT C2;generalize hdH:c.den*(H:Int)=dH at *;go_enter Tryz.func124,Tryz.ntmps124
   go_upto_region 1 with (fail)
   generalize hwz:w.alloc _=wz;have hh:=ec9 hwz (al9 (b:=w.heap.size) xsi);obtain ⟨c_t0,c_t1,c_t2,c_t3,c_t4,c_t5,c_t6,c_t7,c_t8⟩:=hh;have z_t:=elt hwz (alz (b:=w.heap.size) xsi);have HS:Hid (Below w.heap.size w wz):=by rw [←hwz];exact hid (br.alloc (Nat.le_refl _) _)
   clear hwz;have q0:=cg c_t0;have q1:=cg c_t1;have q2:=cg c_t2;have q3:=cg c_t3;have q4:=cg c_t4;have q5:=cg c_t5;have q6:=cg c_t6;have q7:=cg c_t7;have q8:=cg c_t8;refine wp_region_quiet_below xk xk ?_;repeat (go_big_quiet_step (fail))
   refine wpQuiet_nil ?_;intro _ hw';obtain ⟨⟨dq,osq⟩,hw''⟩:=hw';subst hw'';have hbq:=below_regrown wz dq osq;clear q0 q1 q2 q3 q4 q5 q6 q7 q8;generalize Sort.grow (redrawn wz dq) osq=wx at *;have HB2:=xv hbq HS;have hz2:=HB2.out.size;have hz_wx:=hbq.size;simp (disch:=omega) only [xcl hbq] at *;replace z_t:=blt hbq z_t;go_wp2_with fail
   refine (BT'.out _).mono ?_;rintro e w3 ⟨rfl,hb3⟩;have hz_w3:=hb3.size;simp (disch:=omega) only [xcl hb3] at *;replace z_t:=blt hb3 z_t;have HB3:=hid (below_via hb3 HB2.out hz2);have hz3:=HB3.out.size;go_wp2_with fail
   refine (C1.out _).mono ?_;rintro e w4' ⟨rfl,hb4⟩;have hz_w4':=hb4.size;simp (disch:=omega) only [xcl hb4] at *;replace z_t:=blt hb4 z_t;have HB4:=hid (below_via hb4 HB3.out hz3);go_wp2
   go_ret
   exact ⟨rfl,HB4.out⟩
def inB (c:Cfg) (h:Nat) (n:Int):Int:=if n≤wdC c h then 0 else 2
theorem fulB_in {c:Cfg} {size:Int} {a H h:Nat} (k:CapC c size a H) (hh:h≤H) {n:Int} (h1:wdC c h<n):fulB c H h n=false:=by
 obtain ⟨e,w4,w6,-⟩:=k.wd hh;obtain ⟨d0,d1,d2,d3,d4,d5,d6,d7,d8,d9,d10,d11,d12,d13,d14,d15,d16,d17⟩:=cfHead_num (cfMay_head k.may);have m0:wdC c h*c.rh≤wdC c h*c.den:=Int.mul_le_mul_of_nonneg_left xo xo;have m1:wdC c h*c.den<n*c.den:=Int.mul_lt_mul_of_pos_right h1 xo;unfold fulB;split
 · rw [decide_eq_false_iff_not];omega
 · rename_i hz
   rw [decide_eq_false_iff_not];have p1:c.lh*((H:Int)-h)≤c.den*((H:Int)-h):=Int.mul_le_mul_of_nonneg_right xo xo;have p2:c.rh*(h:Int)≤c.den*(h:Int):=Int.mul_le_mul_of_nonneg_right xo xo;have p3:c.den*((H:Int)-h)+c.den*(h:Int)=c.den*(H:Int):=by rw [←Int.mul_add];congr 1;omega
   have p4:wdC c h*(c.lh*((H:Int)-h)+c.rh*h)≤wdC c h*(c.den*(H:Int)):=Int.mul_le_mul_of_nonneg_left xo xo;have p5:wdC c h*(c.den*(H:Int))<n*(c.den*(H:Int)):=Int.mul_lt_mul_of_pos_right h1 (Int.mul_pos xo xo);have p6:n*(H:Int)*c.den=n*(c.den*(H:Int)):=by rw [Int.mul_assoc,Int.mul_comm (H:Int)]
   omega
theorem Full_ok (c:Cfg) (size:Int) (a H h:Nat) (k:CapC c size a H) (hh:h≤H) (n:Int) (h0:0≤n) (h1:n≤65537) (w:World):
    Calls Tryz.prog 91 #[.agg #[.int .u8 c.tag,.int .i64 c.most,.int .i64 c.seg,.int .i64 c.least,.int .i64 c.den,.int .i64 c.ll,.int .i64 c.rl,.int .i64 c.rh,.int .i64 c.lh],.int .i64 size,.int .i64 h,.int .i64 n] w (AnsB w (.tuple #[.bool (fulB c H h n),.int .i64 (inB c h n)])):=by
 unfold inB;by_cases hn:n≤wdC c h
 · rw [if_pos hn];obtain ⟨d0,d1,d2,d3,d4,d5,d6,d7,d8,d9,d10,d11,d12,d13,d14,d15,d16,d17⟩:=cfHead_num (cfMay_head k.may);have AK:=hid (fun W=>casked_in c size a H h k hh n h0 hn W);have DN:=hid (fun W=>density_ok c size a H h k hh n c.lh c.rh h0 xo xo xo xo xo W);have hr:=fulB_dns c H h n;generalize fulB c H h n=r at *;generalize dnsV c H h n c.lh c.rh=v at *;clear k hn;go_enter Tryz.func91,Tryz.ntmps91
   go_wp2_with fail
   refine (AK.out _).mono ?_;rintro e w1 ⟨rfl,hb1⟩;have hz_w1:=hb1.size;try simp only [World.size_alloc,World.size_setCell] at hz_w1
   have hh:=bc9 hb1 (al9 (b:=w.heap.size) xsi);obtain ⟨c_t0,c_t1,c_t2,c_t3,c_t4,c_t5,c_t6,c_t7,c_t8⟩:=hh;have z_t:=blt hb1 (alz (b:=w.heap.size) xsi);have hB1:Below w.heap.size w w1:=xbel;have HB1:=hid hB1;have hz1:=hB1.size;clear hb1 hB1;go_wp2_with fail
   refine (DN.out _).mono ?_;rintro e w3 ⟨rfl,hb3⟩;have hz_w3:=hb3.size;simp (disch:=omega) only [xcl hb3] at *;replace z_t:=blt hb3 z_t;have HB3:=hid (below_via hb3 HB1.out hz1);go_wp2
   go_ret2
   exact ⟨rfl,HB3.out⟩
 · rw [if_neg hn,fulB_in k hh xo];have AK:=hid (fun W=>casked_out c size a H h k hh n h0 xo W);clear k hn;go_enter Tryz.func91,Tryz.ntmps91
   go_wp2_with fail
   refine (AK.out _).mono ?_;rintro e w1 ⟨rfl,hb1⟩;have hz_w1:=hb1.size;try simp only [World.size_alloc,World.size_setCell] at hz_w1
   have hh:=bc9 hb1 (al9 (b:=w.heap.size) xsi);obtain ⟨c_t0,c_t1,c_t2,c_t3,c_t4,c_t5,c_t6,c_t7,c_t8⟩:=hh;have z_t:=blt hb1 (alz (b:=w.heap.size) xsi);have hB1:Below w.heap.size w w1:=xbel;go_wp2
   go_ret2
   exact ⟨rfl,hB1⟩
theorem Sparse_in (c:Cfg) (size:Int) (a H h:Nat) (k:CapC c size a H) (hh:h≤H) (n:Int) (h0:0≤n) (h1:n≤wdC c h) (w:World):
    Calls Tryz.prog 72 #[.agg #[.int .u8 c.tag,.int .i64 c.most,.int .i64 c.seg,.int .i64 c.least,.int .i64 c.den,.int .i64 c.ll,.int .i64 c.rl,.int .i64 c.rh,.int .i64 c.lh],.int .i64 size,.int .i64 h,.int .i64 n] w (AnsB w (.tuple #[.bool (sprB c size H h n),.int .i64 0])):=by
 obtain ⟨d0,d1,d2,d3,d4,d5,d6,d7,d8,d9,d10,d11,d12,d13,d14,d15,d16,d17⟩:=cfHead_num (cfMay_head k.may);obtain ⟨e,w4,w6,-⟩:=k.wd hh;have AK:=hid (fun W=>casked_in c size a H h k hh n h0 h1 W);have DN:=hid (fun W=>density_ok c size a H h k hh (n+1) c.ll c.rl xo xo xo xo xo xo W);have hw1:IntKind.i64.wrap (n+1)=n+1:=IntWalk.i64_in _ xo;have hl:=k.least;unfold sprB;by_cases hs:size=c.least
 · rw [decide_eq_true hs,Bool.true_or];have hs2:(size==c.least)=true:=by simp [hs]
   clear k h1 DN hs hl;generalize c.least=le at *;go_enter Tryz.func72,Tryz.ntmps72
   go_wp2_with fail
   refine (AK.out _).mono ?_;rintro e w1 ⟨rfl,hb1⟩;have hz_w1:=hb1.size;try simp only [World.size_alloc,World.size_setCell] at hz_w1
   have hh:=bc9 hb1 (al9 (b:=w.heap.size) xsi);obtain ⟨c_t0,c_t1,c_t2,c_t3,c_t4,c_t5,c_t6,c_t7,c_t8⟩:=hh;have z_t:=blt hb1 (alz (b:=w.heap.size) xsi);have hB1:Below w.heap.size w w1:=xbel;go_wp2
   go_ret2
   exact ⟨rfl,hB1⟩
 · rw [decide_eq_false hs,Bool.false_or];have hz:0<H:=by
    rcases hl with q|q
    · exact absurd q hs
    · exact q
   have hr:=sprB_dns c size H h n hz;rw [←hr];have hs2:(size==c.least)=false:=by simp [hs]
   clear k h1 hl hr hs;generalize dnsV c H h (n+1) c.ll c.rl=v at *;generalize c.least=le at *;go_enter Tryz.func72,Tryz.ntmps72
   go_wp2_with fail
   refine (AK.out _).mono ?_;rintro e w1 ⟨rfl,hb1⟩;have hz_w1:=hb1.size;try simp only [World.size_alloc,World.size_setCell] at hz_w1
   have hh:=bc9 hb1 (al9 (b:=w.heap.size) xsi);obtain ⟨c_t0,c_t1,c_t2,c_t3,c_t4,c_t5,c_t6,c_t7,c_t8⟩:=hh;have z_t:=blt hb1 (alz (b:=w.heap.size) xsi);have hB1:Below w.heap.size w w1:=xbel;have HB1:=hid hB1;have hz1:=hB1.size;clear hb1 hB1;go_wp2_with fail
   refine (DN.out _).mono ?_;rintro e w3 ⟨rfl,hb3⟩;have hz_w3:=hb3.size;simp (disch:=omega) only [xcl hb3] at *;replace z_t:=blt hb3 z_t;have HB3:=hid (below_via hb3 HB1.out hz1);go_wp2
   go_ret2
   exact ⟨rfl,HB3.out⟩
end
end Go.Proofs.YtjhpblejlchhjaaGreatDoor

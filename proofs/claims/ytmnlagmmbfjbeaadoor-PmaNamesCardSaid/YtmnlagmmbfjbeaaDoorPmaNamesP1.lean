/- Merged: Mem, Lib. -/
import Derived.Deep.MidRow
import Derived.Test.YtmnlagmmbfjbeaaDoorChecked
import Derived.WalkKit
import Derived.WalkSmall
import Derived.WalkLawsBesides
import Derived.BigQuiet
import Derived.Deep.QuietTactic
import Derived.Deep.LoopGhost
import Derived.Lib.Hide
import Derived.Lib.QuietBelow
import Derived.Outline
import Derived.ScopeJumps
import Derived.WalkMore
import Derived.StillTailTactics
import Derived.Deep.RegionLaw
import Derived.IntWalk
namespace Go.Proofs.YtmnlagmmbfjbeaaDoor
set_option maxRecDepth 100000
set_option maxHeartbeats 40000000
set_option linter.unusedVariables false
set_option linter.unusedSimpArgs false
section
open Go.RowKit
theorem xo {P:Prop} (h:P:=by omega):P:=h
theorem xk {P:Prop} (h:P:=by kernel_rfl):P:=h
theorem xdo {P:Prop} (h:P:=by dsimp only;omega):P:=h
theorem xzc {P:Prop} (h:P:=by intro h;cases h):P:=h
theorem xdd {P:Prop} (h:P:=by decide):P:=h
theorem xsi {P:Prop} (h:P:=by simp):P:=h
theorem hid {p:Prop} (h:p):Hid p:=Lib.hid h
theorem szW:(∀(w:World) (o:Obj),(w.alloc o).heap.size=w.heap.size+1)∧(∀(w:World) (a:Addr) (v:Value),(w.setCell a v).heap.size=w.heap.size)∧(∀(w:World),w.drew.heap.size=w.heap.size)∧(∀(w:World) (n:Nat),(w.drewN n).heap=w.heap):=⟨World.size_alloc,World.size_setCell,World.size_drew,World.heap_drewN⟩
theorem ceW:(∀(w:World) (o:Obj) (n i:Nat),n<w.heap.size→(w.alloc o).cell? ⟨n,i,none⟩=w.cell? ⟨n,i,none⟩)∧(∀(w:World) (c:Array Value) (t:TypeId) (n i:Nat),n=w.heap.size→(w.alloc (Obj.cells c t)).cell? ⟨n,i,none⟩=c[i]?)∧(∀(w:World) (o:Obj) (n i:Nat),n<w.heap.size→(w.alloc o).frozen? ⟨n,i,none⟩=w.frozen? ⟨n,i,none⟩)∧(∀(w:World) (c:Array Value) (t:TypeId) (n i:Nat),n=w.heap.size→(w.alloc (Obj.cells c t)).frozen? ⟨n,i,none⟩=false)∧(∀(w:World) (a b:Addr) (v:Value),(w.setCell a v).frozen? b=w.frozen? b)∧(∀(w:World) (a:Addr),w.drew.cell? a=w.cell? a)∧(∀(w:World) (a:Addr),w.drew.frozen? a=w.frozen? a):=
  ⟨fun _=>World.cell?_alloc_past,fun _=>World.cell?_alloc_at,fun _=>World.frozen?_alloc_past,fun _=>World.frozen?_alloc_at,World.frozen?_setCell,World.cell?_drew,World.frozen?_drew⟩
section
variable {P:Program}
theorem run_append_x (w:World) (base:Nat) (t ty e:TypeId) (z:Value) (size bytes:Nat) (ht:P.underlying t=some (.slice e))
    (hinfo:(P.info? e).map (fun i=>(i.zero,i.size,i.bytes))=some (some z,size,bytes)) (hzs:z.cells.size=size) (hsz:0<size)
    (v:Value) (n:Nat) (xs:List Value) (hown:w.ownsRow base e size v n xs)
    (ao:Option Addr) (m c:Nat) (news:List Value) (hl:news.length=m*size) (hnone:ao=none→m=0∧c=0)
    (hnews:∀ad,ao=some ad→∀j u,news[j]? =some u→w.cell? (ad.add j)=some u) (h1:∀u ∈ news,u.oneCell'=true)
    (h63:n+m≤4294967296) (hbytes:bytes≤1024) (hbase:base≤w.heap.size):
    ∃ v' w',(Builtin.append_ #[t,t] ty #[v,.slice ao m c]).run P w= .ok v' w'∧w'.ownsRow base e size v' (n+m) (xs++news)∧w.grownBy w' v.ownBlock∧
      (v'.ownBlock=v.ownBlock∨∀k,v'.ownBlock=some k→w.heap.size≤k):=by
 obtain ⟨i,hi,hz,hs,hb⟩:=info_parts hinfo;have hm1:n+m≤maxLen:=by unfold maxLen;omega
 have hm2:(n+m)*bytes≤140737488355328:=Nat.le_trans (Nat.mul_le_mul h63 hbytes) (by decide);cases ao with
 | none=>
  obtain ⟨rfl,rfl⟩:=hnone rfl;have hn:news=[]:=List.eq_nil_of_length_eq_zero (by simpa using hl);subst hn;refine ⟨v,w,run_append_owned_none w base t ty e i size ht hi v n xs hown,by simpa using hown,World.grownBy.refl _ _,.inl rfl⟩
 | some ad=>
  have hc:=hnews ad rfl;obtain ⟨v',w',hr,ho,hg,_⟩:=run_append_own (P:=P) w base t ty e i z size bytes ht hi hz hs hb hzs hsz v n xs hown ad m c news hl hc h1 hm1 hm2 hbase;refine ⟨v',w',hr,ho,hg,?_⟩;obtain ⟨hx,⟨rfl,rfl⟩ | ⟨g,cap,cur,rfl,hbg,hgg,hnc,hcm,hcs,htake⟩⟩:=hown
  · have hx0:xs=[]:=List.eq_nil_of_length_eq_zero (by simpa using hx);subst hx0;obtain ⟨v2,w2,hr2,ho2,_,_⟩:=run_append_own (P:=P) w w.heap.size t ty e i z size bytes ht hi hz hs hb hzs hsz (.slice none 0 0) 0 [] (World.ownsRow_nil w _ e size) ad m c news hl hc h1 hm1 hm2 (Nat.le_refl _);rw [hr] at hr2;cases hr2;exact .inr fun k hk=>(ho2.lt k hk).1
  · by_cases hroom:n+m≤cap
    · obtain ⟨w2,hr2,_⟩:=run_append_fits (P:=P) w base t ty e i size ht hi hs g n cap xs ⟨hx,.inr ⟨g,cap,cur,rfl,hbg,hgg,hnc,hcm,hcs,htake⟩⟩ ad m c news hl hc h1 hroom;rw [hr] at hr2;cases hr2;exact .inl rfl
    · have holds:=World.ownsRow.cells (w:=w) (base:=base) (e:=e) (size:=size) (n:=n) (xs:=xs) ⟨hx,.inr ⟨g,cap,cur,rfl,hbg,hgg,hnc,hcm,hcs,htake⟩⟩ (g:=g) rfl;have hr2:=run_append_grow (P:=P) w t ty e i z ht hi hz ⟨g,0,none⟩ n cap xs (by rw [hs];exact hx) holds ad m c news (by rw [hs];exact hl) hc (by omega) (by omega) (growslice_fits (by omega) (by rw [hb];exact hm2));rw [hr] at hr2;cases hr2;exact .inr fun k hk=>by cases hk;exact Nat.le_refl _
theorem wpl_append {w:World} {ops:Array Oper} {rest:List Oper} {o:Oper} {a:Act} {Q:Exit→Act→World→Prop} (s x:Operand) (t e:TypeId) (z:Value) (size bytes:Nat)
    (ht:P.underlying t=some (.slice e)) (hinfo:(P.info? e).map (fun i=>(i.zero,i.size,i.bytes))=some (some z,size,bytes)) (hzs:z.cells.size=size) (hsz:0<size) (hbytes:bytes≤1024)
    (B:Nat) (v:Value) (n:Nat) (xs:List Value) (ao:Option Addr) (m c:Nat) (news:List Value)
    (hown:w.ownsRow B e size v n xs) (hl:news.length=m*size) (hnone:ao=none→m=0∧c=0)
    (hnews:∀ad,ao=some ad→∀j u,news[j]? =some u→w.cell? (ad.add j)=some u) (h1:∀u ∈ news,u.oneCell'=true)
    (hlen:n+m≤4294967296) (hbase:B≤w.heap.size)
    (hgd:o.guard=none) (ho:o.op= .call {callee:= .builtin .append,args:= #[s,x],argTypes:= #[t,t]})
    (hs:a.eval s=v) (hx:a.eval x= .slice ao m c)
    (h:∀v' w',w'.ownsRow B e size v' (n+m) (xs++news)→w.grownBy w' v.ownBlock→(v'.ownBlock=v.ownBlock∨∀k,v'.ownBlock=some k→w.heap.size≤k)→wpList P ops Q rest (a.put o.dst v') w'):
    wpList P ops Q (o::rest) a w:=by
 refine wpList_plain hgd fun K hK=> ?_
 obtain ⟨v',w',hr,h2,h3,h4⟩:=run_append_x (P:=P) w B t o.type e z size bytes ht hinfo hzs hsz v n xs hown ao m c news hl hnone hnews h1 hlen hbytes hbase;unfold Oper.wp execOp;simp only [ho,resolve,invoke,builtin,Sem.run_bind,Sem.run_pure,Result.andThen_ok,List.map_toArray,List.map_cons,List.map_nil,hs,hx,hr];exact hK _ _ (h v' w' h2 h3 h4)
end
theorem owns_below {w w':World} {base:Nat} {e:TypeId} {size:Nat} {v:Value} {n:Nat} {xs:List Value}
    (h:w.ownsRow base e size v n xs) (hb:Below w.heap.size w w'):w'.ownsRow base e size v n xs:=by
 obtain ⟨h1,h2⟩:=h;refine ⟨h1,?_⟩;rcases h2 with h2 | ⟨g,cap,cur,hv,hg,hh,r⟩
 · exact .inl h2
 · exact .inr ⟨g,cap,cur,hv,hg,by rw [hb.block g (Array.getElem?_eq_some_iff.1 hh).1];exact hh,r⟩
theorem owns_base {w:World} {base base':Nat} {e:TypeId} {size:Nat} {v:Value} {n:Nat} {xs:List Value}
    (h:w.ownsRow base e size v n xs) (hb:base'≤base):w.ownsRow base' e size v n xs:=by
 obtain ⟨h1,h2⟩:=h;refine ⟨h1,?_⟩;rcases h2 with h2 | ⟨g,cap,cur,hv,hg,r⟩
 · exact .inl h2
 · exact .inr ⟨g,cap,cur,hv,by omega,r⟩
theorem owns_apart {w:World} {b1 b2:Nat} {e1 e2:TypeId} {s1 s2:Nat} {v1 v2:Value} {n1 n2:Nat} {xs1 xs2:List Value}
    (h1:w.ownsRow b1 e1 s1 v1 n1 xs1) (h2:w.ownsRow b2 e2 s2 v2 n2 xs2) (hne:e1≠e2):v1.ownBlock=none∨v1.ownBlock≠v2.ownBlock:=by
 obtain ⟨_,⟨rfl,_⟩ | ⟨g1,c1,cur1,rfl,_,hh1,_⟩⟩:=h1
 · exact .inl rfl
 · obtain ⟨_,⟨rfl,_⟩ | ⟨g2,c2,cur2,rfl,_,hh2,_⟩⟩:=h2
   · exact .inr (by simp [Value.ownBlock])
   · refine .inr fun e=> ?_
     simp only [Value.ownBlock,Option.some.injEq] at e;subst e;rw [hh1] at hh2;cases hh2;exact hne rfl
theorem run_loadVar_one {P:Program} {w:World} {ty:TypeId} {d:TypeDesc} {a:Addr} {v:Value} (hu:P.underlying ty=some d) (hd:(match d with | .struct _ | .array _ _=>true|_=>false)=false) (hc:w.cell? a=some v):
    (loadVar ty a).run P w= .ok v w:=by
 have hagg:(isAgg ty).run P w= .ok false w:=by
  unfold isAgg;rw [Sem.run_bind,run_underlying hu w];cases d<;>simp_all
 simp [loadVar,Sem.run_bind,hagg,hc,Result.andThen]
theorem results_c {P:Program} {fn:Func} {p:Tmp} {ty:TypeId} (h:fn.results= #[.cell p ty]) {t:Array Value} {w:World} {a:Addr} {v:Value}
    (hp:t.getD p undef= .pointer (some a)) (hv:(loadVar ty a).run P w= .ok v w):(results fn t).run P w= .ok v w:=by
 have hp':t[p]?.getD undef= .pointer (some a):=by simpa using hp
 simp [results,h,hp',asAddr,hv]
theorem results_cc {P:Program} {fn:Func} {p q:Tmp} {ty tz:TypeId} (h:fn.results= #[.cell p ty,.cell q tz]) {t:Array Value} {w:World} {a b:Addr} {v u:Value}
    (hp:t.getD p undef= .pointer (some a)) (hq:t.getD q undef= .pointer (some b)) (hv:(loadVar ty a).run P w= .ok v w) (hu:(loadVar tz b).run P w= .ok u w):
    (results fn t).run P w= .ok (.tuple #[v,u]) w:=by
 have hp':t[p]?.getD undef= .pointer (some a):=by simpa using hp
 have hq':t[q]?.getD undef= .pointer (some b):=by simpa using hq
 simp [results,h,hp',hq',asAddr,hv,hu]
theorem results_ct {P:Program} {fn:Func} {p q:Tmp} {ty:TypeId} (h:fn.results= #[.cell p ty,.tmp q]) {t:Array Value} {w:World} {a:Addr} {v:Value}
    (hp:t.getD p undef= .pointer (some a)) (hv:(loadVar ty a).run P w= .ok v w):
    (results fn t).run P w= .ok (.tuple #[v,t.getD q undef]) w:=by
 have hp':t[p]?.getD undef= .pointer (some a):=by simpa using hp
 simp [results,h,hp',asAddr,hv]
theorem new_cells (w:World) (vs:List Value) (t:TypeId) (k:Nat) (hk:k=w.heap.size):
    ∀ad,some (⟨k,0,none⟩:Addr)=some ad→∀j u,vs[j]? =some u→(w.alloc (.cells vs.toArray t)).cell? (ad.add j)=some u:=by
 intro ad had j u hj;cases had;subst hk;rw [Addr.add_lit,Nat.zero_add,World.cell?_alloc_at _ _ _ _ rfl];simpa using hj
theorem frame_mk (F:(Nat→Value)→Array Value) (t:Array Value) (ds:List Deferred) (h:F (fun i=>t.getD i undef)=t):∃u,({tmps:=t,defers:=ds}:Act)= {tmps:=F u,defers:=ds}:=
  ⟨_,by rw [h]⟩
theorem wp_scope_loop {P:Program} {c B:Code} (l:Nat) {Q:Exit→Act→World→Prop} {a:Act} {w:World} (J:Nat→Act→World→Prop) (hf:findLabel c l=some (.seq .skip B))
    (pass:∀n a w,J n a w→∀H:Act→World→Prop,(∀k a' w',k<n→J k a' w'→H a' w')→B.wp P (Exit.jump l H Q) a w)
    (first:∀H:Act→World→Prop,(∀k a' w',J k a' w'→H a' w')→(∀k a' w',J k a' w'→B.wp P (Exit.jump l H Q) a' w')→c.wp P (Exit.jump l H Q) a w):
    (Code.scope c).wp P Q a w:=by
 refine wp_scope_jumps l (fun a w=>∃n,J n a w) (fun a w=>leastOf (fun n=>J n a w)) hf ?_ ?_
 · exact first _ (fun k a' w' h=>⟨k,h⟩) (fun k a' w' h=>Code.wp_mono (fun e a w q=>q) (pass k a' w' h _ (fun k a' w' _ h=>⟨k,h⟩)))
 · intro a w hJ;refine wp_seq (wp_skip ?_);refine pass _ a w (leastOf_spec hJ).1 _ ?_;intro k a' w' hk h;exact ⟨⟨k,h⟩,Nat.lt_of_le_of_lt ((leastOf_spec ⟨k,h⟩).2 k h) hk⟩
theorem heap_setCell_ne (w:World) (a:Addr) (v:Value) {k:Nat} (h:k≠a.block):(w.setCell a v).heap[k]? =w.heap[k]? :=by
 simp only [World.setCell,Array.getElem?_modify];rw [if_neg (fun e=>h e.symm)]
theorem owns_heap {W W':World} {base:Nat} {e:TypeId} {size:Nat} {v:Value} {n:Nat} {xs:List Value} (ho:W.ownsRow base e size v n xs) (hh:∀k,v.ownBlock=some k→W'.heap[k]? =W.heap[k]?):W'.ownsRow base e size v n xs:=by
 obtain ⟨h1,h2⟩:=ho;refine ⟨h1,?_⟩;rcases h2 with h2 | ⟨g,cap,cur,hv,hg,hp,r⟩
 · exact .inl h2
 · exact .inr ⟨g,cap,cur,hv,hg,(hh g (by rw [hv];rfl)).trans hp,r⟩
theorem run_loadVar_two {P:Program} {w:World} {ty:TypeId} {d:TypeDesc} {b:Nat} {v u:Value} (hu:P.underlying ty=some d) (hd:d.isRow=true) (hi:(P.info? ty).map (·.size)=some 2)
    (h0:w.cell? ⟨b,0,none⟩=some v) (h1:w.cell? ⟨b,1,none⟩=some u):(loadVar ty ⟨b,0,none⟩).run P w= .ok (.agg #[v,u]) w:=
  run_loadVar_mid w b 0 ty [v,u] d (fun j x hj=>by
   match j with
   | 0=>simp at hj;rw [←hj];exact h0
   | 1=>simp at hj;rw [←hj];exact h1
   | n+2=>simp at hj) hu hd hi
end
section
open Go.RowKit
open Go.Sort in
theorem cg {w:World} {a:Addr} {v:Value} (h:w.cell? a=some v) (d:Nat) (os:Array Obj):(grow (redrawn w d) os).cell? a=some v:=cell_regrown h d os
open Go.Sort in
theorem kr {P:Program} {f:FuncId} {args:Array Value} (w:World) (d:Nat) (os:Array Obj) {v:Value}
    (h:Calls P f args (grow (redrawn w d) os) fun e w'=>e= .returned v∧Below (grow (redrawn w d) os).heap.size (grow (redrawn w d) os) w'):Calls P f args (grow (redrawn w d) os) fun e w''=>e= .returned v∧∃p:Regrown,w''=grow (redrawn w p.d) p.os:=Calls.regrown_of h
abbrev tg (a:Act) (i:Nat):Value:=a.tmps.getD i undef
theorem br {B:Nat} {w:World}:Below B w w:=Below.refl _ _
theorem xjc {B:Nat} {w w':World} {p:Addr} {v:Value} (hb:Below B w w') (c:w.cell? p=some v) (h:p.block<B:=by dsimp only;omega):w'.cell? p=some v:=(hb.cell h).trans c
theorem xjt {B:Nat} {w w':World} {p:Addr} {v:Value} (hb:Below B w w') (h:p.block<B) (c:w.cell? p=some v):w'.cell? p=some v:=(hb.cell h).trans c
theorem xft {B:Nat} {w w':World} {p:Addr} {v:Bool} (hb:Below B w w') (h:p.block<B) (c:w.frozen? p=v):w'.frozen? p=v:=(hb.frozen h).trans c
theorem xjf {B:Nat} {w w':World} {p:Addr} {v:Bool} (hb:Below B w w') (c:w.frozen? p=v) (h:p.block<B:=by dsimp only;omega):w'.frozen? p=v:=(hb.frozen h).trans c
theorem xob {w w':World} {p:Addr} {v:Value} (c:w.cell? p=some v) (h:w'.heap[p.block]? =w.heap[p.block]?):w'.cell? p=some v:=(World.cell?_of_block h).trans c
def IsInts (w:World) (a:Option Addr) (xs:List Int):Prop:=
  ∀i,i<xs.length→∃b off,a=some ⟨b,off,none⟩∧b<w.heap.size∧∀j,j<xs.length→w.cell? ⟨b,off+j,none⟩=some (.int .i64 (xs.getD j 0))
theorem IsInts.below {w w':World} {a:Option Addr} {xs:List Int} (h:IsInts w a xs) (hb:Below w.heap.size w w'):IsInts w' a xs:=by
 intro i hi;obtain ⟨b,off,ha,hlt,hc⟩:=h i hi;exact ⟨b,off,ha,Nat.lt_of_lt_of_le hlt hb.size,fun j hj=>(hb.cell (p:=⟨b,off+j,none⟩) hlt).trans (hc j hj)⟩
theorem IsInts.setCell {w:World} {a:Option Addr} {xs:List Int} (h:IsInts w a xs) {p:Addr} (hne:∀x,a=some x→x.block≠p.block) (v:Value):IsInts (w.setCell p v) a xs:=by
 intro i hi;obtain ⟨b,off,ha,hlt,hc⟩:=h i hi;refine ⟨b,off,ha,by simpa using hlt,fun j hj=> ?_⟩;rw [World.cell?_setCell_other]
 · exact hc j hj
 · intro e;exact hne _ ha (by rw [e])
theorem IsInts.get {w:World} {a:Option Addr} {xs:List Int} (h:IsInts w a xs) {k:Nat} (hk:k<xs.length):
    ∃b off x,a=some ⟨b,off,none⟩∧Hid (xs.getD k 0=x)∧w.cell? ⟨b,off+k,none⟩=some (.int .i64 x)∧b<w.heap.size:=by
 obtain ⟨b,off,ha,hlt,hc⟩:=h k hk;exact ⟨b,off,_,ha,Lib.hid rfl,hc k hk,hlt⟩
theorem info_int:(Tryd.prog.info? 3).map (fun i=>(i.zero,i.size,i.bytes))=some (some (.int .i64 0),1,8):=by kernel_rfl
def FreshInts (w:World) (xs:List Int) (e:Ending) (w':World):Prop:=
  ∃v,e= .returned v∧w'.ownsRow w.heap.size 3 1 v xs.length (xs.map (Value.int .i64))∧Below w.heap.size w w'
def ints (l:List Nat):List Int:=List.map (fun n:Nat=>(n:Int)) l
theorem ints_length (l:List Nat):(ints l).length=l.length:=by simp [ints]
theorem getD_ints (l:List Nat) (k:Nat):(ints l).getD k 0=((l.getD k 0:Nat):Int):=by
 simp [ints,List.getD_eq_getElem?_getD];cases l[k]? <;>simp
theorem owns_news {w:World} {B:Nat} {e:TypeId} {s:Nat} {v:Value} {n:Nat} {xs:List Value} (h:w.ownsRow B e s v n xs):
    ∃ao c,v= .slice ao n c∧(ao=none→n=0∧c=0)∧∀ad,ao=some ad→∀j u,xs[j]? =some u→w.cell? (ad.add j)=some u:=by
 have h0:=h;obtain ⟨h1,⟨rfl,h2⟩ | ⟨g,cap,cur,rfl,hg,hh,hn',hm,hs,ht⟩⟩:=h
 · exact ⟨none,0,by rw [h2],fun _=>⟨h2,rfl⟩,fun ad had=>by cases had⟩
 · exact ⟨some ⟨g,0,none⟩,cap,rfl,fun hx=>(by cases hx),fun ad had=>(by cases had;exact World.ownsRow.cells h0 rfl)⟩
theorem bc1 {W W':World} {p:Addr} {v:Value} (hb:Below W.heap.size W W') (h:W.cell? p=some v):W'.cell? p=some v:=(hb.cell (World.block_lt_of_cell? _ _ h)).trans h
theorem bf1 {W W':World} {p:Addr} (hb:Below W.heap.size W W') (hz:p.block<W.heap.size) (h:W.frozen? p=false):W'.frozen? p=false:=(hb.frozen hz).trans h
theorem bc2 {W W':World} {b:Nat} {v0 v1:Value} (hb:Below W.heap.size W W') (h:W.cell? ⟨b,0,none⟩=some v0∧W.cell? ⟨b,1,none⟩=some v1):W'.cell? ⟨b,0,none⟩=some v0∧W'.cell? ⟨b,1,none⟩=some v1:=by
 obtain ⟨h0,h1⟩:=h;exact ⟨bc1 hb h0,bc1 hb h1⟩
theorem bf2 {W W':World} {b:Nat} (hb:Below W.heap.size W W') (hz:b<W.heap.size) (h:W.frozen? ⟨b,0,none⟩=false∧W.frozen? ⟨b,1,none⟩=false):W'.frozen? ⟨b,0,none⟩=false∧W'.frozen? ⟨b,1,none⟩=false:=by
 obtain ⟨h0,h1⟩:=h;exact ⟨bf1 hb hz h0,bf1 hb hz h1⟩
theorem bc6 {W W':World} {b:Nat} {v0 v1 v2 v3 v4 v5:Value} (hb:Below W.heap.size W W') (h:W.cell? ⟨b,0,none⟩=some v0∧W.cell? ⟨b,1,none⟩=some v1∧W.cell? ⟨b,2,none⟩=some v2∧W.cell? ⟨b,3,none⟩=some v3∧W.cell? ⟨b,4,none⟩=some v4∧W.cell? ⟨b,5,none⟩=some v5):W'.cell? ⟨b,0,none⟩=some v0∧W'.cell? ⟨b,1,none⟩=some v1∧W'.cell? ⟨b,2,none⟩=some v2∧W'.cell? ⟨b,3,none⟩=some v3∧W'.cell? ⟨b,4,none⟩=some v4∧W'.cell? ⟨b,5,none⟩=some v5:=by
 obtain ⟨h0,h1,h2,h3,h4,h5⟩:=h;exact ⟨bc1 hb h0,bc1 hb h1,bc1 hb h2,bc1 hb h3,bc1 hb h4,bc1 hb h5⟩
theorem bf6 {W W':World} {b:Nat} (hb:Below W.heap.size W W') (hz:b<W.heap.size) (h:W.frozen? ⟨b,0,none⟩=false∧W.frozen? ⟨b,1,none⟩=false∧W.frozen? ⟨b,2,none⟩=false∧W.frozen? ⟨b,3,none⟩=false∧W.frozen? ⟨b,4,none⟩=false∧W.frozen? ⟨b,5,none⟩=false):W'.frozen? ⟨b,0,none⟩=false∧W'.frozen? ⟨b,1,none⟩=false∧W'.frozen? ⟨b,2,none⟩=false∧W'.frozen? ⟨b,3,none⟩=false∧W'.frozen? ⟨b,4,none⟩=false∧W'.frozen? ⟨b,5,none⟩=false:=by
 obtain ⟨h0,h1,h2,h3,h4,h5⟩:=h;exact ⟨bf1 hb hz h0,bf1 hb hz h1,bf1 hb hz h2,bf1 hb hz h3,bf1 hb hz h4,bf1 hb hz h5⟩
theorem bc9 {W W':World} {b:Nat} {v0 v1 v2 v3 v4 v5 v6 v7 v8:Value} (hb:Below W.heap.size W W') (h:W.cell? ⟨b,0,none⟩=some v0∧W.cell? ⟨b,1,none⟩=some v1∧W.cell? ⟨b,2,none⟩=some v2∧W.cell? ⟨b,3,none⟩=some v3∧W.cell? ⟨b,4,none⟩=some v4∧W.cell? ⟨b,5,none⟩=some v5∧W.cell? ⟨b,6,none⟩=some v6∧W.cell? ⟨b,7,none⟩=some v7∧W.cell? ⟨b,8,none⟩=some v8):W'.cell? ⟨b,0,none⟩=some v0∧W'.cell? ⟨b,1,none⟩=some v1∧W'.cell? ⟨b,2,none⟩=some v2∧W'.cell? ⟨b,3,none⟩=some v3∧W'.cell? ⟨b,4,none⟩=some v4∧W'.cell? ⟨b,5,none⟩=some v5∧W'.cell? ⟨b,6,none⟩=some v6∧W'.cell? ⟨b,7,none⟩=some v7∧W'.cell? ⟨b,8,none⟩=some v8:=by
 obtain ⟨h0,h1,h2,h3,h4,h5,h6,h7,h8⟩:=h;exact ⟨bc1 hb h0,bc1 hb h1,bc1 hb h2,bc1 hb h3,bc1 hb h4,bc1 hb h5,bc1 hb h6,bc1 hb h7,bc1 hb h8⟩
theorem blt {W W':World} {b:Nat} (hb:Below W.heap.size W W') (h:b<W.heap.size):b<W'.heap.size:=Nat.lt_of_lt_of_le h hb.size
theorem alz {w:World} {b:Nat} {o:Obj} (hk:b=w.heap.size):b<(w.alloc o).heap.size:=by subst hk;simp
theorem auz {w:World} {b:Nat} {o:Obj} (h:b<w.heap.size):b<(w.alloc o).heap.size:=by simp;omega
theorem elt {X W:World} {b:Nat} (e:X=W) (h:b<X.heap.size):b<W.heap.size:=e ▸ h
theorem al1 {w:World} {b:Nat} {t:TypeId} {v0:Value} (hk:b=w.heap.size):(w.alloc (.cells #[v0] t)).cell? ⟨b,0,none⟩=some v0:=by
 subst hk;rw [World.cell?_alloc_at _ _ _ _ rfl];rfl
theorem alf1 {w:World} {b:Nat} {t:TypeId} {cs:Array Value} (hk:b=w.heap.size):(w.alloc (.cells cs t)).frozen? ⟨b,0,none⟩=false:=by
 subst hk;exact ceW.2.2.2.1 _ _ _ _ _ rfl
theorem au1 {w:World} {o:Obj} {p:Addr} {v:Value} (h:w.cell? p=some v):(w.alloc o).cell? p=some v:=bc1 ((Below.refl _ _).alloc (Nat.le_refl _) _) h
theorem auf1 {w:World} {o:Obj} {p:Addr} (hz:p.block<w.heap.size) (h:w.frozen? p=false):(w.alloc o).frozen? p=false:=bf1 ((Below.refl _ _).alloc (Nat.le_refl _) _) hz h
theorem ec1 {X W:World} {p:Addr} {v:Value} (e:X=W) (h:X.cell? p=some v):W.cell? p=some v:=e ▸ h
theorem ef1 {X W:World} {p:Addr} (e:X=W) (h:X.frozen? p=false):W.frozen? p=false:=e ▸ h
theorem al2 {w:World} {b:Nat} {t:TypeId} {v0 v1:Value} (hk:b=w.heap.size):(w.alloc (.cells #[v0,v1] t)).cell? ⟨b,0,none⟩=some v0∧(w.alloc (.cells #[v0,v1] t)).cell? ⟨b,1,none⟩=some v1:=by
 subst hk;exact ⟨by rw [World.cell?_alloc_at _ _ _ _ rfl];rfl,by rw [World.cell?_alloc_at _ _ _ _ rfl];rfl⟩
theorem alf2 {w:World} {b:Nat} {t:TypeId} {cs:Array Value} (hk:b=w.heap.size):(w.alloc (.cells cs t)).frozen? ⟨b,0,none⟩=false∧(w.alloc (.cells cs t)).frozen? ⟨b,1,none⟩=false:=by
 subst hk;refine ⟨?_,?_⟩<;>exact ceW.2.2.2.1 _ _ _ _ _ rfl
theorem au2 {w:World} {o:Obj} {b:Nat} {v0 v1:Value} (h:w.cell? ⟨b,0,none⟩=some v0∧w.cell? ⟨b,1,none⟩=some v1):(w.alloc o).cell? ⟨b,0,none⟩=some v0∧(w.alloc o).cell? ⟨b,1,none⟩=some v1:=bc2 ((Below.refl _ _).alloc (Nat.le_refl _) _) h
theorem auf2 {w:World} {o:Obj} {b:Nat} (hz:b<w.heap.size) (h:w.frozen? ⟨b,0,none⟩=false∧w.frozen? ⟨b,1,none⟩=false):(w.alloc o).frozen? ⟨b,0,none⟩=false∧(w.alloc o).frozen? ⟨b,1,none⟩=false:=bf2 ((Below.refl _ _).alloc (Nat.le_refl _) _) hz h
theorem ec2 {X W:World} {b:Nat} {v0 v1:Value} (e:X=W) (h:X.cell? ⟨b,0,none⟩=some v0∧X.cell? ⟨b,1,none⟩=some v1):W.cell? ⟨b,0,none⟩=some v0∧W.cell? ⟨b,1,none⟩=some v1:=e ▸ h
theorem ef2 {X W:World} {b:Nat} (e:X=W) (h:X.frozen? ⟨b,0,none⟩=false∧X.frozen? ⟨b,1,none⟩=false):W.frozen? ⟨b,0,none⟩=false∧W.frozen? ⟨b,1,none⟩=false:=e ▸ h
theorem al6 {w:World} {b:Nat} {t:TypeId} {v0 v1 v2 v3 v4 v5:Value} (hk:b=w.heap.size):(w.alloc (.cells #[v0,v1,v2,v3,v4,v5] t)).cell? ⟨b,0,none⟩=some v0∧(w.alloc (.cells #[v0,v1,v2,v3,v4,v5] t)).cell? ⟨b,1,none⟩=some v1∧(w.alloc (.cells #[v0,v1,v2,v3,v4,v5] t)).cell? ⟨b,2,none⟩=some v2∧(w.alloc (.cells #[v0,v1,v2,v3,v4,v5] t)).cell? ⟨b,3,none⟩=some v3∧(w.alloc (.cells #[v0,v1,v2,v3,v4,v5] t)).cell? ⟨b,4,none⟩=some v4∧(w.alloc (.cells #[v0,v1,v2,v3,v4,v5] t)).cell? ⟨b,5,none⟩=some v5:=by
 subst hk;exact ⟨by rw [World.cell?_alloc_at _ _ _ _ rfl];rfl,by rw [World.cell?_alloc_at _ _ _ _ rfl];rfl,by rw [World.cell?_alloc_at _ _ _ _ rfl];rfl,by rw [World.cell?_alloc_at _ _ _ _ rfl];rfl,by rw [World.cell?_alloc_at _ _ _ _ rfl];rfl,by rw [World.cell?_alloc_at _ _ _ _ rfl];rfl⟩
theorem alf6 {w:World} {b:Nat} {t:TypeId} {cs:Array Value} (hk:b=w.heap.size):(w.alloc (.cells cs t)).frozen? ⟨b,0,none⟩=false∧(w.alloc (.cells cs t)).frozen? ⟨b,1,none⟩=false∧(w.alloc (.cells cs t)).frozen? ⟨b,2,none⟩=false∧(w.alloc (.cells cs t)).frozen? ⟨b,3,none⟩=false∧(w.alloc (.cells cs t)).frozen? ⟨b,4,none⟩=false∧(w.alloc (.cells cs t)).frozen? ⟨b,5,none⟩=false:=by
 subst hk;refine ⟨?_,?_,?_,?_,?_,?_⟩<;>exact ceW.2.2.2.1 _ _ _ _ _ rfl
theorem au6 {w:World} {o:Obj} {b:Nat} {v0 v1 v2 v3 v4 v5:Value} (h:w.cell? ⟨b,0,none⟩=some v0∧w.cell? ⟨b,1,none⟩=some v1∧w.cell? ⟨b,2,none⟩=some v2∧w.cell? ⟨b,3,none⟩=some v3∧w.cell? ⟨b,4,none⟩=some v4∧w.cell? ⟨b,5,none⟩=some v5):(w.alloc o).cell? ⟨b,0,none⟩=some v0∧(w.alloc o).cell? ⟨b,1,none⟩=some v1∧(w.alloc o).cell? ⟨b,2,none⟩=some v2∧(w.alloc o).cell? ⟨b,3,none⟩=some v3∧(w.alloc o).cell? ⟨b,4,none⟩=some v4∧(w.alloc o).cell? ⟨b,5,none⟩=some v5:=bc6 ((Below.refl _ _).alloc (Nat.le_refl _) _) h
theorem auf6 {w:World} {o:Obj} {b:Nat} (hz:b<w.heap.size) (h:w.frozen? ⟨b,0,none⟩=false∧w.frozen? ⟨b,1,none⟩=false∧w.frozen? ⟨b,2,none⟩=false∧w.frozen? ⟨b,3,none⟩=false∧w.frozen? ⟨b,4,none⟩=false∧w.frozen? ⟨b,5,none⟩=false):(w.alloc o).frozen? ⟨b,0,none⟩=false∧(w.alloc o).frozen? ⟨b,1,none⟩=false∧(w.alloc o).frozen? ⟨b,2,none⟩=false∧(w.alloc o).frozen? ⟨b,3,none⟩=false∧(w.alloc o).frozen? ⟨b,4,none⟩=false∧(w.alloc o).frozen? ⟨b,5,none⟩=false:=bf6 ((Below.refl _ _).alloc (Nat.le_refl _) _) hz h
theorem ec6 {X W:World} {b:Nat} {v0 v1 v2 v3 v4 v5:Value} (e:X=W) (h:X.cell? ⟨b,0,none⟩=some v0∧X.cell? ⟨b,1,none⟩=some v1∧X.cell? ⟨b,2,none⟩=some v2∧X.cell? ⟨b,3,none⟩=some v3∧X.cell? ⟨b,4,none⟩=some v4∧X.cell? ⟨b,5,none⟩=some v5):W.cell? ⟨b,0,none⟩=some v0∧W.cell? ⟨b,1,none⟩=some v1∧W.cell? ⟨b,2,none⟩=some v2∧W.cell? ⟨b,3,none⟩=some v3∧W.cell? ⟨b,4,none⟩=some v4∧W.cell? ⟨b,5,none⟩=some v5:=e ▸ h
theorem ef6 {X W:World} {b:Nat} (e:X=W) (h:X.frozen? ⟨b,0,none⟩=false∧X.frozen? ⟨b,1,none⟩=false∧X.frozen? ⟨b,2,none⟩=false∧X.frozen? ⟨b,3,none⟩=false∧X.frozen? ⟨b,4,none⟩=false∧X.frozen? ⟨b,5,none⟩=false):W.frozen? ⟨b,0,none⟩=false∧W.frozen? ⟨b,1,none⟩=false∧W.frozen? ⟨b,2,none⟩=false∧W.frozen? ⟨b,3,none⟩=false∧W.frozen? ⟨b,4,none⟩=false∧W.frozen? ⟨b,5,none⟩=false:=e ▸ h
theorem al9 {w:World} {b:Nat} {t:TypeId} {v0 v1 v2 v3 v4 v5 v6 v7 v8:Value} (hk:b=w.heap.size):(w.alloc (.cells #[v0,v1,v2,v3,v4,v5,v6,v7,v8] t)).cell? ⟨b,0,none⟩=some v0∧(w.alloc (.cells #[v0,v1,v2,v3,v4,v5,v6,v7,v8] t)).cell? ⟨b,1,none⟩=some v1∧(w.alloc (.cells #[v0,v1,v2,v3,v4,v5,v6,v7,v8] t)).cell? ⟨b,2,none⟩=some v2∧(w.alloc (.cells #[v0,v1,v2,v3,v4,v5,v6,v7,v8] t)).cell? ⟨b,3,none⟩=some v3∧(w.alloc (.cells #[v0,v1,v2,v3,v4,v5,v6,v7,v8] t)).cell? ⟨b,4,none⟩=some v4∧(w.alloc (.cells #[v0,v1,v2,v3,v4,v5,v6,v7,v8] t)).cell? ⟨b,5,none⟩=some v5∧(w.alloc (.cells #[v0,v1,v2,v3,v4,v5,v6,v7,v8] t)).cell? ⟨b,6,none⟩=some v6∧(w.alloc (.cells #[v0,v1,v2,v3,v4,v5,v6,v7,v8] t)).cell? ⟨b,7,none⟩=some v7∧(w.alloc (.cells #[v0,v1,v2,v3,v4,v5,v6,v7,v8] t)).cell? ⟨b,8,none⟩=some v8:=by
 subst hk;exact ⟨by rw [World.cell?_alloc_at _ _ _ _ rfl];rfl,by rw [World.cell?_alloc_at _ _ _ _ rfl];rfl,by rw [World.cell?_alloc_at _ _ _ _ rfl];rfl,by rw [World.cell?_alloc_at _ _ _ _ rfl];rfl,by rw [World.cell?_alloc_at _ _ _ _ rfl];rfl,by rw [World.cell?_alloc_at _ _ _ _ rfl];rfl,by rw [World.cell?_alloc_at _ _ _ _ rfl];rfl,by rw [World.cell?_alloc_at _ _ _ _ rfl];rfl,by rw [World.cell?_alloc_at _ _ _ _ rfl];rfl⟩
theorem au9 {w:World} {o:Obj} {b:Nat} {v0 v1 v2 v3 v4 v5 v6 v7 v8:Value} (h:w.cell? ⟨b,0,none⟩=some v0∧w.cell? ⟨b,1,none⟩=some v1∧w.cell? ⟨b,2,none⟩=some v2∧w.cell? ⟨b,3,none⟩=some v3∧w.cell? ⟨b,4,none⟩=some v4∧w.cell? ⟨b,5,none⟩=some v5∧w.cell? ⟨b,6,none⟩=some v6∧w.cell? ⟨b,7,none⟩=some v7∧w.cell? ⟨b,8,none⟩=some v8):(w.alloc o).cell? ⟨b,0,none⟩=some v0∧(w.alloc o).cell? ⟨b,1,none⟩=some v1∧(w.alloc o).cell? ⟨b,2,none⟩=some v2∧(w.alloc o).cell? ⟨b,3,none⟩=some v3∧(w.alloc o).cell? ⟨b,4,none⟩=some v4∧(w.alloc o).cell? ⟨b,5,none⟩=some v5∧(w.alloc o).cell? ⟨b,6,none⟩=some v6∧(w.alloc o).cell? ⟨b,7,none⟩=some v7∧(w.alloc o).cell? ⟨b,8,none⟩=some v8:=bc9 ((Below.refl _ _).alloc (Nat.le_refl _) _) h
theorem ec9 {X W:World} {b:Nat} {v0 v1 v2 v3 v4 v5 v6 v7 v8:Value} (e:X=W) (h:X.cell? ⟨b,0,none⟩=some v0∧X.cell? ⟨b,1,none⟩=some v1∧X.cell? ⟨b,2,none⟩=some v2∧X.cell? ⟨b,3,none⟩=some v3∧X.cell? ⟨b,4,none⟩=some v4∧X.cell? ⟨b,5,none⟩=some v5∧X.cell? ⟨b,6,none⟩=some v6∧X.cell? ⟨b,7,none⟩=some v7∧X.cell? ⟨b,8,none⟩=some v8):W.cell? ⟨b,0,none⟩=some v0∧W.cell? ⟨b,1,none⟩=some v1∧W.cell? ⟨b,2,none⟩=some v2∧W.cell? ⟨b,3,none⟩=some v3∧W.cell? ⟨b,4,none⟩=some v4∧W.cell? ⟨b,5,none⟩=some v5∧W.cell? ⟨b,6,none⟩=some v6∧W.cell? ⟨b,7,none⟩=some v7∧W.cell? ⟨b,8,none⟩=some v8:=e ▸ h
@[reducible] def CB15 (W:World) (b:Nat) (v0 v1 v2 v3 v4 v5 v6 v7 v8 v9 v10 v11 v12 v13 v14:Value):Prop:=W.cell? ⟨b,0,none⟩=some v0∧W.cell? ⟨b,1,none⟩=some v1∧W.cell? ⟨b,2,none⟩=some v2∧W.cell? ⟨b,3,none⟩=some v3∧W.cell? ⟨b,4,none⟩=some v4∧W.cell? ⟨b,5,none⟩=some v5∧W.cell? ⟨b,6,none⟩=some v6∧W.cell? ⟨b,7,none⟩=some v7∧W.cell? ⟨b,8,none⟩=some v8∧W.cell? ⟨b,9,none⟩=some v9∧W.cell? ⟨b,10,none⟩=some v10∧W.cell? ⟨b,11,none⟩=some v11∧W.cell? ⟨b,12,none⟩=some v12∧W.cell? ⟨b,13,none⟩=some v13∧W.cell? ⟨b,14,none⟩=some v14
@[reducible] def FB15 (W:World) (b:Nat):Prop:=W.frozen? ⟨b,0,none⟩=false∧W.frozen? ⟨b,1,none⟩=false∧W.frozen? ⟨b,2,none⟩=false∧W.frozen? ⟨b,3,none⟩=false∧W.frozen? ⟨b,4,none⟩=false∧W.frozen? ⟨b,5,none⟩=false∧W.frozen? ⟨b,6,none⟩=false∧W.frozen? ⟨b,7,none⟩=false∧W.frozen? ⟨b,8,none⟩=false∧W.frozen? ⟨b,9,none⟩=false∧W.frozen? ⟨b,10,none⟩=false∧W.frozen? ⟨b,11,none⟩=false∧W.frozen? ⟨b,12,none⟩=false∧W.frozen? ⟨b,13,none⟩=false∧W.frozen? ⟨b,14,none⟩=false
theorem bc15 {W W':World} {b:Nat} {v0 v1 v2 v3 v4 v5 v6 v7 v8 v9 v10 v11 v12 v13 v14:Value} (hb:Below W.heap.size W W') (h:CB15 W b v0 v1 v2 v3 v4 v5 v6 v7 v8 v9 v10 v11 v12 v13 v14):CB15 W' b v0 v1 v2 v3 v4 v5 v6 v7 v8 v9 v10 v11 v12 v13 v14:=by
 obtain ⟨h0,h1,h2,h3,h4,h5,h6,h7,h8,h9,h10,h11,h12,h13,h14⟩:=h;exact ⟨bc1 hb h0,bc1 hb h1,bc1 hb h2,bc1 hb h3,bc1 hb h4,bc1 hb h5,bc1 hb h6,bc1 hb h7,bc1 hb h8,bc1 hb h9,bc1 hb h10,bc1 hb h11,bc1 hb h12,bc1 hb h13,bc1 hb h14⟩
theorem bf15 {W W':World} {b:Nat} (hb:Below W.heap.size W W') (hz:b<W.heap.size) (h:FB15 W b):FB15 W' b:=by
 obtain ⟨h0,h1,h2,h3,h4,h5,h6,h7,h8,h9,h10,h11,h12,h13,h14⟩:=h;exact ⟨bf1 hb hz h0,bf1 hb hz h1,bf1 hb hz h2,bf1 hb hz h3,bf1 hb hz h4,bf1 hb hz h5,bf1 hb hz h6,bf1 hb hz h7,bf1 hb hz h8,bf1 hb hz h9,bf1 hb hz h10,bf1 hb hz h11,bf1 hb hz h12,bf1 hb hz h13,bf1 hb hz h14⟩
theorem al15 {w:World} {b:Nat} {t:TypeId} {v0 v1 v2 v3 v4 v5 v6 v7 v8 v9 v10 v11 v12 v13 v14:Value} (hk:b=w.heap.size):CB15 (w.alloc (.cells #[v0,v1,v2,v3,v4,v5,v6,v7,v8,v9,v10,v11,v12,v13,v14] t)) b v0 v1 v2 v3 v4 v5 v6 v7 v8 v9 v10 v11 v12 v13 v14:=by
 subst hk;refine ⟨?_,?_,?_,?_,?_,?_,?_,?_,?_,?_,?_,?_,?_,?_,?_⟩<;>(rw [World.cell?_alloc_at _ _ _ _ rfl];rfl)
theorem alf15 {w:World} {b:Nat} {t:TypeId} {cs:Array Value} (hk:b=w.heap.size):FB15 (w.alloc (.cells cs t)) b:=by
 refine ⟨?_,?_,?_,?_,?_,?_,?_,?_,?_,?_,?_,?_,?_,?_,?_⟩<;>exact ceW.2.2.2.1 _ _ _ _ _ hk
theorem au15 {w:World} {o:Obj} {b:Nat} {v0 v1 v2 v3 v4 v5 v6 v7 v8 v9 v10 v11 v12 v13 v14:Value} (h:CB15 w b v0 v1 v2 v3 v4 v5 v6 v7 v8 v9 v10 v11 v12 v13 v14):CB15 (w.alloc o) b v0 v1 v2 v3 v4 v5 v6 v7 v8 v9 v10 v11 v12 v13 v14:=bc15 ((Below.refl _ _).alloc (Nat.le_refl _) _) h
theorem auf15 {w:World} {o:Obj} {b:Nat} (hz:b<w.heap.size) (h:FB15 w b):FB15 (w.alloc o) b:=bf15 ((Below.refl _ _).alloc (Nat.le_refl _) _) hz h
theorem ec15 {X W:World} {b:Nat} {v0 v1 v2 v3 v4 v5 v6 v7 v8 v9 v10 v11 v12 v13 v14:Value} (e:X=W) (h:CB15 X b v0 v1 v2 v3 v4 v5 v6 v7 v8 v9 v10 v11 v12 v13 v14):CB15 W b v0 v1 v2 v3 v4 v5 v6 v7 v8 v9 v10 v11 v12 v13 v14:=e ▸ h
theorem ef15 {X W:World} {b:Nat} (e:X=W) (h:FB15 X b):FB15 W b:=e ▸ h
theorem xcl {W W':World} (hb:Below W.heap.size W W') {b j:Nat} (h:b<W.heap.size):W.cell? ⟨b,j,none⟩=W'.cell? ⟨b,j,none⟩:=(hb.cell (p:=⟨b,j,none⟩) h).symm
theorem xfr {W W':World} (hb:Below W.heap.size W W') {b j:Nat} (h:b<W.heap.size):W.frozen? ⟨b,j,none⟩=W'.frozen? ⟨b,j,none⟩:=(hb.frozen (p:=⟨b,j,none⟩) h).symm
theorem xcg {P:Prop} (h:P:=by (first|(with_reducible assumption)|((simp only [World.frozen?_setCell,World.frozen?_drew,World.frozen?_drewN])<;>(with_reducible assumption))|((repeat (first|(with_reducible assumption)|(with_reducible refine World.cell?_setCell_same _ _ _ (by with_reducible assumption))|(rw [World.cell?_setCell_other _ _ _ _ (by intro e;simp at e;done)])|(with_reducible refine cell_setCell_block ?_ ?_)|(rw [World.cell?_drew])|(rw [World.cell?_drewN])|(dsimp only;omega)));done)|(first|(with_reducible assumption)|((try simp (disch:=first|omega|(simp only [szW]<;>omega)|fail) only [ceW])<;>first|(with_reducible assumption)|rfl)))):P:=h
theorem xbel {P:Prop} (h:P:=by (repeat (first|with_reducible (first|exact Below.refl _ _|assumption|exact Hid.out (by assumption)|refine Below.alloc ?_ ?_ _|refine Below.setCell ?_ ?_ _|refine below_drewN ?_ _|refine Below.drew ?_|refine below_via (by assumption) ?_ ?_)|(first|(with_reducible assumption)|omega|(simp only [szW]<;>omega)|(simp<;>omega))))):P:=h
theorem xlt {P:Prop} (h:P:=by (first|(with_reducible assumption)|omega|(simp only [szW]<;>omega)|(simp<;>omega))):P:=h
theorem xcn {P:Prop} (h:P:=by (first|(with_reducible assumption)|((try simp (disch:=first|omega|(simp only [szW]<;>omega)|fail) only [ceW])<;>first|(with_reducible assumption)|rfl))):P:=h
theorem xcw {P:Prop} (h:P:=by ((try simp (disch:=first|omega|(simp only [szW]<;>omega)|fail) only [ceW])<;>rfl)):P:=h
end
end Go.Proofs.YtmnlagmmbfjbeaaDoor

/- Merged: Mem, Lib, Inv, Fact, Step, Row. -/
import Derived.Deep.MidRow
import Derived.Test.YtbedhbpgnfffmaaGreatChecked
import Derived.WalkKit
import Derived.WalkSmall
import Derived.WalkLawsBesides
import Derived.BigQuiet
import Derived.Deep.QuietTactic
import Derived.Deep.LoopGhost
import Derived.Lib.Hide
import Derived.Lib.QuietBelow
import Derived.Outline
import Derived.ScopeJumps
import Derived.WalkMore
import Derived.StillTailTactics
import Derived.Deep.RegionLaw
import Derived.IntWalk
namespace Go.Proofs.YtbedhbpgnfffmaaGreat
set_option maxRecDepth 100000
set_option maxHeartbeats 40000000
set_option linter.unusedVariables false
set_option linter.unusedSimpArgs false
section
open Go.RowKit
theorem xo {P:Prop} (h:P:=by omega):P:=h
theorem xk {P:Prop} (h:P:=by kernel_rfl):P:=h
theorem xdo {P:Prop} (h:P:=by dsimp only;omega):P:=h
theorem xzc {P:Prop} (h:P:=by intro h;cases h):P:=h
theorem xdd {P:Prop} (h:P:=by decide):P:=h
theorem xsi {P:Prop} (h:P:=by simp):P:=h
theorem hid {p:Prop} (h:p):Hid p:=Lib.hid h
theorem szW:(∀(w:World) (o:Obj),(w.alloc o).heap.size=w.heap.size+1)∧(∀(w:World) (a:Addr) (v:Value),(w.setCell a v).heap.size=w.heap.size)∧(∀(w:World),w.drew.heap.size=w.heap.size)∧(∀(w:World) (n:Nat),(w.drewN n).heap=w.heap):=⟨World.size_alloc,World.size_setCell,World.size_drew,World.heap_drewN⟩
theorem ceW:(∀(w:World) (o:Obj) (n i:Nat),n<w.heap.size→(w.alloc o).cell? ⟨n,i,none⟩=w.cell? ⟨n,i,none⟩)∧(∀(w:World) (c:Array Value) (t:TypeId) (n i:Nat),n=w.heap.size→(w.alloc (Obj.cells c t)).cell? ⟨n,i,none⟩=c[i]?)∧(∀(w:World) (o:Obj) (n i:Nat),n<w.heap.size→(w.alloc o).frozen? ⟨n,i,none⟩=w.frozen? ⟨n,i,none⟩)∧(∀(w:World) (c:Array Value) (t:TypeId) (n i:Nat),n=w.heap.size→(w.alloc (Obj.cells c t)).frozen? ⟨n,i,none⟩=false)∧(∀(w:World) (a b:Addr) (v:Value),(w.setCell a v).frozen? b=w.frozen? b)∧(∀(w:World) (a:Addr),w.drew.cell? a=w.cell? a)∧(∀(w:World) (a:Addr),w.drew.frozen? a=w.frozen? a):=
  ⟨fun _=>World.cell?_alloc_past,fun _=>World.cell?_alloc_at,fun _=>World.frozen?_alloc_past,fun _=>World.frozen?_alloc_at,World.frozen?_setCell,World.cell?_drew,World.frozen?_drew⟩
section
variable {P:Program}
theorem run_append_x (w:World) (base:Nat) (t ty e:TypeId) (z:Value) (size bytes:Nat) (ht:P.underlying t=some (.slice e))
    (hinfo:(P.info? e).map (fun i=>(i.zero,i.size,i.bytes))=some (some z,size,bytes)) (hzs:z.cells.size=size) (hsz:0<size)
    (v:Value) (n:Nat) (xs:List Value) (hown:w.ownsRow base e size v n xs)
    (ao:Option Addr) (m c:Nat) (news:List Value) (hl:news.length=m*size) (hnone:ao=none→m=0∧c=0)
    (hnews:∀ad,ao=some ad→∀j u,news[j]? =some u→w.cell? (ad.add j)=some u) (h1:∀u ∈ news,u.oneCell'=true)
    (h63:n+m≤4294967296) (hbytes:bytes≤1024) (hbase:base≤w.heap.size):
    ∃ v' w',(Builtin.append_ #[t,t] ty #[v,.slice ao m c]).run P w= .ok v' w'∧w'.ownsRow base e size v' (n+m) (xs++news)∧w.grownBy w' v.ownBlock∧
      (v'.ownBlock=v.ownBlock∨∀k,v'.ownBlock=some k→w.heap.size≤k):=by
 obtain ⟨i,hi,hz,hs,hb⟩:=info_parts hinfo;have hm1:n+m≤maxLen:=by unfold maxLen;omega
 have hm2:(n+m)*bytes≤140737488355328:=Nat.le_trans (Nat.mul_le_mul h63 hbytes) (by decide);cases ao with
 | none=>
  obtain ⟨rfl,rfl⟩:=hnone rfl;have hn:news=[]:=List.eq_nil_of_length_eq_zero (by simpa using hl);subst hn;refine ⟨v,w,run_append_owned_none w base t ty e i size ht hi v n xs hown,by simpa using hown,World.grownBy.refl _ _,.inl rfl⟩
 | some ad=>
  have hc:=hnews ad rfl;obtain ⟨v',w',hr,ho,hg,_⟩:=run_append_own (P:=P) w base t ty e i z size bytes ht hi hz hs hb hzs hsz v n xs hown ad m c news hl hc h1 hm1 hm2 hbase;refine ⟨v',w',hr,ho,hg,?_⟩;obtain ⟨hx,⟨rfl,rfl⟩ | ⟨g,cap,cur,rfl,hbg,hgg,hnc,hcm,hcs,htake⟩⟩:=hown
  · have hx0:xs=[]:=List.eq_nil_of_length_eq_zero (by simpa using hx);subst hx0;obtain ⟨v2,w2,hr2,ho2,_,_⟩:=run_append_own (P:=P) w w.heap.size t ty e i z size bytes ht hi hz hs hb hzs hsz (.slice none 0 0) 0 [] (World.ownsRow_nil w _ e size) ad m c news hl hc h1 hm1 hm2 (Nat.le_refl _);rw [hr] at hr2;cases hr2;exact .inr fun k hk=>(ho2.lt k hk).1
  · by_cases hroom:n+m≤cap
    · obtain ⟨w2,hr2,_⟩:=run_append_fits (P:=P) w base t ty e i size ht hi hs g n cap xs ⟨hx,.inr ⟨g,cap,cur,rfl,hbg,hgg,hnc,hcm,hcs,htake⟩⟩ ad m c news hl hc h1 hroom;rw [hr] at hr2;cases hr2;exact .inl rfl
    · have holds:=World.ownsRow.cells (w:=w) (base:=base) (e:=e) (size:=size) (n:=n) (xs:=xs) ⟨hx,.inr ⟨g,cap,cur,rfl,hbg,hgg,hnc,hcm,hcs,htake⟩⟩ (g:=g) rfl;have hr2:=run_append_grow (P:=P) w t ty e i z ht hi hz ⟨g,0,none⟩ n cap xs (by rw [hs];exact hx) holds ad m c news (by rw [hs];exact hl) hc (by omega) (by omega) (growslice_fits (by omega) (by rw [hb];exact hm2));rw [hr] at hr2;cases hr2;exact .inr fun k hk=>by cases hk;exact Nat.le_refl _
theorem wpl_append {w:World} {ops:Array Oper} {rest:List Oper} {o:Oper} {a:Act} {Q:Exit→Act→World→Prop} (s x:Operand) (t e:TypeId) (z:Value) (size bytes:Nat)
    (ht:P.underlying t=some (.slice e)) (hinfo:(P.info? e).map (fun i=>(i.zero,i.size,i.bytes))=some (some z,size,bytes)) (hzs:z.cells.size=size) (hsz:0<size) (hbytes:bytes≤1024)
    (B:Nat) (v:Value) (n:Nat) (xs:List Value) (ao:Option Addr) (m c:Nat) (news:List Value)
    (hown:w.ownsRow B e size v n xs) (hl:news.length=m*size) (hnone:ao=none→m=0∧c=0)
    (hnews:∀ad,ao=some ad→∀j u,news[j]? =some u→w.cell? (ad.add j)=some u) (h1:∀u ∈ news,u.oneCell'=true)
    (hlen:n+m≤4294967296) (hbase:B≤w.heap.size)
    (hgd:o.guard=none) (ho:o.op= .call {callee:= .builtin .append,args:= #[s,x],argTypes:= #[t,t]})
    (hs:a.eval s=v) (hx:a.eval x= .slice ao m c)
    (h:∀v' w',w'.ownsRow B e size v' (n+m) (xs++news)→w.grownBy w' v.ownBlock→(v'.ownBlock=v.ownBlock∨∀k,v'.ownBlock=some k→w.heap.size≤k)→wpList P ops Q rest (a.put o.dst v') w'):
    wpList P ops Q (o::rest) a w:=by
 refine wpList_plain hgd fun K hK=> ?_
 obtain ⟨v',w',hr,h2,h3,h4⟩:=run_append_x (P:=P) w B t o.type e z size bytes ht hinfo hzs hsz v n xs hown ao m c news hl hnone hnews h1 hlen hbytes hbase;unfold Oper.wp execOp;simp only [ho,resolve,invoke,builtin,Sem.run_bind,Sem.run_pure,Result.andThen_ok,List.map_toArray,List.map_cons,List.map_nil,hs,hx,hr];exact hK _ _ (h v' w' h2 h3 h4)
theorem step_append {w:World} {ops:Array Oper} {o:Oper} {a:Act} {K:Act→World→Prop} {Q:Exit→Act→World→Prop} {E:Prop} (s x:Operand) (t e:TypeId) (z:Value) (size bytes:Nat)
    (ht:P.underlying t=some (.slice e)) (hinfo:(P.info? e).map (fun i=>(i.zero,i.size,i.bytes))=some (some z,size,bytes)) (hzs:z.cells.size=size) (hsz:0<size) (hbytes:bytes≤1024)
    (B:Nat) (v:Value) (n:Nat) (xs:List Value) (ao:Option Addr) (m c:Nat) (news:List Value)
    (hown:w.ownsRow B e size v n xs) (hl:news.length=m*size) (hnone:ao=none→m=0∧c=0)
    (hnews:∀ad,ao=some ad→∀j u,news[j]? =some u→w.cell? (ad.add j)=some u) (h1:∀u ∈ news,u.oneCell'=true)
    (hlen:n+m≤4294967296) (hbase:B≤w.heap.size)
    (hgd:o.guard=none) (ho:o.op= .call {callee:= .builtin .append,args:= #[s,x],argTypes:= #[t,t]})
    (hs:a.eval s=v) (hx:a.eval x= .slice ao m c)
    (h:∀v' w',w'.ownsRow B e size v' (n+m) (xs++news)→w.grownBy w' v.ownBlock→(v'.ownBlock=v.ownBlock∨∀k,v'.ownBlock=some k→w.heap.size≤k)→K (a.put o.dst v') w'):
    if Region.wanted o (yielded ops a.tmps)=true then Oper.wp P o a w K Q else E:=by
 have hw:Region.wanted o (yielded ops a.tmps)=true:=by simp [Region.wanted,hgd]
 rw [if_pos hw];obtain ⟨v',w',hr,h2,h3,h4⟩:=run_append_x (P:=P) w B t o.type e z size bytes ht hinfo hzs hsz v n xs hown ao m c news hl hnone hnews h1 hlen hbytes hbase;unfold Oper.wp execOp;simp only [ho,resolve,invoke,builtin,Sem.run_bind,Sem.run_pure,Result.andThen_ok,List.map_toArray,List.map_cons,List.map_nil,hs,hx,hr];exact h v' w' h2 h3 h4
theorem wpl_make {w:World} {ops:Array Oper} {rest:List Oper} {o:Oper} {a:Act} {Q:Exit→Act→World→Prop} (l c:Operand) (t e:TypeId) (z:Value) (size bytes:Nat)
    (ht:P.underlying t=some (.slice e)) (hinfo:(P.info? e).map (fun i=>(i.zero,i.size,i.bytes))=some (some z,size,bytes)) (hbytes:bytes≤1024)
    (B n:Nat) (N:Int) (hN:N=n) (hlen:n≤4294967296) (hbase:B≤w.heap.size)
    (hgd:o.guard=none) (ho:o.op=Op.makeSlice t l c) (hl:a.eval l= .int .i64 N) (hc:a.eval c= .int .i64 N)
    (h:∀g w',w.heap.size≤g→w'.ownsRow B e size (.slice (some ⟨g,0,none⟩) n n) n (madeCells z.cells (n*size)).toList→Below w.heap.size w w'→
      wpList P ops Q rest (a.put o.dst (.slice (some ⟨g,0,none⟩) n n)) w'):
    wpList P ops Q (o::rest) a w:=by
 obtain ⟨i0,hi,hz0,hz1,hz2⟩:=info_parts hinfo;refine wpList_make_full w hgd l c t ho B e i0 z size ht hi hz0 hz1 .i64 .i64 N N n hl hc hN hN (by rw [hz2];exact Nat.le_trans (Nat.mul_le_mul hbytes hlen) (by decide)) (by unfold maxLen;omega) hbase ?_;intro w' h1 h2;exact h w.heap.size w' (Nat.le_refl _) h1 ((Below.refl _ _).grown h2 (Nat.le_refl _) (fun k hk=>by cases hk))
end
theorem owns_below {w w':World} {base:Nat} {e:TypeId} {size:Nat} {v:Value} {n:Nat} {xs:List Value}
    (h:w.ownsRow base e size v n xs) (hb:Below w.heap.size w w'):w'.ownsRow base e size v n xs:=by
 obtain ⟨h1,h2⟩:=h;refine ⟨h1,?_⟩;rcases h2 with h2 | ⟨g,cap,cur,hv,hg,hh,r⟩
 · exact .inl h2
 · exact .inr ⟨g,cap,cur,hv,hg,by rw [hb.block g (Array.getElem?_eq_some_iff.1 hh).1];exact hh,r⟩
theorem owns_base {w:World} {base base':Nat} {e:TypeId} {size:Nat} {v:Value} {n:Nat} {xs:List Value}
    (h:w.ownsRow base e size v n xs) (hb:base'≤base):w.ownsRow base' e size v n xs:=by
 obtain ⟨h1,h2⟩:=h;refine ⟨h1,?_⟩;rcases h2 with h2 | ⟨g,cap,cur,hv,hg,r⟩
 · exact .inl h2
 · exact .inr ⟨g,cap,cur,hv,by omega,r⟩
theorem owns_apart {w:World} {b1 b2:Nat} {e1 e2:TypeId} {s1 s2:Nat} {v1 v2:Value} {n1 n2:Nat} {xs1 xs2:List Value}
    (h1:w.ownsRow b1 e1 s1 v1 n1 xs1) (h2:w.ownsRow b2 e2 s2 v2 n2 xs2) (hne:e1≠e2):v1.ownBlock=none∨v1.ownBlock≠v2.ownBlock:=by
 obtain ⟨_,⟨rfl,_⟩ | ⟨g1,c1,cur1,rfl,_,hh1,_⟩⟩:=h1
 · exact .inl rfl
 · obtain ⟨_,⟨rfl,_⟩ | ⟨g2,c2,cur2,rfl,_,hh2,_⟩⟩:=h2
   · exact .inr (by simp [Value.ownBlock])
   · refine .inr fun e=> ?_
     simp only [Value.ownBlock,Option.some.injEq] at e;subst e;rw [hh1] at hh2;cases hh2;exact hne rfl
theorem apart_symm {a b:Option Nat} (h:a=none∨a≠b):b=none∨b≠a:=by
 rcases h with rfl|h
 · by_cases hb:b=none
   · exact .inl hb
   · exact .inr hb
 · exact .inr fun e=>h e.symm
theorem owns_lt {w:World} {b1:Nat} {e1:TypeId} {s1:Nat} {v1:Value} {n1:Nat} {xs1:List Value} (h1:w.ownsRow b1 e1 s1 v1 n1 xs1) {k:Nat} (hk:v1.ownBlock=some k):b1≤k∧k<w.heap.size:=h1.lt k hk
theorem run_loadVar_one {P:Program} {w:World} {ty:TypeId} {d:TypeDesc} {a:Addr} {v:Value} (hu:P.underlying ty=some d) (hd:(match d with | .struct _ | .array _ _=>true|_=>false)=false) (hc:w.cell? a=some v):
    (loadVar ty a).run P w= .ok v w:=by
 have hagg:(isAgg ty).run P w= .ok false w:=by
  unfold isAgg;rw [Sem.run_bind,run_underlying hu w];cases d<;>simp_all
 simp [loadVar,Sem.run_bind,hagg,hc,Result.andThen]
theorem results_c {P:Program} {fn:Func} {p:Tmp} {ty:TypeId} (h:fn.results= #[.cell p ty]) {t:Array Value} {w:World} {a:Addr} {v:Value}
    (hp:t.getD p undef= .pointer (some a)) (hv:(loadVar ty a).run P w= .ok v w):(results fn t).run P w= .ok v w:=by
 have hp':t[p]?.getD undef= .pointer (some a):=by simpa using hp
 simp [results,h,hp',asAddr,hv]
theorem results_cc {P:Program} {fn:Func} {p q:Tmp} {ty tz:TypeId} (h:fn.results= #[.cell p ty,.cell q tz]) {t:Array Value} {w:World} {a b:Addr} {v u:Value}
    (hp:t.getD p undef= .pointer (some a)) (hq:t.getD q undef= .pointer (some b)) (hv:(loadVar ty a).run P w= .ok v w) (hu:(loadVar tz b).run P w= .ok u w):
    (results fn t).run P w= .ok (.tuple #[v,u]) w:=by
 have hp':t[p]?.getD undef= .pointer (some a):=by simpa using hp
 have hq':t[q]?.getD undef= .pointer (some b):=by simpa using hq
 simp [results,h,hp',hq',asAddr,hv,hu]
theorem results_ct {P:Program} {fn:Func} {p q:Tmp} {ty:TypeId} (h:fn.results= #[.cell p ty,.tmp q]) {t:Array Value} {w:World} {a:Addr} {v:Value}
    (hp:t.getD p undef= .pointer (some a)) (hv:(loadVar ty a).run P w= .ok v w):
    (results fn t).run P w= .ok (.tuple #[v,t.getD q undef]) w:=by
 have hp':t[p]?.getD undef= .pointer (some a):=by simpa using hp
 simp [results,h,hp',asAddr,hv]
theorem new_cells (w:World) (vs:List Value) (t:TypeId) (k:Nat) (hk:k=w.heap.size):
    ∀ad,some (⟨k,0,none⟩:Addr)=some ad→∀j u,vs[j]? =some u→(w.alloc (.cells vs.toArray t)).cell? (ad.add j)=some u:=by
 intro ad had j u hj;cases had;subst hk;rw [Addr.add_lit,Nat.zero_add,World.cell?_alloc_at _ _ _ _ rfl];simpa using hj
theorem frame_mk (F:(Nat→Value)→Array Value) (t:Array Value) (ds:List Deferred) (h:F (fun i=>t.getD i undef)=t):∃u,({tmps:=t,defers:=ds}:Act)= {tmps:=F u,defers:=ds}:=
  ⟨_,by rw [h]⟩
theorem wp_scope_loop {P:Program} {c B:Code} (l:Nat) {Q:Exit→Act→World→Prop} {a:Act} {w:World} (J:Nat→Act→World→Prop) (hf:findLabel c l=some (.seq .skip B))
    (pass:∀n a w,J n a w→∀H:Act→World→Prop,(∀k a' w',k<n→J k a' w'→H a' w')→B.wp P (Exit.jump l H Q) a w)
    (first:∀H:Act→World→Prop,(∀k a' w',J k a' w'→H a' w')→(∀k a' w',J k a' w'→B.wp P (Exit.jump l H Q) a' w')→c.wp P (Exit.jump l H Q) a w):
    (Code.scope c).wp P Q a w:=by
 refine wp_scope_jumps l (fun a w=>∃n,J n a w) (fun a w=>leastOf (fun n=>J n a w)) hf ?_ ?_
 · exact first _ (fun k a' w' h=>⟨k,h⟩) (fun k a' w' h=>Code.wp_mono (fun e a w q=>q) (pass k a' w' h _ (fun k a' w' _ h=>⟨k,h⟩)))
 · intro a w hJ;refine wp_seq (wp_skip ?_);refine pass _ a w (leastOf_spec hJ).1 _ ?_;intro k a' w' hk h;exact ⟨⟨k,h⟩,Nat.lt_of_le_of_lt ((leastOf_spec ⟨k,h⟩).2 k h) hk⟩
theorem heap_setCell_ne (w:World) (a:Addr) (v:Value) {k:Nat} (h:k≠a.block):(w.setCell a v).heap[k]? =w.heap[k]? :=by
 simp only [World.setCell,Array.getElem?_modify];rw [if_neg (fun e=>h e.symm)]
theorem owns_heap {W W':World} {base:Nat} {e:TypeId} {size:Nat} {v:Value} {n:Nat} {xs:List Value} (ho:W.ownsRow base e size v n xs) (hh:∀k,v.ownBlock=some k→W'.heap[k]? =W.heap[k]?):W'.ownsRow base e size v n xs:=by
 obtain ⟨h1,h2⟩:=ho;refine ⟨h1,?_⟩;rcases h2 with h2 | ⟨g,cap,cur,hv,hg,hp,r⟩
 · exact .inl h2
 · exact .inr ⟨g,cap,cur,hv,hg,(hh g (by rw [hv];rfl)).trans hp,r⟩
theorem run_loadVar_two {P:Program} {w:World} {ty:TypeId} {d:TypeDesc} {b:Nat} {v u:Value} (hu:P.underlying ty=some d) (hd:d.isRow=true) (hi:(P.info? ty).map (·.size)=some 2)
    (h0:w.cell? ⟨b,0,none⟩=some v) (h1:w.cell? ⟨b,1,none⟩=some u):(loadVar ty ⟨b,0,none⟩).run P w= .ok (.agg #[v,u]) w:=
  run_loadVar_mid w b 0 ty [v,u] d (fun j x hj=>by
   match j with
   | 0=>simp at hj;rw [←hj];exact h0
   | 1=>simp at hj;rw [←hj];exact h1
   | n+2=>simp at hj) hu hd hi
theorem ret_int {k:IntKind} {a b:Int} (h:a=b):Ending.returned (.int k a)= .returned (.int k b):=by rw [h]
open Go.Sort in
theorem cg {w:World} {a:Addr} {v:Value} (h:w.cell? a=some v) (d:Nat) (os:Array Obj):(grow (redrawn w d) os).cell? a=some v:=cell_regrown h d os
open Go.Sort in
theorem kr {P:Program} {f:FuncId} {args:Array Value} (w:World) (d:Nat) (os:Array Obj) {v:Value}
    (h:Calls P f args (grow (redrawn w d) os) fun e w'=>e= .returned v∧Below (grow (redrawn w d) os).heap.size (grow (redrawn w d) os) w'):Calls P f args (grow (redrawn w d) os) fun e w''=>e= .returned v∧∃p:Regrown,w''=grow (redrawn w p.d) p.os:=Calls.regrown_of h
abbrev tg (a:Act) (i:Nat):Value:=a.tmps.getD i undef
theorem br {B:Nat} {w:World}:Below B w w:=Below.refl _ _
theorem xjc {B:Nat} {w w':World} {p:Addr} {v:Value} (hb:Below B w w') (c:w.cell? p=some v) (h:p.block<B:=by dsimp only;omega):w'.cell? p=some v:=(hb.cell h).trans c
theorem xjt {B:Nat} {w w':World} {p:Addr} {v:Value} (hb:Below B w w') (h:p.block<B) (c:w.cell? p=some v):w'.cell? p=some v:=(hb.cell h).trans c
theorem xft {B:Nat} {w w':World} {p:Addr} {v:Bool} (hb:Below B w w') (h:p.block<B) (c:w.frozen? p=v):w'.frozen? p=v:=(hb.frozen h).trans c
theorem xjf {B:Nat} {w w':World} {p:Addr} {v:Bool} (hb:Below B w w') (c:w.frozen? p=v) (h:p.block<B:=by dsimp only;omega):w'.frozen? p=v:=(hb.frozen h).trans c
theorem xob {w w':World} {p:Addr} {v:Value} (c:w.cell? p=some v) (h:w'.heap[p.block]? =w.heap[p.block]?):w'.cell? p=some v:=(World.cell?_of_block h).trans c
def IsInts (w:World) (a:Option Addr) (xs:List Int):Prop:=
  ∀i,i<xs.length→∃b off,a=some ⟨b,off,none⟩∧b<w.heap.size∧∀j,j<xs.length→w.cell? ⟨b,off+j,none⟩=some (.int .i64 (xs.getD j 0))
theorem IsInts.below {w w':World} {a:Option Addr} {xs:List Int} (h:IsInts w a xs) (hb:Below w.heap.size w w'):IsInts w' a xs:=by
 intro i hi;obtain ⟨b,off,ha,hlt,hc⟩:=h i hi;exact ⟨b,off,ha,Nat.lt_of_lt_of_le hlt hb.size,fun j hj=>(hb.cell (p:=⟨b,off+j,none⟩) hlt).trans (hc j hj)⟩
theorem IsInts.setCell {w:World} {a:Option Addr} {xs:List Int} (h:IsInts w a xs) {p:Addr} (hne:∀x,a=some x→x.block≠p.block) (v:Value):IsInts (w.setCell p v) a xs:=by
 intro i hi;obtain ⟨b,off,ha,hlt,hc⟩:=h i hi;refine ⟨b,off,ha,by simpa using hlt,fun j hj=> ?_⟩;rw [World.cell?_setCell_other]
 · exact hc j hj
 · intro e;exact hne _ ha (by rw [e])
theorem IsInts.get {w:World} {a:Option Addr} {xs:List Int} (h:IsInts w a xs) {k:Nat} (hk:k<xs.length):
    ∃b off x,a=some ⟨b,off,none⟩∧Hid (xs.getD k 0=x)∧w.cell? ⟨b,off+k,none⟩=some (.int .i64 x)∧b<w.heap.size:=by
 obtain ⟨b,off,ha,hlt,hc⟩:=h k hk;exact ⟨b,off,_,ha,Lib.hid rfl,hc k hk,hlt⟩
theorem ints_of_owns {w:World} {B:Nat} {v:Value} {xs:List Int} (h:w.ownsRow B 3 1 v xs.length (xs.map (Value.int .i64))):
    ∃a cap,v= .slice a xs.length cap∧IsInts w a xs∧(∀x,a=some x→B≤x.block∧x.off=0∧x.spot=none)∧(a=none→xs=[]∧cap=0):=by
 obtain ⟨h1,⟨rfl,hn⟩ | ⟨g,cap,cur,rfl,hg,hh,hn,hm,hs,ht⟩⟩:=h
 · refine ⟨none,0,by rw [hn],fun i hi=>by omega,fun x hx=>(by cases hx),fun _=>⟨List.eq_nil_of_length_eq_zero hn,rfl⟩⟩
 · refine ⟨some ⟨g,0,none⟩,cap,rfl,fun i hi=>⟨g,0,rfl,(Array.getElem?_eq_some_iff.1 hh).1,fun j hj=> ?_⟩,fun x hx=>(by cases hx;exact ⟨hg,rfl,rfl⟩),fun hx=>(by cases hx)⟩;have:=World.ownsRow.cellAt (w:=w) (base:=B) (e:=3) (size:=1) (xs:=xs.map (Value.int .i64)) ⟨h1,.inr ⟨g,cap,cur,rfl,hg,hh,hn,hm,hs,ht⟩⟩ j (by omega);rw [Nat.zero_add,this,List.getElem?_map,List.getElem?_eq_getElem hj];simp [List.getD_eq_getElem?_getD,hj]
theorem info_int:(Tryz.prog.info? 3).map (fun i=>(i.zero,i.size,i.bytes))=some (some (.int .i64 0),1,8):=by kernel_rfl
theorem owns_some {w:World} {B:Nat} {e:TypeId} {v:Value} {n:Nat} {xs:List Value} (h:w.ownsRow B e 1 v n xs) (hn:0<n):
    ∃g cap,v= .slice (some ⟨g,0,none⟩) n cap∧B≤g∧∀j u,xs[j]? =some u→w.cell? ((⟨g,0,none⟩:Addr).add j)=some u:=by
 have h0:=h;obtain ⟨h1,⟨rfl,h2⟩ | ⟨g,cap,cur,rfl,hg,hh,hn',hm,hs,ht⟩⟩:=h
 · omega
 · exact ⟨g,cap,rfl,hg,World.ownsRow.cells h0 rfl⟩
theorem oneCells (l:List Int):∀u ∈ l.map (Value.int .i64),u.oneCell'=true:=ints_oneCell .i64 l
def FreshInts (w:World) (xs:List Int) (e:Ending) (w':World):Prop:=
  ∃v,e= .returned v∧w'.ownsRow w.heap.size 3 1 v xs.length (xs.map (Value.int .i64))∧Below w.heap.size w w'
theorem wpl_append_ints {w:World} {ops:Array Oper} {rest:List Oper} {o:Oper} {a:Act} {Q:Exit→Act→World→Prop} (s x:Operand)
    (B:Nat) (v:Value) (xs:List Int) (ad:Addr) (c:Nat) (ys:List Int)
    (hown:w.ownsRow B 3 1 v xs.length (xs.map (Value.int .i64)))
    (hnews:∀j u,(ys.map (Value.int .i64))[j]? =some u→w.cell? (ad.add j)=some u)
    (hlen:xs.length+ys.length≤4294967296) (hbase:B≤w.heap.size)
    (hgd:o.guard=none) (ho:o.op= .call {callee:= .builtin .append,args:= #[s,x],argTypes:= #[26,26]})
    (hs:a.eval s=v) (hx:a.eval x= .slice (some ad) ys.length c)
    (h:∀v' w',w'.ownsRow B 3 1 v' (xs++ys).length ((xs++ys).map (Value.int .i64))→w.grownBy w' v.ownBlock→wpList Tryz.prog ops Q rest (a.put o.dst v') w'):
    wpList Tryz.prog ops Q (o::rest) a w:=by
 obtain ⟨i0,hi,hz0,hz1,hz2⟩:=info_parts info_int;refine wpList_append_own w hgd s x 26 ho B 3 i0 (.int .i64 0) 1 8 Tryz.underlying26 hi hz0 hz1 hz2 rfl (by decide) v xs.length _ hs hown ad ys.length c (ys.map (Value.int .i64)) hx (by simp) hnews (oneCells ys) ?_ ?_ hbase ?_
 · unfold maxLen;omega
 · omega
 · intro v' w' h2 h3 _;refine h v' w' ?_ h3;rw [List.length_append,List.map_append];exact h2
theorem wpl_make_ints {w:World} {ops:Array Oper} {rest:List Oper} {o:Oper} {a:Act} {Q:Exit→Act→World→Prop} (l c:Operand)
    (B n:Nat) (N:Int) (hN:N=n) (hlen:n≤4294967296) (hbase:B≤w.heap.size)
    (hgd:o.guard=none) (ho:o.op=Op.makeSlice 26 l c) (hl:a.eval l= .int .i64 N) (hc:a.eval c= .int .i64 N)
    (h:∀g w',B≤g→w'.ownsRow B 3 1 (.slice (some ⟨g,0,none⟩) n n) (List.replicate n (0:Int)).length ((List.replicate n (0:Int)).map (Value.int .i64))→Below w.heap.size w w'→
      wpList Tryz.prog ops Q rest (a.put o.dst (.slice (some ⟨g,0,none⟩) n n)) w'):
    wpList Tryz.prog ops Q (o::rest) a w:=by
 obtain ⟨i0,hi,hz0,hz1,hz2⟩:=info_parts info_int;refine wpList_make_full w hgd l c 26 ho B 3 i0 (.int .i64 0) 1 Tryz.underlying26 hi hz0 hz1 .i64 .i64 N N n hl hc hN hN (by rw [hz2];omega) (by unfold maxLen;omega) hbase ?_;intro w' h1 h2;refine h w.heap.size w' hbase ?_ ((Below.refl _ _).grown h2 (Nat.le_refl _) (fun k hk=>by cases hk));rw [List.length_replicate,List.map_replicate];have e:(madeCells (Value.int .i64 0).cells (n*1)).toList=List.replicate n (Value.int .i64 0):=by rw [Nat.mul_one];exact toList_madeCells_one _ _
 rw [e] at h1;exact h1
theorem ints_cell {w:World} {B g n cap:Nat} {xs:List Int} (h:w.ownsRow B 3 1 (.slice (some ⟨g,0,none⟩) n cap) xs.length (xs.map (Value.int .i64))) {j:Nat} (hj:j<xs.length):
    (∃x,Hid (xs.getD j 0=x)∧w.cell? ⟨g,j,none⟩=some (.int .i64 x))∧w.frozen? ⟨g,j,none⟩=false∧
    ∀y:Int,(w.setCell ⟨g,j,none⟩ (.int .i64 y)).ownsRow B 3 1 (.slice (some ⟨g,0,none⟩) n cap) (xs.set j y).length ((xs.set j y).map (Value.int .i64)):=by
 have hn:n=xs.length:=by
  obtain ⟨_,⟨hv,_⟩ | ⟨_,_,_,hv,_⟩⟩:=h
  · cases hv
  · cases hv;rfl
 subst hn;refine ⟨⟨_,Lib.hid rfl,?_⟩,h.frozenAt j,fun y=> ?_⟩
 · rw [h.cellAt j (by omega),List.getElem?_map,List.getElem?_eq_getElem hj];simp [List.getD_eq_getElem?_getD,hj]
 · have:=h.stored j (.int .i64 y);rw [List.length_set,List.map_set];exact this.1
def ints (l:List Nat):List Int:=List.map (fun n:Nat=>(n:Int)) l
theorem ints_length (l:List Nat):(ints l).length=l.length:=by simp [ints]
theorem ints_append (a b:List Nat):ints (a++b)=ints a++ints b:=by simp [ints]
theorem getD_ints (l:List Nat) (k:Nat):(ints l).getD k 0=((l.getD k 0:Nat):Int):=by
 simp [ints,List.getD_eq_getElem?_getD];cases l[k]? <;>simp
theorem owns_news {w:World} {B:Nat} {e:TypeId} {s:Nat} {v:Value} {n:Nat} {xs:List Value} (h:w.ownsRow B e s v n xs):
    ∃ao c,v= .slice ao n c∧(ao=none→n=0∧c=0)∧∀ad,ao=some ad→∀j u,xs[j]? =some u→w.cell? (ad.add j)=some u:=by
 have h0:=h;obtain ⟨h1,⟨rfl,h2⟩ | ⟨g,cap,cur,rfl,hg,hh,hn',hm,hs,ht⟩⟩:=h
 · exact ⟨none,0,by rw [h2],fun _=>⟨h2,rfl⟩,fun ad had=>by cases had⟩
 · exact ⟨some ⟨g,0,none⟩,cap,rfl,fun hx=>(by cases hx),fun ad had=>(by cases had;exact World.ownsRow.cells h0 rfl)⟩
theorem bc1 {W W':World} {p:Addr} {v:Value} (hb:Below W.heap.size W W') (h:W.cell? p=some v):W'.cell? p=some v:=(hb.cell (World.block_lt_of_cell? _ _ h)).trans h
theorem bf1 {W W':World} {p:Addr} (hb:Below W.heap.size W W') (hz:p.block<W.heap.size) (h:W.frozen? p=false):W'.frozen? p=false:=(hb.frozen hz).trans h
theorem bc2 {W W':World} {b:Nat} {v0 v1:Value} (hb:Below W.heap.size W W') (h:W.cell? ⟨b,0,none⟩=some v0∧W.cell? ⟨b,1,none⟩=some v1):W'.cell? ⟨b,0,none⟩=some v0∧W'.cell? ⟨b,1,none⟩=some v1:=by
 obtain ⟨h0,h1⟩:=h;exact ⟨bc1 hb h0,bc1 hb h1⟩
theorem bf2 {W W':World} {b:Nat} (hb:Below W.heap.size W W') (hz:b<W.heap.size) (h:W.frozen? ⟨b,0,none⟩=false∧W.frozen? ⟨b,1,none⟩=false):W'.frozen? ⟨b,0,none⟩=false∧W'.frozen? ⟨b,1,none⟩=false:=by
 obtain ⟨h0,h1⟩:=h;exact ⟨bf1 hb hz h0,bf1 hb hz h1⟩
theorem bc3 {W W':World} {b:Nat} {v0 v1 v2:Value} (hb:Below W.heap.size W W') (h:W.cell? ⟨b,0,none⟩=some v0∧W.cell? ⟨b,1,none⟩=some v1∧W.cell? ⟨b,2,none⟩=some v2):W'.cell? ⟨b,0,none⟩=some v0∧W'.cell? ⟨b,1,none⟩=some v1∧W'.cell? ⟨b,2,none⟩=some v2:=by
 obtain ⟨h0,h1,h2⟩:=h;exact ⟨bc1 hb h0,bc1 hb h1,bc1 hb h2⟩
theorem bf3 {W W':World} {b:Nat} (hb:Below W.heap.size W W') (hz:b<W.heap.size) (h:W.frozen? ⟨b,0,none⟩=false∧W.frozen? ⟨b,1,none⟩=false∧W.frozen? ⟨b,2,none⟩=false):W'.frozen? ⟨b,0,none⟩=false∧W'.frozen? ⟨b,1,none⟩=false∧W'.frozen? ⟨b,2,none⟩=false:=by
 obtain ⟨h0,h1,h2⟩:=h;exact ⟨bf1 hb hz h0,bf1 hb hz h1,bf1 hb hz h2⟩
theorem bc6 {W W':World} {b:Nat} {v0 v1 v2 v3 v4 v5:Value} (hb:Below W.heap.size W W') (h:W.cell? ⟨b,0,none⟩=some v0∧W.cell? ⟨b,1,none⟩=some v1∧W.cell? ⟨b,2,none⟩=some v2∧W.cell? ⟨b,3,none⟩=some v3∧W.cell? ⟨b,4,none⟩=some v4∧W.cell? ⟨b,5,none⟩=some v5):W'.cell? ⟨b,0,none⟩=some v0∧W'.cell? ⟨b,1,none⟩=some v1∧W'.cell? ⟨b,2,none⟩=some v2∧W'.cell? ⟨b,3,none⟩=some v3∧W'.cell? ⟨b,4,none⟩=some v4∧W'.cell? ⟨b,5,none⟩=some v5:=by
 obtain ⟨h0,h1,h2,h3,h4,h5⟩:=h;exact ⟨bc1 hb h0,bc1 hb h1,bc1 hb h2,bc1 hb h3,bc1 hb h4,bc1 hb h5⟩
theorem bf6 {W W':World} {b:Nat} (hb:Below W.heap.size W W') (hz:b<W.heap.size) (h:W.frozen? ⟨b,0,none⟩=false∧W.frozen? ⟨b,1,none⟩=false∧W.frozen? ⟨b,2,none⟩=false∧W.frozen? ⟨b,3,none⟩=false∧W.frozen? ⟨b,4,none⟩=false∧W.frozen? ⟨b,5,none⟩=false):W'.frozen? ⟨b,0,none⟩=false∧W'.frozen? ⟨b,1,none⟩=false∧W'.frozen? ⟨b,2,none⟩=false∧W'.frozen? ⟨b,3,none⟩=false∧W'.frozen? ⟨b,4,none⟩=false∧W'.frozen? ⟨b,5,none⟩=false:=by
 obtain ⟨h0,h1,h2,h3,h4,h5⟩:=h;exact ⟨bf1 hb hz h0,bf1 hb hz h1,bf1 hb hz h2,bf1 hb hz h3,bf1 hb hz h4,bf1 hb hz h5⟩
theorem bc9 {W W':World} {b:Nat} {v0 v1 v2 v3 v4 v5 v6 v7 v8:Value} (hb:Below W.heap.size W W') (h:W.cell? ⟨b,0,none⟩=some v0∧W.cell? ⟨b,1,none⟩=some v1∧W.cell? ⟨b,2,none⟩=some v2∧W.cell? ⟨b,3,none⟩=some v3∧W.cell? ⟨b,4,none⟩=some v4∧W.cell? ⟨b,5,none⟩=some v5∧W.cell? ⟨b,6,none⟩=some v6∧W.cell? ⟨b,7,none⟩=some v7∧W.cell? ⟨b,8,none⟩=some v8):W'.cell? ⟨b,0,none⟩=some v0∧W'.cell? ⟨b,1,none⟩=some v1∧W'.cell? ⟨b,2,none⟩=some v2∧W'.cell? ⟨b,3,none⟩=some v3∧W'.cell? ⟨b,4,none⟩=some v4∧W'.cell? ⟨b,5,none⟩=some v5∧W'.cell? ⟨b,6,none⟩=some v6∧W'.cell? ⟨b,7,none⟩=some v7∧W'.cell? ⟨b,8,none⟩=some v8:=by
 obtain ⟨h0,h1,h2,h3,h4,h5,h6,h7,h8⟩:=h;exact ⟨bc1 hb h0,bc1 hb h1,bc1 hb h2,bc1 hb h3,bc1 hb h4,bc1 hb h5,bc1 hb h6,bc1 hb h7,bc1 hb h8⟩
theorem blt {W W':World} {b:Nat} (hb:Below W.heap.size W W') (h:b<W.heap.size):b<W'.heap.size:=Nat.lt_of_lt_of_le h hb.size
theorem alz {w:World} {b:Nat} {o:Obj} (hk:b=w.heap.size):b<(w.alloc o).heap.size:=by subst hk;simp
theorem auz {w:World} {b:Nat} {o:Obj} (h:b<w.heap.size):b<(w.alloc o).heap.size:=by simp;omega
theorem elt {X W:World} {b:Nat} (e:X=W) (h:b<X.heap.size):b<W.heap.size:=e ▸ h
theorem al2 {w:World} {b:Nat} {t:TypeId} {v0 v1:Value} (hk:b=w.heap.size):(w.alloc (.cells #[v0,v1] t)).cell? ⟨b,0,none⟩=some v0∧(w.alloc (.cells #[v0,v1] t)).cell? ⟨b,1,none⟩=some v1:=by
 subst hk;exact ⟨by rw [World.cell?_alloc_at _ _ _ _ rfl];rfl,by rw [World.cell?_alloc_at _ _ _ _ rfl];rfl⟩
theorem alf2 {w:World} {b:Nat} {t:TypeId} {cs:Array Value} (hk:b=w.heap.size):(w.alloc (.cells cs t)).frozen? ⟨b,0,none⟩=false∧(w.alloc (.cells cs t)).frozen? ⟨b,1,none⟩=false:=by
 subst hk;refine ⟨?_,?_⟩<;>exact ceW.2.2.2.1 _ _ _ _ _ rfl
theorem ec2 {X W:World} {b:Nat} {v0 v1:Value} (e:X=W) (h:X.cell? ⟨b,0,none⟩=some v0∧X.cell? ⟨b,1,none⟩=some v1):W.cell? ⟨b,0,none⟩=some v0∧W.cell? ⟨b,1,none⟩=some v1:=e ▸ h
theorem ef2 {X W:World} {b:Nat} (e:X=W) (h:X.frozen? ⟨b,0,none⟩=false∧X.frozen? ⟨b,1,none⟩=false):W.frozen? ⟨b,0,none⟩=false∧W.frozen? ⟨b,1,none⟩=false:=e ▸ h
theorem al3 {w:World} {b:Nat} {t:TypeId} {v0 v1 v2:Value} (hk:b=w.heap.size):(w.alloc (.cells #[v0,v1,v2] t)).cell? ⟨b,0,none⟩=some v0∧(w.alloc (.cells #[v0,v1,v2] t)).cell? ⟨b,1,none⟩=some v1∧(w.alloc (.cells #[v0,v1,v2] t)).cell? ⟨b,2,none⟩=some v2:=by
 subst hk;exact ⟨by rw [World.cell?_alloc_at _ _ _ _ rfl];rfl,by rw [World.cell?_alloc_at _ _ _ _ rfl];rfl,by rw [World.cell?_alloc_at _ _ _ _ rfl];rfl⟩
theorem alf3 {w:World} {b:Nat} {t:TypeId} {cs:Array Value} (hk:b=w.heap.size):(w.alloc (.cells cs t)).frozen? ⟨b,0,none⟩=false∧(w.alloc (.cells cs t)).frozen? ⟨b,1,none⟩=false∧(w.alloc (.cells cs t)).frozen? ⟨b,2,none⟩=false:=by
 subst hk;refine ⟨?_,?_,?_⟩<;>exact ceW.2.2.2.1 _ _ _ _ _ rfl
theorem al6 {w:World} {b:Nat} {t:TypeId} {v0 v1 v2 v3 v4 v5:Value} (hk:b=w.heap.size):(w.alloc (.cells #[v0,v1,v2,v3,v4,v5] t)).cell? ⟨b,0,none⟩=some v0∧(w.alloc (.cells #[v0,v1,v2,v3,v4,v5] t)).cell? ⟨b,1,none⟩=some v1∧(w.alloc (.cells #[v0,v1,v2,v3,v4,v5] t)).cell? ⟨b,2,none⟩=some v2∧(w.alloc (.cells #[v0,v1,v2,v3,v4,v5] t)).cell? ⟨b,3,none⟩=some v3∧(w.alloc (.cells #[v0,v1,v2,v3,v4,v5] t)).cell? ⟨b,4,none⟩=some v4∧(w.alloc (.cells #[v0,v1,v2,v3,v4,v5] t)).cell? ⟨b,5,none⟩=some v5:=by
 subst hk;exact ⟨by rw [World.cell?_alloc_at _ _ _ _ rfl];rfl,by rw [World.cell?_alloc_at _ _ _ _ rfl];rfl,by rw [World.cell?_alloc_at _ _ _ _ rfl];rfl,by rw [World.cell?_alloc_at _ _ _ _ rfl];rfl,by rw [World.cell?_alloc_at _ _ _ _ rfl];rfl,by rw [World.cell?_alloc_at _ _ _ _ rfl];rfl⟩
theorem alf6 {w:World} {b:Nat} {t:TypeId} {cs:Array Value} (hk:b=w.heap.size):(w.alloc (.cells cs t)).frozen? ⟨b,0,none⟩=false∧(w.alloc (.cells cs t)).frozen? ⟨b,1,none⟩=false∧(w.alloc (.cells cs t)).frozen? ⟨b,2,none⟩=false∧(w.alloc (.cells cs t)).frozen? ⟨b,3,none⟩=false∧(w.alloc (.cells cs t)).frozen? ⟨b,4,none⟩=false∧(w.alloc (.cells cs t)).frozen? ⟨b,5,none⟩=false:=by
 subst hk;refine ⟨?_,?_,?_,?_,?_,?_⟩<;>exact ceW.2.2.2.1 _ _ _ _ _ rfl
theorem au6 {w:World} {o:Obj} {b:Nat} {v0 v1 v2 v3 v4 v5:Value} (h:w.cell? ⟨b,0,none⟩=some v0∧w.cell? ⟨b,1,none⟩=some v1∧w.cell? ⟨b,2,none⟩=some v2∧w.cell? ⟨b,3,none⟩=some v3∧w.cell? ⟨b,4,none⟩=some v4∧w.cell? ⟨b,5,none⟩=some v5):(w.alloc o).cell? ⟨b,0,none⟩=some v0∧(w.alloc o).cell? ⟨b,1,none⟩=some v1∧(w.alloc o).cell? ⟨b,2,none⟩=some v2∧(w.alloc o).cell? ⟨b,3,none⟩=some v3∧(w.alloc o).cell? ⟨b,4,none⟩=some v4∧(w.alloc o).cell? ⟨b,5,none⟩=some v5:=bc6 ((Below.refl _ _).alloc (Nat.le_refl _) _) h
theorem auf6 {w:World} {o:Obj} {b:Nat} (hz:b<w.heap.size) (h:w.frozen? ⟨b,0,none⟩=false∧w.frozen? ⟨b,1,none⟩=false∧w.frozen? ⟨b,2,none⟩=false∧w.frozen? ⟨b,3,none⟩=false∧w.frozen? ⟨b,4,none⟩=false∧w.frozen? ⟨b,5,none⟩=false):(w.alloc o).frozen? ⟨b,0,none⟩=false∧(w.alloc o).frozen? ⟨b,1,none⟩=false∧(w.alloc o).frozen? ⟨b,2,none⟩=false∧(w.alloc o).frozen? ⟨b,3,none⟩=false∧(w.alloc o).frozen? ⟨b,4,none⟩=false∧(w.alloc o).frozen? ⟨b,5,none⟩=false:=bf6 ((Below.refl _ _).alloc (Nat.le_refl _) _) hz h
theorem ec6 {X W:World} {b:Nat} {v0 v1 v2 v3 v4 v5:Value} (e:X=W) (h:X.cell? ⟨b,0,none⟩=some v0∧X.cell? ⟨b,1,none⟩=some v1∧X.cell? ⟨b,2,none⟩=some v2∧X.cell? ⟨b,3,none⟩=some v3∧X.cell? ⟨b,4,none⟩=some v4∧X.cell? ⟨b,5,none⟩=some v5):W.cell? ⟨b,0,none⟩=some v0∧W.cell? ⟨b,1,none⟩=some v1∧W.cell? ⟨b,2,none⟩=some v2∧W.cell? ⟨b,3,none⟩=some v3∧W.cell? ⟨b,4,none⟩=some v4∧W.cell? ⟨b,5,none⟩=some v5:=e ▸ h
theorem ef6 {X W:World} {b:Nat} (e:X=W) (h:X.frozen? ⟨b,0,none⟩=false∧X.frozen? ⟨b,1,none⟩=false∧X.frozen? ⟨b,2,none⟩=false∧X.frozen? ⟨b,3,none⟩=false∧X.frozen? ⟨b,4,none⟩=false∧X.frozen? ⟨b,5,none⟩=false):W.frozen? ⟨b,0,none⟩=false∧W.frozen? ⟨b,1,none⟩=false∧W.frozen? ⟨b,2,none⟩=false∧W.frozen? ⟨b,3,none⟩=false∧W.frozen? ⟨b,4,none⟩=false∧W.frozen? ⟨b,5,none⟩=false:=e ▸ h
theorem al9 {w:World} {b:Nat} {t:TypeId} {v0 v1 v2 v3 v4 v5 v6 v7 v8:Value} (hk:b=w.heap.size):(w.alloc (.cells #[v0,v1,v2,v3,v4,v5,v6,v7,v8] t)).cell? ⟨b,0,none⟩=some v0∧(w.alloc (.cells #[v0,v1,v2,v3,v4,v5,v6,v7,v8] t)).cell? ⟨b,1,none⟩=some v1∧(w.alloc (.cells #[v0,v1,v2,v3,v4,v5,v6,v7,v8] t)).cell? ⟨b,2,none⟩=some v2∧(w.alloc (.cells #[v0,v1,v2,v3,v4,v5,v6,v7,v8] t)).cell? ⟨b,3,none⟩=some v3∧(w.alloc (.cells #[v0,v1,v2,v3,v4,v5,v6,v7,v8] t)).cell? ⟨b,4,none⟩=some v4∧(w.alloc (.cells #[v0,v1,v2,v3,v4,v5,v6,v7,v8] t)).cell? ⟨b,5,none⟩=some v5∧(w.alloc (.cells #[v0,v1,v2,v3,v4,v5,v6,v7,v8] t)).cell? ⟨b,6,none⟩=some v6∧(w.alloc (.cells #[v0,v1,v2,v3,v4,v5,v6,v7,v8] t)).cell? ⟨b,7,none⟩=some v7∧(w.alloc (.cells #[v0,v1,v2,v3,v4,v5,v6,v7,v8] t)).cell? ⟨b,8,none⟩=some v8:=by
 subst hk;exact ⟨by rw [World.cell?_alloc_at _ _ _ _ rfl];rfl,by rw [World.cell?_alloc_at _ _ _ _ rfl];rfl,by rw [World.cell?_alloc_at _ _ _ _ rfl];rfl,by rw [World.cell?_alloc_at _ _ _ _ rfl];rfl,by rw [World.cell?_alloc_at _ _ _ _ rfl];rfl,by rw [World.cell?_alloc_at _ _ _ _ rfl];rfl,by rw [World.cell?_alloc_at _ _ _ _ rfl];rfl,by rw [World.cell?_alloc_at _ _ _ _ rfl];rfl,by rw [World.cell?_alloc_at _ _ _ _ rfl];rfl⟩
theorem au9 {w:World} {o:Obj} {b:Nat} {v0 v1 v2 v3 v4 v5 v6 v7 v8:Value} (h:w.cell? ⟨b,0,none⟩=some v0∧w.cell? ⟨b,1,none⟩=some v1∧w.cell? ⟨b,2,none⟩=some v2∧w.cell? ⟨b,3,none⟩=some v3∧w.cell? ⟨b,4,none⟩=some v4∧w.cell? ⟨b,5,none⟩=some v5∧w.cell? ⟨b,6,none⟩=some v6∧w.cell? ⟨b,7,none⟩=some v7∧w.cell? ⟨b,8,none⟩=some v8):(w.alloc o).cell? ⟨b,0,none⟩=some v0∧(w.alloc o).cell? ⟨b,1,none⟩=some v1∧(w.alloc o).cell? ⟨b,2,none⟩=some v2∧(w.alloc o).cell? ⟨b,3,none⟩=some v3∧(w.alloc o).cell? ⟨b,4,none⟩=some v4∧(w.alloc o).cell? ⟨b,5,none⟩=some v5∧(w.alloc o).cell? ⟨b,6,none⟩=some v6∧(w.alloc o).cell? ⟨b,7,none⟩=some v7∧(w.alloc o).cell? ⟨b,8,none⟩=some v8:=bc9 ((Below.refl _ _).alloc (Nat.le_refl _) _) h
theorem ec9 {X W:World} {b:Nat} {v0 v1 v2 v3 v4 v5 v6 v7 v8:Value} (e:X=W) (h:X.cell? ⟨b,0,none⟩=some v0∧X.cell? ⟨b,1,none⟩=some v1∧X.cell? ⟨b,2,none⟩=some v2∧X.cell? ⟨b,3,none⟩=some v3∧X.cell? ⟨b,4,none⟩=some v4∧X.cell? ⟨b,5,none⟩=some v5∧X.cell? ⟨b,6,none⟩=some v6∧X.cell? ⟨b,7,none⟩=some v7∧X.cell? ⟨b,8,none⟩=some v8):W.cell? ⟨b,0,none⟩=some v0∧W.cell? ⟨b,1,none⟩=some v1∧W.cell? ⟨b,2,none⟩=some v2∧W.cell? ⟨b,3,none⟩=some v3∧W.cell? ⟨b,4,none⟩=some v4∧W.cell? ⟨b,5,none⟩=some v5∧W.cell? ⟨b,6,none⟩=some v6∧W.cell? ⟨b,7,none⟩=some v7∧W.cell? ⟨b,8,none⟩=some v8:=e ▸ h
@[reducible] def CB15 (W:World) (b:Nat) (v0 v1 v2 v3 v4 v5 v6 v7 v8 v9 v10 v11 v12 v13 v14:Value):Prop:=W.cell? ⟨b,0,none⟩=some v0∧W.cell? ⟨b,1,none⟩=some v1∧W.cell? ⟨b,2,none⟩=some v2∧W.cell? ⟨b,3,none⟩=some v3∧W.cell? ⟨b,4,none⟩=some v4∧W.cell? ⟨b,5,none⟩=some v5∧W.cell? ⟨b,6,none⟩=some v6∧W.cell? ⟨b,7,none⟩=some v7∧W.cell? ⟨b,8,none⟩=some v8∧W.cell? ⟨b,9,none⟩=some v9∧W.cell? ⟨b,10,none⟩=some v10∧W.cell? ⟨b,11,none⟩=some v11∧W.cell? ⟨b,12,none⟩=some v12∧W.cell? ⟨b,13,none⟩=some v13∧W.cell? ⟨b,14,none⟩=some v14
@[reducible] def FB15 (W:World) (b:Nat):Prop:=W.frozen? ⟨b,0,none⟩=false∧W.frozen? ⟨b,1,none⟩=false∧W.frozen? ⟨b,2,none⟩=false∧W.frozen? ⟨b,3,none⟩=false∧W.frozen? ⟨b,4,none⟩=false∧W.frozen? ⟨b,5,none⟩=false∧W.frozen? ⟨b,6,none⟩=false∧W.frozen? ⟨b,7,none⟩=false∧W.frozen? ⟨b,8,none⟩=false∧W.frozen? ⟨b,9,none⟩=false∧W.frozen? ⟨b,10,none⟩=false∧W.frozen? ⟨b,11,none⟩=false∧W.frozen? ⟨b,12,none⟩=false∧W.frozen? ⟨b,13,none⟩=false∧W.frozen? ⟨b,14,none⟩=false
theorem bc15 {W W':World} {b:Nat} {v0 v1 v2 v3 v4 v5 v6 v7 v8 v9 v10 v11 v12 v13 v14:Value} (hb:Below W.heap.size W W') (h:CB15 W b v0 v1 v2 v3 v4 v5 v6 v7 v8 v9 v10 v11 v12 v13 v14):CB15 W' b v0 v1 v2 v3 v4 v5 v6 v7 v8 v9 v10 v11 v12 v13 v14:=by
 obtain ⟨h0,h1,h2,h3,h4,h5,h6,h7,h8,h9,h10,h11,h12,h13,h14⟩:=h;exact ⟨bc1 hb h0,bc1 hb h1,bc1 hb h2,bc1 hb h3,bc1 hb h4,bc1 hb h5,bc1 hb h6,bc1 hb h7,bc1 hb h8,bc1 hb h9,bc1 hb h10,bc1 hb h11,bc1 hb h12,bc1 hb h13,bc1 hb h14⟩
theorem bf15 {W W':World} {b:Nat} (hb:Below W.heap.size W W') (hz:b<W.heap.size) (h:FB15 W b):FB15 W' b:=by
 obtain ⟨h0,h1,h2,h3,h4,h5,h6,h7,h8,h9,h10,h11,h12,h13,h14⟩:=h;exact ⟨bf1 hb hz h0,bf1 hb hz h1,bf1 hb hz h2,bf1 hb hz h3,bf1 hb hz h4,bf1 hb hz h5,bf1 hb hz h6,bf1 hb hz h7,bf1 hb hz h8,bf1 hb hz h9,bf1 hb hz h10,bf1 hb hz h11,bf1 hb hz h12,bf1 hb hz h13,bf1 hb hz h14⟩
theorem al15 {w:World} {b:Nat} {t:TypeId} {v0 v1 v2 v3 v4 v5 v6 v7 v8 v9 v10 v11 v12 v13 v14:Value} (hk:b=w.heap.size):CB15 (w.alloc (.cells #[v0,v1,v2,v3,v4,v5,v6,v7,v8,v9,v10,v11,v12,v13,v14] t)) b v0 v1 v2 v3 v4 v5 v6 v7 v8 v9 v10 v11 v12 v13 v14:=by
 subst hk;refine ⟨?_,?_,?_,?_,?_,?_,?_,?_,?_,?_,?_,?_,?_,?_,?_⟩<;>(rw [World.cell?_alloc_at _ _ _ _ rfl];rfl)
theorem alf15 {w:World} {b:Nat} {t:TypeId} {cs:Array Value} (hk:b=w.heap.size):FB15 (w.alloc (.cells cs t)) b:=by
 refine ⟨?_,?_,?_,?_,?_,?_,?_,?_,?_,?_,?_,?_,?_,?_,?_⟩<;>exact ceW.2.2.2.1 _ _ _ _ _ hk
theorem au15 {w:World} {o:Obj} {b:Nat} {v0 v1 v2 v3 v4 v5 v6 v7 v8 v9 v10 v11 v12 v13 v14:Value} (h:CB15 w b v0 v1 v2 v3 v4 v5 v6 v7 v8 v9 v10 v11 v12 v13 v14):CB15 (w.alloc o) b v0 v1 v2 v3 v4 v5 v6 v7 v8 v9 v10 v11 v12 v13 v14:=bc15 ((Below.refl _ _).alloc (Nat.le_refl _) _) h
theorem auf15 {w:World} {o:Obj} {b:Nat} (hz:b<w.heap.size) (h:FB15 w b):FB15 (w.alloc o) b:=bf15 ((Below.refl _ _).alloc (Nat.le_refl _) _) hz h
theorem ec15 {X W:World} {b:Nat} {v0 v1 v2 v3 v4 v5 v6 v7 v8 v9 v10 v11 v12 v13 v14:Value} (e:X=W) (h:CB15 X b v0 v1 v2 v3 v4 v5 v6 v7 v8 v9 v10 v11 v12 v13 v14):CB15 W b v0 v1 v2 v3 v4 v5 v6 v7 v8 v9 v10 v11 v12 v13 v14:=e ▸ h
theorem ef15 {X W:World} {b:Nat} (e:X=W) (h:FB15 X b):FB15 W b:=e ▸ h
theorem xcl {W W':World} (hb:Below W.heap.size W W') {b j:Nat} (h:b<W.heap.size):W.cell? ⟨b,j,none⟩=W'.cell? ⟨b,j,none⟩:=(hb.cell (p:=⟨b,j,none⟩) h).symm
theorem xfr {W W':World} (hb:Below W.heap.size W W') {b j:Nat} (h:b<W.heap.size):W.frozen? ⟨b,j,none⟩=W'.frozen? ⟨b,j,none⟩:=(hb.frozen (p:=⟨b,j,none⟩) h).symm
theorem xcg {P:Prop} (h:P:=by (first|(with_reducible assumption)|((simp only [World.frozen?_setCell,World.frozen?_drew,World.frozen?_drewN])<;>(with_reducible assumption))|((repeat (first|(with_reducible assumption)|(with_reducible refine World.cell?_setCell_same _ _ _ (by with_reducible assumption))|(rw [World.cell?_setCell_other _ _ _ _ (by intro e;simp at e;done)])|(with_reducible refine cell_setCell_block ?_ ?_)|(rw [World.cell?_drew])|(rw [World.cell?_drewN])|(dsimp only;omega)));done)|(first|(with_reducible assumption)|((try simp (disch:=first|omega|(simp only [szW]<;>omega)|fail) only [ceW])<;>first|(with_reducible assumption)|rfl)))):P:=h
theorem xbel {P:Prop} (h:P:=by (repeat (first|with_reducible (first|exact Below.refl _ _|assumption|exact Hid.out (by assumption)|refine Below.alloc ?_ ?_ _|refine Below.setCell ?_ ?_ _|refine below_drewN ?_ _|refine Below.drew ?_|refine below_via (by assumption) ?_ ?_)|(first|(with_reducible assumption)|omega|(simp only [szW]<;>omega)|(simp<;>omega))))):P:=h
theorem xlt {P:Prop} (h:P:=by (first|(with_reducible assumption)|omega|(simp only [szW]<;>omega)|(simp<;>omega))):P:=h
theorem xcn {P:Prop} (h:P:=by (first|(with_reducible assumption)|((try simp (disch:=first|omega|(simp only [szW]<;>omega)|fail) only [ceW])<;>first|(with_reducible assumption)|rfl))):P:=h
theorem xcw {P:Prop} (h:P:=by ((try simp (disch:=first|omega|(simp only [szW]<;>omega)|fail) only [ceW])<;>rfl)):P:=h
end
section
open Go.RowKit
section
variable {P:Program} {ops:Array Oper} {Q:Exit→Act→World→Prop}
def leftOf (L:Array Bool):Nat→Nat
  | 0=>0
  | n+1=>leftOf L n+if L.getD n false=true then 0 else 1
theorem set_same {L:Array Bool} {i:Nat} (h:i<L.size):(L.setIfInBounds i true).getD i false=true:=by simp [h]
theorem set_else {L:Array Bool} {i j:Nat} (h:j≠i):(L.setIfInBounds i true).getD j false=L.getD j false:=by
 have h':¬i=j:=fun e=>h e.symm
 by_cases hj:j<L.size
 · simp [hj,Array.getElem_setIfInBounds,h']
 · simp [hj]
theorem leftOf_out {L:Array Bool} {i:Nat}:∀n,n≤i→leftOf (L.setIfInBounds i true) n=leftOf L n:=by
 intro n;induction n with
 | zero=>intro _;rfl
 | succ n ih=>intro h;rw [leftOf,leftOf,ih (by omega),set_else (by omega)]
theorem leftOf_set {L:Array Bool} {i:Nat} (hi:i<L.size) (h:L.getD i false=false):∀n,i<n→leftOf (L.setIfInBounds i true) n+1=leftOf L n:=by
 intro n;induction n with
 | zero=>intro h;omega
 | succ n ih=>
  intro hn;rw [leftOf,leftOf];by_cases e:n=i
  · subst e;rw [leftOf_out n (Nat.le_refl _),set_same hi,if_pos rfl,if_neg (by rw [h];decide)]
  · rw [set_else e];have:=ih (by omega);omega
theorem leftOf_zero {L:Array Bool}:∀n,leftOf L n=0→∀i,i<n→L.getD i false=true:=by
 intro n;induction n with
 | zero=>intro _ i hi;omega
 | succ n ih=>
  intro h i hi;rw [leftOf] at h;split at h
  · rename_i hn
    by_cases e:i=n
    · subst e;exact hn
    · exact ih (by omega) i (by omega)
  · omega
theorem leftOf_le (L:Array Bool):∀n,leftOf L n≤n:=by
 intro n;induction n with
 | zero=>exact Nat.le_refl _
 | succ n ih=>rw [leftOf];split<;>omega
theorem wpAny_inv (I:Array Bool→Act→World→Prop)
    (hac:∀(i:Nat) (o:Oper),ops[i]? =some o→∀e ∈ o.after,e.on<i)
    (step:∀(L:Array Bool) (a:Act) (w:World) (i:Nat) (o:Oper),L.size=ops.size→ops[i]? =some o→L.getD i false=false→
      (∀e ∈ o.after,Region.binds .any e=true→L.getD e.on false=true)→I L a w→wpOp P ops Q i (I (L.setIfInBounds i true)) a w)
    (done:∀(L:Array Bool) (a:Act) (w:World),L.size=ops.size→(∀i,i<ops.size→L.getD i false=true)→I L a w→Q .normal a w):
    ∀(f:Nat) (L:Array Bool) (a:Act) (w:World),L.size=ops.size→leftOf L ops.size≤f→I L a w→wpAny P .any ops Q f L a w:=by
 have none_ready:∀(L:Array Bool),L.size=ops.size→Region.ready .any ops L=[]→∀i,i<ops.size→L.getD i false=true:=by
  intro L hs hr i;induction i using Nat.strongRecOn with
  | ind i ih=>
   intro hi;cases hc:L.getD i false with
   | true=>rfl
   | false=>
    have hm:i ∈ Region.ready .any ops L:=by
     refine mem_ready.2 ⟨?_,ops[i],Array.getElem?_eq_some_iff.2 ⟨hi,rfl⟩,fun e he _=> ?_⟩
     · have h1:i<L.size:=by omega
       simp [h1] at hc ⊢;exact hc
     · have:=hac i ops[i] (Array.getElem?_eq_some_iff.2 ⟨hi,rfl⟩) e he;exact ih e.on this (by omega)
    rw [hr] at hm;cases hm
 intro f;induction f with
 | zero=>
  intro L a w hs hl hI;have hall:=leftOf_zero (L:=L) ops.size (by omega);refine ⟨?_,done L a w hs hall hI⟩;rw [List.eq_nil_iff_forall_not_mem];intro i hi;obtain ⟨h1,o,ho,_⟩:=mem_ready.1 hi;have hlt:=(Array.getElem?_eq_some_iff.1 ho).1;have h2:=hall i hlt;have h3:i<L.size:=by omega
  simp [h3] at h1 h2;rw [h1] at h2;cases h2
 | succ f ih=>
  intro L a w hs hl hI;refine ⟨fun hr=>done L a w hs (none_ready L hs hr) hI,fun i hi=> ?_⟩;obtain ⟨h1,o,ho,hall⟩:=mem_ready.1 hi;have hlt:=(Array.getElem?_eq_some_iff.1 ho).1;have h3:i<L.size:=by omega
  have h4:L.getD i false=false:=by simp [h3] at h1 ⊢;exact h1
  refine wpOp_mono (fun a' w' hI'=>ih _ a' w' (by simpa using hs) ?_ hI') (step L a w i o hs ho h4 hall hI);have:=leftOf_set h3 h4 ops.size hlt;omega
def mixAt (D:List Nat) (u:Nat→Value) (t0:Array Value) (t:Nat):Value:=if D.contains t then u t else t0.getD t undef
def mixL (D:List Nat) (u:Nat→Value):Nat→List Value→List Value
  | _,[]=>[]
  | i,v::vs=>(if D.contains i then u i else v)::mixL D u (i+1) vs
def mixFrame (D:List Nat) (u:Nat→Value) (t0:Array Value):Array Value:=(mixL D u 0 t0.toList).toArray
theorem mixL_length (D:List Nat) (u:Nat→Value):∀(l:List Value) (i:Nat),(mixL D u i l).length=l.length
  | [],_=>rfl
  | v::vs,i=>by simp [mixL,mixL_length D u vs]
theorem mixL_get (D:List Nat) (u:Nat→Value):∀(l:List Value) (i t:Nat),t<l.length→(mixL D u i l)[t]? =some (if D.contains (i+t) then u (i+t) else l.getD t undef)
  | [],_,_,h=>by simp at h
  | v::vs,i,0,_=>by simp [mixL]
  | v::vs,i,t+1,h=>by
   have:=mixL_get D u vs (i+1) t (by simpa using h);rw [mixL,List.getElem?_cons_succ,this,Nat.add_assoc,Nat.add_comm 1 t];simp
theorem mixFrame_size (D:List Nat) (u:Nat→Value) (t0:Array Value):(mixFrame D u t0).size=t0.size:=by simp [mixFrame,mixL_length]
theorem mixFrame_get {D:List Nat} {u:Nat→Value} {t0:Array Value} {t:Nat} (h:t<t0.size):(mixFrame D u t0).getD t undef=mixAt D u t0 t:=by
 have:=mixL_get D u t0.toList 0 t (by simpa using h);rw [Nat.zero_add] at this;simp only [mixFrame,mixAt,Array.getD_eq_getD_getElem?,List.getElem?_toArray,this];simp [List.getD_eq_getElem?_getD]
theorem frame_ext {x y:Array Value} (hs:x.size=y.size) (h:∀t,t<x.size→x.getD t undef=y.getD t undef):x=y:=by
 apply Array.ext hs;intro i h1 h2;have:=h i h1;simpa [h1,h2] using this
theorem mixFrame_start (D:List Nat) (t0:Array Value):mixFrame D (fun t=>t0.getD t undef) t0=t0:=by
 refine frame_ext (mixFrame_size _ _ _) fun t ht=> ?_
 rw [mixFrame_size] at ht;rw [mixFrame_get ht,mixAt];split<;>rfl
theorem mixFrame_put {D:List Nat} {u:Nat→Value} {t0:Array Value} {d:Nat} {v:Value} (hd:D.contains d=true):
    (mixFrame D u t0).setIfInBounds d v=mixFrame D (fun t=>if t=d then v else u t) t0:=by
 refine frame_ext (by simp [mixFrame_size]) fun t ht=> ?_
 rw [Array.size_setIfInBounds,mixFrame_size] at ht;rw [mixFrame_get ht];by_cases e:t=d
 · subst e;have h2:t<(mixFrame D u t0).size:=by rw [mixFrame_size];exact ht
   rw [mixAt,if_pos hd,if_pos rfl];simp [h2]
 · have h1:((mixFrame D u t0).setIfInBounds d v).getD t undef=(mixFrame D u t0).getD t undef:=by
     have h2:t<(mixFrame D u t0).size:=by rw [mixFrame_size];exact ht
     have e':¬d=t:=fun h=>e h.symm
     simp [h2,Array.getElem_setIfInBounds,e']
   rw [h1,mixFrame_get ht,mixAt,mixAt];simp [e]
def valOf (u:Nat→Value) (o:Oper):Value:=match o.dst with|some d=>u d|none=>undef
def OpOk (P:Program) (ops:Array Oper) (Q:Exit→Act→World→Prop) (D:List Nat) (t0:Array Value) (n:Nat) (ds:List Deferred) (J:World→Prop) (Ext:World→World→Prop) (G:Nat→Value→World→Prop) (k:Nat) (o:Oper):Prop:=
  ∀ (u:Nat→Value) (a:Act) (w:World),(∀t,t<n→a.tmps.getD t undef=mixAt D u t0 t)→J w→
    (∀(j:Nat) (p:Oper),(o.after.any fun e=>Region.binds .any e&&e.on==j)=true→ops[j]? =some p→G j (valOf u p) w)→
    ∀K:Act→World→Prop,(∀v w',(o.dst=none→v=undef)→J w'→G k v w'→Ext w w'→K (a.put o.dst v) w')→Oper.wp P o a w K Q
def OpsOk (P:Program) (ops:Array Oper) (Q:Exit→Act→World→Prop) (D:List Nat) (t0:Array Value) (n:Nat) (ds:List Deferred) (J:World→Prop) (Ext:World→World→Prop) (G:Nat→Value→World→Prop):Nat→List Oper→Prop
  | _,[]=>True
  | k,o::rest=>OpOk P ops Q D t0 n ds J Ext G k o∧OpsOk P ops Q D t0 n ds J Ext G (k+1) rest
theorem OpsOk.at {D:List Nat} {t0:Array Value} {n:Nat} {ds:List Deferred} {J:World→Prop} {Ext:World→World→Prop} {G:Nat→Value→World→Prop}:∀ {l:List Oper} {k:Nat},OpsOk P ops Q D t0 n ds J Ext G k l→∀ {i:Nat} {o:Oper},l[i]? =some o→OpOk P ops Q D t0 n ds J Ext G (k+i) o
  | [],_,_,i,o,ho=>by simp at ho
  | x::rest,k,h,0,o,ho=>by simp at ho;subst ho;exact h.1
  | x::rest,k,h,i+1,o,ho=>by
   have:=OpsOk.at h.2 (i:=i) (o:=o) (by simpa using ho);rwa [Nat.add_assoc,Nat.add_comm 1 i] at this
def dstsOf (l:List Oper):List Nat:=l.filterMap (·.dst)
def regionB (l:List Oper) (n:Nat):Bool:=
  (dstsOf l).Nodup&&(dstsOf l).all (fun d=>decide (d<n))&&l.all (fun o=>o.guard.isNone) &&
  (List.range l.length).all fun i=>match l[i]? with|some o=>o.after.all fun e=>decide (e.on<i)|none=>true
theorem nodup_slot {l:List Oper} (h:(dstsOf l).Nodup) {i j:Nat} {o p:Oper} (hi:l[i]? =some o) (hj:l[j]? =some p) (hne:i≠j) {d:Nat} (ho:o.dst=some d):p.dst≠some d:=by
 induction l generalizing i j with
 | nil=>simp at hi
 | cons x rest ih=>
  have hmem:∀ {k:Nat} {q:Oper},rest[k]? =some q→q.dst=some d→d ∈ dstsOf rest:=fun hk hq=>List.mem_filterMap.2 ⟨_,List.mem_of_getElem? hk,hq⟩
  intro hp;cases i with
  | zero=>
   cases j with
   | zero=>exact hne rfl
   | succ j=>
    simp at hi hj;subst hi;simp only [dstsOf,List.filterMap_cons,ho,List.nodup_cons] at h;exact h.1 (hmem hj hp)
  | succ i=>
   cases j with
   | zero=>
    simp at hi hj;subst hj;simp only [dstsOf,List.filterMap_cons,hp,List.nodup_cons] at h;exact h.1 (hmem hi ho)
   | succ j=>
    simp at hi hj;refine ih ?_ (i:=i) (j:=j) hi hj (fun e=>hne (by rw [e])) hp;simp only [dstsOf,List.filterMap_cons] at h;split at h
    · exact h
    · exact (List.nodup_cons.1 h).2
def tailB (l:List Oper) (n:Nat):Bool:=
  (List.range l.length).all fun i=>decide (i<n)||match l[i]? with|some o=>((List.range i).all fun j=>o.after.any fun e=>Region.binds .any e&&e.on==j)&&o.after.all (fun e=>decide (e.on<i))|none=>true
theorem wpOp_of_list {l:List Oper} {i:Nat} {o:Oper} {a:Act} {w:World} (ho:l[i]? =some o) (h:wpList P l.toArray Q (l.drop i) a w):wpOp P l.toArray Q i (wpList P l.toArray Q (l.drop (i+1))) a w:=by
 have hi:=(List.getElem?_eq_some_iff.1 ho).1;have hd:l.drop i=o::l.drop (i+1):=by
  rw [List.drop_eq_getElem_cons hi];congr 1
  exact (List.getElem?_eq_some_iff.1 ho).2
 rw [hd] at h;unfold wpOp;simp only [List.getElem?_toArray,ho];exact h
theorem wp_region_facts {id:Nat} {l:List Oper} {t0:Array Value} {ds:List Deferred} {w0:World} {N:Nat} (n:Nat) (hm:P.follows .mixedOrders=true) (hn:t0.size=N) (hB:regionB (l.take n) N=true) (hT:tailB l n=true) (hle:n≤l.length)
    (J:World→Prop) (Ext:World→World→Prop) (G:Nat→Value→World→Prop) (hst:∀k x w w',Ext w w'→G k x w→G k x w') (hJ:J w0.drew)
    (hop:OpsOk P l.toArray Q (dstsOf (l.take n)) t0 N ds J Ext G 0 (l.take n))
    (hdone:∀(u:Nat→Value) (w:World),J w→(∀(k:Nat) (o:Oper),(l.take n)[k]? =some o→G k (valOf u o) w)→wpList P l.toArray Q (l.drop n) {tmps:=mixFrame (dstsOf (l.take n)) u t0,defers:=ds} w):
    (Code.region id l.toArray true).wp P Q {tmps:=t0,defers:=ds} w0:=by
 subst hn;simp only [regionB,Bool.and_eq_true,List.all_eq_true,decide_eq_true_eq] at hB;obtain ⟨⟨⟨hnd,hlt⟩,hgd⟩,hac⟩:=hB;simp only [tailB,List.all_eq_true,List.mem_range,Bool.or_eq_true,decide_eq_true_eq] at hT;have htk:∀ {k:Nat} {o:Oper},(l.take n)[k]? =some o↔k<n∧l[k]? =some o:=by
  intro k o;rw [List.getElem?_take];by_cases h:k<n
  · rw [if_pos h];exact ⟨fun h1=>⟨h,h1⟩,fun h1=>h1.2⟩
  · rw [if_neg h];exact ⟨fun h1=>(by cases h1),fun h1=>absurd h1.1 h⟩
 have wait:∀ {i:Nat} {o:Oper},n≤i→l[i]? =some o→∀j,j<i→∃e ∈ o.after,Region.binds .any e=true∧e.on=j:=by
  intro i o hi ho j hj;have h1:=hT i (List.getElem?_eq_some_iff.1 ho).1;rcases h1 with h1|h1
  · omega
  · rw [ho] at h1;simp only [Bool.and_eq_true] at h1;have h2:=List.all_eq_true.1 h1.1 j (List.mem_range.2 hj);obtain ⟨k,hk,h3⟩:=Array.any_eq_true.1 h2;simp only [Bool.and_eq_true,beq_iff_eq] at h3;exact ⟨_,Array.getElem_mem hk,h3.1,h3.2⟩
 refine wp_region_any hm (wpAny_inv (ops:=l.toArray)
   (fun L a w=>((∀i,n≤i→L.getD i false=false)∧∃u:Nat→Value,a= {tmps:=mixFrame (dstsOf (l.take n)) u t0,defers:=ds}∧J w∧∀(k:Nat) (o:Oper),(l.take n)[k]? =some o→L.getD k false=true→G k (valOf u o) w) ∨
     (∃m,n≤m∧m≤l.length∧(∀i,i<m→L.getD i false=true)∧(∀i,m≤i→L.getD i false=false)∧wpList P l.toArray Q (l.drop m) a w))
   ?_ ?_ ?_ _ _ _ _ (by simp) (leftOf_le _ _) (.inl ⟨fun i _=>by rw [List.size_toArray];simp [Array.getD],fun t=>t0.getD t undef,by rw [mixFrame_start],hJ,fun k o _ h=> ?_⟩))
 · intro i o ho e he;have hi:i<l.length:=(Array.getElem?_eq_some_iff.1 ho).1;rw [List.getElem?_toArray] at ho;by_cases hin:i<n
   · have h1:(l.take n)[i]? =some o:=htk.2 ⟨hin,ho⟩;have:=hac i (List.mem_range.2 (List.getElem?_eq_some_iff.1 h1).1);rw [h1] at this;have h2:=Array.all_eq_true_iff_forall_mem.1 this e he;simpa using h2
   · have h1:=hT i hi;rcases h1 with h1|h1
     · omega
     · rw [ho] at h1;simp only [Bool.and_eq_true] at h1;have h2:=Array.all_eq_true_iff_forall_mem.1 h1.2 e he;simpa using h2
 · rintro L a w i o hs ho hi hall hI;rw [List.getElem?_toArray] at ho;have hil:i<l.length:=(List.getElem?_eq_some_iff.1 ho).1;have hilt:i<L.size:=by rw [hs];simpa using hil
   have ahead:n≤i→∀j,j<i→L.getD j false=true:=by
    intro hin j hj;obtain ⟨e,he,hb,rfl⟩:=wait hin ho j hj;exact hall e he hb
   have later:∀(m:Nat),n≤m→m=i→(∀j,m≤j→L.getD j false=false)→(∀j,j<m→L.getD j false=true)→wpList P l.toArray Q (l.drop m) a w→
       wpOp P l.toArray Q i (fun a' w'=>((∀k,n≤k→(L.setIfInBounds i true).getD k false=false)∧∃u:Nat→Value,a'= {tmps:=mixFrame (dstsOf (l.take n)) u t0,defers:=ds}∧J w'∧∀(k:Nat) (o:Oper),(l.take n)[k]? =some o→(L.setIfInBounds i true).getD k false=true→G k (valOf u o) w') ∨
         (∃m,n≤m∧m≤l.length∧(∀k,k<m→(L.setIfInBounds i true).getD k false=true)∧(∀k,m≤k→(L.setIfInBounds i true).getD k false=false)∧wpList P l.toArray Q (l.drop m) a' w')) a w:=by
    rintro m hnm rfl hno hyes hw;refine wpOp_mono (fun a' w' h=> .inr ⟨m+1,by omega,by omega,fun k hk=> ?_,fun k hk=> ?_,h⟩) (wpOp_of_list ho hw)
    · by_cases e:k=m
      · subst e;exact set_same hilt
      · rw [set_else e];exact hyes k (by omega)
    · rw [set_else (by omega)];exact hno k (by omega)
   rcases hI with ⟨hno,u,rfl,hJw,hG⟩ | ⟨m,hnm,hml,hyes,hno,hw⟩
   · by_cases hin:i<n
     · have htki:(l.take n)[i]? =some o:=htk.2 ⟨hin,ho⟩;have hok:=hop.at htki;rw [Nat.zero_add] at hok;have hg:o.guard=none:=by
        have:=hgd o (List.mem_of_getElem? htki);cases hx:o.guard with
        | none=>rfl
        | some x=>rw [hx] at this;cases this
       unfold wpOp;simp only [List.getElem?_toArray,ho];rw [if_pos (by simp [Region.wanted,hg])];left;refine hok u _ w (fun t ht=>mixFrame_get ht) hJw (fun j p hj hp=> ?_) _ (fun v w' hv hJ' hG' hE=> .inl ⟨fun k hk=>by rw [set_else (by omega)];exact hno k hk,?_⟩)
       · rw [List.getElem?_toArray] at hp;obtain ⟨e,he,hbe⟩:=Array.any_eq_true.1 hj;simp only [Bool.and_eq_true,beq_iff_eq] at hbe;have hl:=hall _ (Array.getElem_mem he) hbe.1;rw [hbe.2] at hl;have hjn:j<n:=by
          by_cases h:j<n
          · exact h
          · rw [hno j (by omega)] at hl;cases hl
         exact hG j p (htk.2 ⟨hjn,hp⟩) hl
       · cases hd:o.dst with
         | none=>
          refine ⟨u,rfl,hJ',fun k p hp hk=> ?_⟩;by_cases e:k=i
          · subst e;obtain rfl:p=o:=Option.some.inj (hp.symm.trans htki);have:valOf u p=undef:=by simp [valOf,hd]
            rw [this,←hv hd];exact hG'
          · rw [set_else e] at hk;exact hst _ _ _ _ hE (hG k p hp hk)
         | some d=>
          have hdm:(dstsOf (l.take n)).contains d=true:=by
           simp only [List.contains_iff_mem];exact List.mem_filterMap.2 ⟨o,List.mem_of_getElem? htki,hd⟩
          refine ⟨fun t=>if t=d then v else u t,by simp only [Act.put,mixFrame_put hdm],hJ',fun k p hp hk=> ?_⟩;by_cases e:k=i
          · subst e;obtain rfl:p=o:=Option.some.inj (hp.symm.trans htki);simpa [valOf,hd] using hG'
          · rw [set_else e] at hk;have hne:=nodup_slot hnd htki hp (fun h=>e h.symm) hd;have:valOf (fun t=>if t=d then v else u t) p=valOf u p:=by
             unfold valOf;cases hpd:p.dst with
             | none=>rfl
             | some d'=>exact if_neg (fun h=>hne (by rw [hpd,h]))
            rw [this];exact hst _ _ _ _ hE (hG k p hp hk)
     · have hin':n=i:=by
         by_cases e:n=i
         · exact e
         · have:=ahead (by omega) n (by omega);rw [hno n (Nat.le_refl _)] at this;cases this
       refine later n (Nat.le_refl _) hin' hno (fun j hj=>ahead (by omega) j (by omega)) (hdone u w hJw fun k p hp=>hG k p hp (ahead (by omega) k ?_));have:=(htk.1 hp).1;omega
   · have him:m≤i:=by
       by_cases h:m≤i
       · exact h
       · have:=hyes i (by omega);rw [hi] at this;cases this
     have hmi:m=i:=by
      by_cases e:m=i
      · exact e
      · have:=ahead (by omega) m (by omega);rw [hno m (Nat.le_refl _)] at this;cases this
     exact later m hnm hmi hno hyes hw
 · rintro L a w hs hall hI;rw [List.size_toArray] at hall;rcases hI with ⟨hno,u,rfl,hJw,hG⟩ | ⟨m,hnm,hml,hyes,hno,hw⟩
   · have hnl:n=l.length:=by
       by_cases e:n=l.length
       · exact e
       · have:=hall n (by omega);rw [hno n (Nat.le_refl _)] at this;cases this
     have hq:=hdone u w hJw fun k p hp=>hG k p hp (hall k (by have:=(htk.1 hp).1;omega))
     have hd:l.drop n=[]:=by rw [hnl];exact List.drop_length
     rw [hd] at hq;exact hq
   · have hml':m=l.length:=by
       by_cases e:m=l.length
       · exact e
       · have:=hall m (by omega);rw [hno m (Nat.le_refl _)] at this;cases this
     rw [hml',List.drop_length] at hw;exact hw
 · rw [List.size_toArray] at h;simp [Array.getD] at h
end
structure Ext (T:TypeId) (w w':World):Prop where
 size:w.heap.size≤w'.heap.size
 same:∀(k:Nat) (o:Obj),w.heap[k]? =some o→(∀cs fr,o≠ .cells cs T fr)→w'.heap[k]? =some o
 box:∀(k:Nat) (cs:Array Value) (fr:Nat×Nat),w.heap[k]? =some (.cells cs T fr)→∃cs',w'.heap[k]? =some (.cells cs' T fr)∧cs'.size=cs.size
theorem Ext.refl (T:TypeId) (w:World):Ext T w w:=⟨Nat.le_refl _,fun _ _ h _=>h,fun _ cs _ h=>⟨cs,h,rfl⟩⟩
theorem Ext.below {T:TypeId} {w w':World} (h:Below w.heap.size w w'):Ext T w w':=
  ⟨h.size,fun k o hk _=>(h.block k (Array.getElem?_eq_some_iff.1 hk).1).trans hk,fun k cs fr hk=>⟨cs,(h.block k (Array.getElem?_eq_some_iff.1 hk).1).trans hk,rfl⟩⟩
theorem Ext.owns {T:TypeId} {w w':World} (hE:Ext T w w') {base:Nat} {e:TypeId} {size:Nat} {v:Value} {n:Nat} {xs:List Value} (hne:e≠T) (h:w.ownsRow base e size v n xs):w'.ownsRow base e size v n xs:=by
 obtain ⟨h1,h2⟩:=h;refine ⟨h1,?_⟩;rcases h2 with h2 | ⟨g,cap,cur,hv,hg,hh,r⟩
 · exact .inl h2
 · exact .inr ⟨g,cap,cur,hv,hg,hE.same _ _ hh (fun cs fr e=>by cases e;exact hne rfl),r⟩
structure Fact (T:TypeId) where
 holds:Value→World→Prop
 stays:∀v w w',Ext T w w'→holds v w→holds v w'
def Fact.any (T:TypeId):Fact T:=⟨fun _ _=>True,fun _ _ _ _ _=>trivial⟩
def Fact.is {T:TypeId} (x:Value):Fact T:=⟨fun v _=>v=x,fun _ _ _ _ h=>h⟩
def Fact.row {T:TypeId} (base:Nat) (e:TypeId) (he:e≠T) (s n:Nat) (xs:List Value):Fact T:=⟨fun v w=>w.ownsRow base e s v n xs,fun _ _ _ h k=>h.owns he k⟩
def Fact.agg3 {T:TypeId} (f g k:Fact T):Fact T:=⟨fun v w=>∃x y z,v= .agg #[x,y,z]∧f.holds x w∧g.holds y w∧k.holds z w,fun _ _ _ h ⟨x,y,z,e,h1,h2,h3⟩=>⟨x,y,z,e,f.stays _ _ _ h h1,g.stays _ _ _ h h2,k.stays _ _ _ h h3⟩⟩
def Fact.box {T:TypeId} (base n:Nat):Fact T:=⟨fun v w=>∃b cs,v= .pointer (some ⟨b,0,none⟩)∧base≤b∧w.heap[b]? =some (.cells cs T (0,0))∧cs.size=n,
  fun _ _ _ h ⟨b,cs,e,hb,hh,hn⟩=>by obtain ⟨cs',h1,h2⟩:=h.box _ _ _ hh;exact ⟨b,cs',e,hb,h1,by omega⟩⟩
def Fact.empty {T:TypeId} (base:Nat) (e:TypeId) (he:e≠T):Fact T:=⟨fun v w=>∃g,v= .slice (some ⟨g,0,none⟩) 0 0∧w.ownsRow base e 1 v 0 [],fun _ _ _ h ⟨g,k1,k2⟩=>⟨g,k1,h.owns he k2⟩⟩
def factAt {T:TypeId} (fs:List (Fact T)) (k:Nat) (v:Value) (w:World):Prop:=(fs.getD k (Fact.any T)).holds v w
theorem factAt_stays {T:TypeId} (fs:List (Fact T)) (k:Nat) (v:Value) (w w':World) (h:Ext T w w'):factAt fs k v w→factAt fs k v w':=(fs.getD k (Fact.any T)).stays _ _ _ h
theorem owns_empty {w:World} {base k:Nat} {t:TypeId} (h:w.heap[k]? =some (.cells #[] t)) (hb:base≤k):w.ownsRow base t 1 (.slice (some ⟨k,0,none⟩) 0 0) 0 []:=
  ⟨rfl,.inr ⟨k,0,#[],rfl,hb,h,Nat.le_refl _,Nat.zero_le _,rfl,rfl⟩⟩
theorem run_loadVar_many {P:Program} {w:World} {ty:TypeId} {d:TypeDesc} {b:Nat} (vs:List Value) (hu:P.underlying ty=some d) (hd:d.isRow=true) (hi:(P.info? ty).map (·.size)=some vs.length)
    (h:∀j x,vs[j]? =some x→w.cell? ⟨b,j,none⟩=some x):(loadVar ty ⟨b,0,none⟩).run P w= .ok (.agg vs.toArray) w:=
  run_loadVar_mid w b 0 ty vs d (fun j x hj=>by rw [Nat.zero_add];exact h j x hj) hu hd hi
theorem three_at {w:World} {b:Nat} {x y z:Value} (h0:w.cell? ⟨b,0,none⟩=some x) (h1:w.cell? ⟨b,1,none⟩=some y) (h2:w.cell? ⟨b,2,none⟩=some z):∀j v,[x,y,z][j]? =some v→w.cell? ⟨b,j,none⟩=some v:=by
 intro j v hj;match j with
 | 0=>simp at hj;rw [←hj];exact h0
 | 1=>simp at hj;rw [←hj];exact h1
 | 2=>simp at hj;rw [←hj];exact h2
 | n+3=>simp at hj
theorem alloc_new (w:World) (o:Obj):(w.alloc o).heap[w.heap.size]? =some o:=by unfold World.alloc;simp
theorem wp_append_empty {P:Program} {w:World} {o:Oper} {a:Act} {K:Act→World→Prop} {Q:Exit→Act→World→Prop} (s x:Operand) (t e:TypeId) (z:Value) (bytes:Nat)
    (ht:P.underlying t=some (.slice e)) (hinfo:(P.info? e).map (fun i=>(i.zero,i.size,i.bytes))=some (some z,1,bytes)) (hzs:z.cells.size=1) (hbytes:bytes≤1024)
    (base g:Nat) (ao:Option Addr) (m c:Nat) (news:List Value) (hown:w.ownsRow base e 1 (.slice (some ⟨g,0,none⟩) 0 0) 0 [])
    (hl:news.length=m) (hnone:ao=none→m=0∧c=0) (hnews:∀ad,ao=some ad→∀j u,news[j]? =some u→w.cell? (ad.add j)=some u) (h1:∀u ∈ news,u.oneCell'=true)
    (hlen:m≤4294967296) (hbase:base≤w.heap.size)
    (ho:o.op= .call {callee:= .builtin .append,args:= #[s,x],argTypes:= #[t,t]}) (hs:a.eval s= .slice (some ⟨g,0,none⟩) 0 0) (hx:a.eval x= .slice ao m c)
    (h:∀v' w',w'.ownsRow base e 1 v' m news→Below w.heap.size w w'→K (a.put o.dst v') w'):Oper.wp P o a w K Q:=by
 obtain ⟨v',w',hr,h2,h3,_⟩:=run_append_x (P:=P) w base t o.type e z 1 bytes ht hinfo hzs (by decide) (.slice (some ⟨g,0,none⟩) 0 0) 0 [] hown ao m c news (by omega) hnone hnews h1 (by omega) hbytes hbase;rw [Nat.zero_add,List.nil_append] at h2;have hb:Below w.heap.size w w':=by
  obtain ⟨i,hi,hz,hsi,hby⟩:=info_parts hinfo;cases ao with
  | none=>
   obtain ⟨rfl,rfl⟩:=hnone rfl;have:=run_append_owned_none (P:=P) w base t o.type e i 1 ht hi _ 0 [] hown;rw [hr] at this;cases this;exact Below.refl _ _
  | some ad=>
   by_cases hm:m=0
   · subst hm;obtain rfl:news=[]:=List.eq_nil_of_length_eq_zero hl;have:=run_append_room_cells (P:=P) w t o.type e i ht hi g 0 0 0 ad 0 c [] (by simp) (by simp) (by simp) (Nat.le_refl _) (by simp) (by simp);rw [hr] at this;cases this;exact Below.refl _ _
   · have:=run_append_grow (P:=P) w t o.type e i z ht hi hz ⟨g,0,none⟩ 0 0 [] (by simp) (by simp) ad m c news (by rw [hsi];omega) (hnews ad rfl) (by omega) (by omega) (growslice_fits (by omega) (by rw [hby,Nat.zero_add];exact Nat.le_trans (Nat.mul_le_mul hlen hbytes) (by decide)));rw [hr] at this;cases this;exact (Below.refl _ _).drew.alloc (Nat.le_refl _) _
 unfold Oper.wp execOp;simp only [ho,resolve,invoke,builtin,Sem.run_bind,Sem.run_pure,Result.andThen_ok,List.map_toArray,List.map_cons,List.map_nil,hs,hx,hr];exact h v' w' h2 hb
theorem below_via {n m:Nat} {w W w':World} (h:Below m W w') (h1:Below n w W) (h2:n≤m):Below n w w':=h1.trans (h.mono h2)
theorem xv {w W w':World} (h:Below W.heap.size W w') (H:Hid (Below w.heap.size w W)):Hid (Below w.heap.size w w'):=Lib.hid (below_via h H.out H.out.size)
def IsRow (k:IntKind) (w:World) (a:Option Addr) (xs:List Int):Prop:=
  ∀i,i<xs.length→∃b off,a=some ⟨b,off,none⟩∧b<w.heap.size∧∀j,j<xs.length→w.cell? ⟨b,off+j,none⟩=some (.int k (xs.getD j 0))
variable {k:IntKind}
theorem IsRow.below {w w':World} {a:Option Addr} {xs:List Int} (h:IsRow k w a xs) (hb:Below w.heap.size w w'):IsRow k w' a xs:=by
 intro i hi;obtain ⟨b,off,ha,hlt,hc⟩:=h i hi;exact ⟨b,off,ha,Nat.lt_of_lt_of_le hlt hb.size,fun j hj=>(hb.cell (p:=⟨b,off+j,none⟩) hlt).trans (hc j hj)⟩
theorem IsRow.alloc {w:World} {a:Option Addr} {xs:List Int} (h:IsRow k w a xs) (o:Obj):IsRow k (w.alloc o) a xs:=h.below ((Below.refl _ _).alloc (Nat.le_refl _) _)
theorem IsRow.drewN {w:World} {a:Option Addr} {xs:List Int} (h:IsRow k w a xs) (n:Nat):IsRow k (w.drewN n) a xs:=h
theorem IsRow.setCell {w:World} {a:Option Addr} {xs:List Int} (h:IsRow k w a xs) {p:Addr} (hne:∀x,a=some x→x.block≠p.block) (v:Value):IsRow k (w.setCell p v) a xs:=by
 intro i hi;obtain ⟨b,off,ha,hlt,hc⟩:=h i hi;refine ⟨b,off,ha,by simpa using hlt,fun j hj=> ?_⟩;rw [World.cell?_setCell_other]
 · exact hc j hj
 · intro e;exact hne _ ha (by rw [e])
theorem IsRow.get {w:World} {a:Option Addr} {xs:List Int} (h:IsRow k w a xs) {i:Nat} (hi:i<xs.length):
    ∃b off x,a=some ⟨b,off,none⟩∧Hid (xs.getD i 0=x)∧w.cell? ⟨b,off+i,none⟩=some (.int k x)∧b<w.heap.size:=by
 obtain ⟨b,off,ha,hlt,hc⟩:=h i hi;exact ⟨b,off,_,ha,Lib.hid rfl,hc i hi,hlt⟩
theorem IsRow.take {w:World} {a:Option Addr} {xs:List Int} (h:IsRow k w a xs) (n:Nat) (hn:n≤xs.length):IsRow k w a (xs.take n):=by
 intro i hi;have hi':i<n:=by simp at hi;omega
 obtain ⟨b,off,ha,hlt,hc⟩:=h i (by omega);refine ⟨b,off,ha,hlt,fun j hj=> ?_⟩;have hj':j<n:=by simp at hj;omega
 rw [hc j (by omega)];simp [List.getD_eq_getElem?_getD,List.getElem?_take,hj']
theorem IsRow.get2 {w:World} {a:Option Addr} {xs:List Int} (h:IsRow k w a xs) {i:Nat} (hi:i*2+2≤xs.length):
    ∃ b off x y,a=some ⟨b,off,none⟩∧Hid (xs.getD (i*2) 0=x)∧Hid (xs.getD (i*2+1) 0=y)∧
      w.cell? ⟨b,off+i*2,none⟩=some (.int k x)∧w.cell? ⟨b,off+i*2+1,none⟩=some (.int k y)∧b<w.heap.size:=by
 obtain ⟨b,off,ha,hlt,hc⟩:=h (i*2) (by omega);exact ⟨b,off,_,_,ha,Lib.hid rfl,Lib.hid rfl,hc _ (by omega),by rw [Nat.add_assoc];exact hc _ (by omega),hlt⟩
theorem numCells (l:List Int):∀u ∈ l.map (Value.int k),u.oneCell'=true:=by
 intro u hu;obtain ⟨n,_,rfl⟩:=List.mem_map.1 hu;rfl
theorem row_of_owns {w:World} {B:Nat} {e:TypeId} {s:Nat} {v:Value} {n:Nat} {xs:List Int} (h:w.ownsRow B e s v n (xs.map (Value.int k))):
    ∃a cap,v= .slice a n cap∧IsRow k w a xs∧(∀x,a=some x→B≤x.block∧x.block<w.heap.size∧x.off=0∧x.spot=none)∧(a=none→n=0∧cap=0)∧n≤cap∧xs.length=n*s:=by
 have hl:xs.length=n*s:=by have:=h.1;simpa using this
 obtain ⟨h1,⟨rfl,hn⟩ | ⟨g,cap,cur,rfl,hg,hh,hn,hm,hs,ht⟩⟩:=h
 · subst hn;exact ⟨none,0,rfl,fun i hi=>by omega,fun x hx=>(by cases hx),fun _=>⟨rfl,rfl⟩,Nat.le_refl _,hl⟩
 · have hlt:=(Array.getElem?_eq_some_iff.1 hh).1;refine ⟨some ⟨g,0,none⟩,cap,rfl,fun i hi=>⟨g,0,rfl,hlt,fun j hj=> ?_⟩,fun x hx=>(by cases hx;exact ⟨hg,hlt,rfl,rfl⟩),fun hx=>(by cases hx),hn,hl⟩;have:=World.ownsRow.cells (w:=w) (base:=B) (e:=e) (size:=s) (n:=n) (xs:=xs.map (Value.int k)) ⟨h1,.inr ⟨g,cap,cur,rfl,hg,hh,hn,hm,hs,ht⟩⟩ (g:=g) rfl j (.int k (xs.getD j 0)) (by
    rw [List.getElem?_map,List.getElem?_eq_getElem hj];simp [List.getD_eq_getElem?_getD,hj])
   rw [Addr.add_lit] at this;exact this
theorem row_news {w:World} {ga:Option Addr} {xs:List Int} (h:IsRow k w ga xs):∀ad,ga=some ad→∀j u,(xs.map (Value.int k))[j]? =some u→w.cell? (ad.add j)=some u:=by
 rintro ad rfl j u hj;rw [List.getElem?_map] at hj;cases hx:xs[j]? with
 | none=>rw [hx] at hj;cases hj
 | some v=>
  rw [hx] at hj;have hjl:=(List.getElem?_eq_some_iff.1 hx).1;obtain ⟨b,o,h1,_,hc⟩:=h j hjl;cases h1;rw [Addr.add_lit,hc j hjl,List.getD_eq_getElem?_getD,hx];exact hj
theorem row_none {w:World} {xs:List Int} (h:IsRow k w none xs):xs=[]:=by
 cases xs with
 | nil=>rfl
 | cons x t=>obtain ⟨b,o,h1,_⟩:=h 0 (by simp);cases h1
theorem row_cell {w:World} {B g n cap:Nat} {e:TypeId} {xs:List Int} (h:w.ownsRow B e 1 (.slice (some ⟨g,0,none⟩) n cap) xs.length (xs.map (Value.int k))) {j:Nat} (hj:j<xs.length):
    (∃x,Hid (xs.getD j 0=x)∧w.cell? ⟨g,j,none⟩=some (.int k x))∧w.frozen? ⟨g,j,none⟩=false∧
    ∀y:Int,(w.setCell ⟨g,j,none⟩ (.int k y)).ownsRow B e 1 (.slice (some ⟨g,0,none⟩) n cap) (xs.set j y).length ((xs.set j y).map (Value.int k)):=by
 have hn:n=xs.length:=by
  obtain ⟨_,⟨hv,_⟩ | ⟨_,_,_,hv,_⟩⟩:=h
  · cases hv
  · cases hv;rfl
 subst hn;refine ⟨⟨_,Lib.hid rfl,?_⟩,h.frozenAt j,fun y=> ?_⟩
 · rw [h.cellAt j (by omega),List.getElem?_map,List.getElem?_eq_getElem hj];simp [List.getD_eq_getElem?_getD,hj]
 · have:=h.stored j (.int k y);rw [List.length_set,List.map_set];exact this.1
def FreshRow (k:IntKind) (t:TypeId) (w:World) (xs:List Int) (e:Ending) (w':World):Prop:=
  ∃v,e= .returned v∧w'.ownsRow w.heap.size t 1 v xs.length (xs.map (Value.int k))∧Below w.heap.size w w'
theorem row_take_succ {xs ys:List Int} {k:Nat} (hl:xs.length=ys.length) (hk:k<xs.length) (h:xs.take k=ys.take k) (h2:xs.getD k 0=ys.getD k 0):xs.take (k+1)=ys.take (k+1):=by
 rw [List.take_succ_eq_append_getElem hk,List.take_succ_eq_append_getElem (by omega),h];simp [List.getD_eq_getElem?_getD,hk,(by omega:k<ys.length)] at h2;rw [h2]
end
end Go.Proofs.YtbedhbpgnfffmaaGreat

/- Merged: Mem, Lib, Inv, Fact, Step, Row, Bits, HeapPlain, Slots, OccP, Heap, BitFns, RowIx. -/
import Derived.Deep.MidRow
import Derived.Test.YtbedhbpgnfffmaaGreatDoorChecked
import Derived.WalkKit
import Derived.WalkSmall
import Derived.WalkLawsBesides
import Derived.BigQuiet
import Derived.Deep.QuietTactic
import Derived.Deep.LoopGhost
import Derived.Lib.Hide
import Derived.Lib.QuietBelow
import Derived.Outline
import Derived.ScopeJumps
import Derived.WalkMore
import Derived.StillTailTactics
import Derived.Deep.RegionLaw
import Derived.IntWalk
import Derived.Laws.Bits64b
import Derived.BigRegion
import Derived.Lib.SliceRun
namespace Go.Proofs.YtbedhbpgnfffmaaGreatDoor
set_option maxRecDepth 100000
set_option maxHeartbeats 40000000
set_option linter.unusedVariables false
set_option linter.unusedSimpArgs false
section
open Go.RowKit
theorem xo {P:Prop} (h:P:=by omega):P:=h
theorem xk {P:Prop} (h:P:=by kernel_rfl):P:=h
theorem dG {P:Prop} (h:P:=by dsimp only;omega):P:=h
theorem aS {P:Prop} (h:P:=by intro h;cases h):P:=h
theorem au {P:Prop} (h:P:=by decide):P:=h
theorem ax {P:Prop} (h:P:=by simp):P:=h
theorem hid {p:Prop} (h:p):Hid p:=Lib.hid h
theorem szW:(∀(w:World) (o:Obj),(w.alloc o).heap.size=w.heap.size+1)/\(∀(w:World) (a:Addr) (v:Value),(w.setCell a v).heap.size=w.heap.size)/\(∀(w:World),w.drew.heap.size=w.heap.size)/\(∀(w:World) (n:Nat),(w.drewN n).heap=w.heap):=⟨World.size_alloc,World.size_setCell,World.size_drew,World.heap_drewN⟩
theorem XQ:(∀(w:World) (o:Obj) (n i:Nat),n<w.heap.size->(w.alloc o).cell? ⟨n,i,none⟩=w.cell? ⟨n,i,none⟩)/\(∀(w:World) (c:Array Value) (t:TypeId) (n i:Nat),n=w.heap.size->(w.alloc (Obj.cells c t)).cell? ⟨n,i,none⟩=c[i]?)/\(∀(w:World) (o:Obj) (n i:Nat),n<w.heap.size->(w.alloc o).frozen? ⟨n,i,none⟩=w.frozen? ⟨n,i,none⟩)/\(∀(w:World) (c:Array Value) (t:TypeId) (n i:Nat),n=w.heap.size->(w.alloc (Obj.cells c t)).frozen? ⟨n,i,none⟩=false)/\(∀(w:World) (a b:Addr) (v:Value),(w.setCell a v).frozen? b=w.frozen? b)/\(∀(w:World) (a:Addr),w.drew.cell? a=w.cell? a)/\(∀(w:World) (a:Addr),w.drew.frozen? a=w.frozen? a):=
  ⟨fun _=>World.cell?_alloc_past,fun _=>World.cell?_alloc_at,fun _=>World.frozen?_alloc_past,fun _=>World.frozen?_alloc_at,World.frozen?_setCell,World.cell?_drew,World.frozen?_drew⟩
section
variable {P:Program}
theorem pK (w:World) (base:Nat) (t ty e:TypeId) (z:Value) (size bytes:Nat) (ht:P.underlying t=some (.slice e))
    (hinfo:(P.info? e).map (fun i=>(i.zero,i.size,i.bytes))=some (some z,size,bytes)) (hzs:z.cells.size=size) (hsz:0<size)
    (v:Value) (n:Nat) (xs:List Value) (hown:w.ownsRow base e size v n xs)
    (ao:Option Addr) (m c:Nat) (news:List Value) (hl:news.length=m*size) (hnone:ao=none->m=0/\c=0)
    (hnews:∀ad,ao=some ad->∀j u,news[j]? =some u->w.cell? (ad.add j)=some u) (h1:∀u ∈ news,u.oneCell'=true)
    (h63:n+m<=4294967296) (hbytes:bytes<=1024) (hbase:base<=w.heap.size):
    ∃ v' w',(Builtin.append_ #[t,t] ty #[v,.slice ao m c]).run P w= .ok v' w'/\w'.ownsRow base e size v' (n+m) (xs++news)/\w.grownBy w' v.ownBlock/\
      (v'.ownBlock=v.ownBlock\/∀k,v'.ownBlock=some k->w.heap.size<=k):=by
 obtain ⟨i,hi,hz,hs,hb⟩:=info_parts hinfo;have hm1:n+m<=maxLen:=by unfold maxLen;omega
 have hm2:(n+m)*bytes<=140737488355328:=Nat.le_trans (Nat.mul_le_mul h63 hbytes) (by decide);cases ao with
 | none=>
  obtain ⟨rfl,rfl⟩:=hnone rfl;have hn:news=[]:=List.eq_nil_of_length_eq_zero (by simpa using hl);subst hn;refine ⟨v,w,run_append_owned_none w base t ty e i size ht hi v n xs hown,by simpa using hown,World.grownBy.refl _ _,.inl rfl⟩
 | some ad=>
  have hc:=hnews ad rfl;obtain ⟨v',w',hr,ho,hg,_⟩:=run_append_own (P:=P) w base t ty e i z size bytes ht hi hz hs hb hzs hsz v n xs hown ad m c news hl hc h1 hm1 hm2 hbase;refine ⟨v',w',hr,ho,hg,?_⟩;obtain ⟨hx,⟨rfl,rfl⟩ | ⟨g,cap,cur,rfl,hbg,hgg,hnc,hcm,hcs,htake⟩⟩:=hown
  . have hx0:xs=[]:=List.eq_nil_of_length_eq_zero (by simpa using hx);subst hx0;obtain ⟨v2,w2,hr2,ho2,_,_⟩:=run_append_own (P:=P) w w.heap.size t ty e i z size bytes ht hi hz hs hb hzs hsz (.slice none 0 0) 0 [] (World.ownsRow_nil w _ e size) ad m c news hl hc h1 hm1 hm2 (Nat.le_refl _);rw [hr] at hr2;cases hr2;exact .inr fun k hk=>(ho2.lt k hk).1
  . by_cases hroom:n+m<=cap
    . obtain ⟨w2,hr2,_⟩:=run_append_fits (P:=P) w base t ty e i size ht hi hs g n cap xs ⟨hx,.inr ⟨g,cap,cur,rfl,hbg,hgg,hnc,hcm,hcs,htake⟩⟩ ad m c news hl hc h1 hroom;rw [hr] at hr2;cases hr2;exact .inl rfl
    . have holds:=World.ownsRow.cells (w:=w) (base:=base) (e:=e) (size:=size) (n:=n) (xs:=xs) ⟨hx,.inr ⟨g,cap,cur,rfl,hbg,hgg,hnc,hcm,hcs,htake⟩⟩ (g:=g) rfl;have hr2:=run_append_grow (P:=P) w t ty e i z ht hi hz ⟨g,0,none⟩ n cap xs (by rw [hs];exact hx) holds ad m c news (by rw [hs];exact hl) hc (by omega) (by omega) (growslice_fits (by omega) (by rw [hb];exact hm2));rw [hr] at hr2;cases hr2;exact .inr fun k hk=>by cases hk;exact Nat.le_refl _
theorem nU {w:World} {ops:Array Oper} {rest:List Oper} {o:Oper} {a:Act} {Q:Exit->Act->World->Prop} (s x:Operand) (t e:TypeId) (z:Value) (size bytes:Nat)
    (ht:P.underlying t=some (.slice e)) (hinfo:(P.info? e).map (fun i=>(i.zero,i.size,i.bytes))=some (some z,size,bytes)) (hzs:z.cells.size=size) (hsz:0<size) (hbytes:bytes<=1024)
    (B:Nat) (v:Value) (n:Nat) (xs:List Value) (ao:Option Addr) (m c:Nat) (news:List Value)
    (hown:w.ownsRow B e size v n xs) (hl:news.length=m*size) (hnone:ao=none->m=0/\c=0)
    (hnews:∀ad,ao=some ad->∀j u,news[j]? =some u->w.cell? (ad.add j)=some u) (h1:∀u ∈ news,u.oneCell'=true)
    (hlen:n+m<=4294967296) (hbase:B<=w.heap.size)
    (hgd:o.guard=none) (ho:o.op= .call {callee:= .builtin .append,args:= #[s,x],argTypes:= #[t,t]})
    (hs:a.eval s=v) (hx:a.eval x= .slice ao m c)
    (h:∀v' w',w'.ownsRow B e size v' (n+m) (xs++news)->w.grownBy w' v.ownBlock->(v'.ownBlock=v.ownBlock\/∀k,v'.ownBlock=some k->w.heap.size<=k)->wpList P ops Q rest (a.put o.dst v') w'):
    wpList P ops Q (o::rest) a w:=by
 refine wpList_plain hgd fun K hK=> ?_
 obtain ⟨v',w',hr,h2,h3,h4⟩:=pK (P:=P) w B t o.type e z size bytes ht hinfo hzs hsz v n xs hown ao m c news hl hnone hnews h1 hlen hbytes hbase;unfold Oper.wp execOp;simp only [ho,resolve,invoke,builtin,Sem.run_bind,Sem.run_pure,Result.andThen_ok,List.map_toArray,List.map_cons,List.map_nil,hs,hx,hr];exact hK _ _ (h v' w' h2 h3 h4)
theorem Jb {w:World} {ops:Array Oper} {o:Oper} {a:Act} {K:Act->World->Prop} {Q:Exit->Act->World->Prop} {E:Prop} (s x:Operand) (t e:TypeId) (z:Value) (size bytes:Nat)
    (ht:P.underlying t=some (.slice e)) (hinfo:(P.info? e).map (fun i=>(i.zero,i.size,i.bytes))=some (some z,size,bytes)) (hzs:z.cells.size=size) (hsz:0<size) (hbytes:bytes<=1024)
    (B:Nat) (v:Value) (n:Nat) (xs:List Value) (ao:Option Addr) (m c:Nat) (news:List Value)
    (hown:w.ownsRow B e size v n xs) (hl:news.length=m*size) (hnone:ao=none->m=0/\c=0)
    (hnews:∀ad,ao=some ad->∀j u,news[j]? =some u->w.cell? (ad.add j)=some u) (h1:∀u ∈ news,u.oneCell'=true)
    (hlen:n+m<=4294967296) (hbase:B<=w.heap.size)
    (hgd:o.guard=none) (ho:o.op= .call {callee:= .builtin .append,args:= #[s,x],argTypes:= #[t,t]})
    (hs:a.eval s=v) (hx:a.eval x= .slice ao m c)
    (h:∀v' w',w'.ownsRow B e size v' (n+m) (xs++news)->w.grownBy w' v.ownBlock->(v'.ownBlock=v.ownBlock\/∀k,v'.ownBlock=some k->w.heap.size<=k)->K (a.put o.dst v') w'):
    if Region.wanted o (yielded ops a.tmps)=true then Oper.wp P o a w K Q else E:=by
 have hw:Region.wanted o (yielded ops a.tmps)=true:=by simp [Region.wanted,hgd]
 rw [if_pos hw];obtain ⟨v',w',hr,h2,h3,h4⟩:=pK (P:=P) w B t o.type e z size bytes ht hinfo hzs hsz v n xs hown ao m c news hl hnone hnews h1 hlen hbytes hbase;unfold Oper.wp execOp;simp only [ho,resolve,invoke,builtin,Sem.run_bind,Sem.run_pure,Result.andThen_ok,List.map_toArray,List.map_cons,List.map_nil,hs,hx,hr];exact h v' w' h2 h3 h4
theorem Uo {w:World} {ops:Array Oper} {rest:List Oper} {o:Oper} {a:Act} {Q:Exit->Act->World->Prop} (l c:Operand) (t e:TypeId) (z:Value) (size bytes:Nat)
    (ht:P.underlying t=some (.slice e)) (hinfo:(P.info? e).map (fun i=>(i.zero,i.size,i.bytes))=some (some z,size,bytes)) (hbytes:bytes<=1024)
    (B n:Nat) (N:Int) (hN:N=n) (hlen:n<=4294967296) (hbase:B<=w.heap.size)
    (hgd:o.guard=none) (ho:o.op=Op.makeSlice t l c) (hl:a.eval l= .int .i64 N) (hc:a.eval c= .int .i64 N)
    (h:∀g w',w.heap.size<=g->w'.ownsRow B e size (.slice (some ⟨g,0,none⟩) n n) n (madeCells z.cells (n*size)).toList->Below w.heap.size w w'->
      wpList P ops Q rest (a.put o.dst (.slice (some ⟨g,0,none⟩) n n)) w'):
    wpList P ops Q (o::rest) a w:=by
 obtain ⟨i0,hi,hz0,hz1,hz2⟩:=info_parts hinfo;refine wpList_make_full w hgd l c t ho B e i0 z size ht hi hz0 hz1 .i64 .i64 N N n hl hc hN hN (by rw [hz2];exact Nat.le_trans (Nat.mul_le_mul hbytes hlen) (by decide)) (by unfold maxLen;omega) hbase ?_;intro w' h1 h2;exact h w.heap.size w' (Nat.le_refl _) h1 ((Below.refl _ _).grown h2 (Nat.le_refl _) (fun k hk=>by cases hk))
end
theorem ay {w w':World} {base:Nat} {e:TypeId} {size:Nat} {v:Value} {n:Nat} {xs:List Value}
    (h:w.ownsRow base e size v n xs) (hb:Below w.heap.size w w'):w'.ownsRow base e size v n xs:=by
 obtain ⟨h1,h2⟩:=h;refine ⟨h1,?_⟩;rcases h2 with h2 | ⟨g,cap,cur,hv,hg,hh,r⟩
 . exact .inl h2
 . exact .inr ⟨g,cap,cur,hv,hg,by rw [hb.block g (Array.getElem?_eq_some_iff.1 hh).1];exact hh,r⟩
theorem az {w:World} {base base':Nat} {e:TypeId} {size:Nat} {v:Value} {n:Nat} {xs:List Value}
    (h:w.ownsRow base e size v n xs) (hb:base'<=base):w.ownsRow base' e size v n xs:=by
 obtain ⟨h1,h2⟩:=h;refine ⟨h1,?_⟩;rcases h2 with h2 | ⟨g,cap,cur,hv,hg,r⟩
 . exact .inl h2
 . exact .inr ⟨g,cap,cur,hv,by omega,r⟩
theorem kQ {w:World} {b1 b2:Nat} {e1 e2:TypeId} {s1 s2:Nat} {v1 v2:Value} {n1 n2:Nat} {xs1 xs2:List Value}
    (h1:w.ownsRow b1 e1 s1 v1 n1 xs1) (h2:w.ownsRow b2 e2 s2 v2 n2 xs2) (hne:e1≠e2):v1.ownBlock=none\/v1.ownBlock≠v2.ownBlock:=by
 obtain ⟨_,⟨rfl,_⟩ | ⟨g1,c1,akq,rfl,_,hh1,_⟩⟩:=h1
 . exact .inl rfl
 . obtain ⟨_,⟨rfl,_⟩ | ⟨g2,c2,akp,rfl,_,hh2,_⟩⟩:=h2
   . exact .inr (by simp [Value.ownBlock])
   . refine .inr fun e=> ?_
     simp only [Value.ownBlock,Option.some.injEq] at e;subst e;rw [hh1] at hh2;cases hh2;exact hne rfl
theorem OC {a b:Option Nat} (h:a=none\/a≠b):b=none\/b≠a:=by
 rcases h with rfl|h
 . by_cases hb:b=none
   . exact .inl hb
   . exact .inr hb
 . exact .inr fun e=>h e.symm
theorem bJ {P:Program} {w:World} {ty:TypeId} {d:TypeDesc} {a:Addr} {v:Value} (hu:P.underlying ty=some d) (hd:(match d with | .struct _ | .array _ _=>true|_=>false)=false) (hc:w.cell? a=some v):
    (loadVar ty a).run P w= .ok v w:=by
 have hagg:(isAgg ty).run P w= .ok false w:=by
  unfold isAgg;rw [Sem.run_bind,run_underlying hu w];cases d<;>simp_all
 simp [loadVar,Sem.run_bind,hagg,hc,Result.andThen]
theorem iO {P:Program} {fn:Func} {p:Tmp} {ty:TypeId} (h:fn.results= #[.cell p ty]) {t:Array Value} {w:World} {a:Addr} {v:Value}
    (hp:t.getD p undef= .pointer (some a)) (hv:(loadVar ty a).run P w= .ok v w):(results fn t).run P w= .ok v w:=by
 have hp':t[p]?.getD undef= .pointer (some a):=by simpa using hp
 simp [results,h,hp',asAddr,hv]
theorem kP {P:Program} {fn:Func} {p q:Tmp} {ty tz:TypeId} (h:fn.results= #[.cell p ty,.cell q tz]) {t:Array Value} {w:World} {a b:Addr} {v u:Value}
    (hp:t.getD p undef= .pointer (some a)) (hq:t.getD q undef= .pointer (some b)) (hv:(loadVar ty a).run P w= .ok v w) (hu:(loadVar tz b).run P w= .ok u w):
    (results fn t).run P w= .ok (.tuple #[v,u]) w:=by
 have hp':t[p]?.getD undef= .pointer (some a):=by simpa using hp
 have hq':t[q]?.getD undef= .pointer (some b):=by simpa using hq
 simp [results,h,hp',hq',asAddr,hv,hu]
theorem aF {P:Program} {fn:Func} {p q:Tmp} {ty:TypeId} (h:fn.results= #[.cell p ty,.tmp q]) {t:Array Value} {w:World} {a:Addr} {v:Value}
    (hp:t.getD p undef= .pointer (some a)) (hv:(loadVar ty a).run P w= .ok v w):
    (results fn t).run P w= .ok (.tuple #[v,t.getD q undef]) w:=by
 have hp':t[p]?.getD undef= .pointer (some a):=by simpa using hp
 simp [results,h,hp',asAddr,hv]
theorem oq (w:World) (vs:List Value) (t:TypeId) (k:Nat) (hk:k=w.heap.size):
    ∀ad,some (⟨k,0,none⟩:Addr)=some ad->∀j u,vs[j]? =some u->(w.alloc (.cells vs.toArray t)).cell? (ad.add j)=some u:=by
 intro ad had j u hj;cases had;subst hk;rw [Addr.add_lit,Nat.zero_add,World.cell?_alloc_at _ _ _ _ rfl];simpa using hj
theorem jq (F:(Nat->Value)->Array Value) (t:Array Value) (ds:List Deferred) (h:F (fun i=>t.getD i undef)=t):∃u,({tmps:=t,defers:=ds}:Act)= {tmps:=F u,defers:=ds}:=
  ⟨_,by rw [h]⟩
theorem bZ {P:Program} {c B:Code} (l:Nat) {Q:Exit->Act->World->Prop} {a:Act} {w:World} (J:Nat->Act->World->Prop) (hf:findLabel c l=some (.seq .skip B))
    (pass:∀n a w,J n a w->∀H:Act->World->Prop,(∀k a' w',k<n->J k a' w'->H a' w')->B.wp P (Exit.jump l H Q) a w)
    (first:∀H:Act->World->Prop,(∀k a' w',J k a' w'->H a' w')->(∀k a' w',J k a' w'->B.wp P (Exit.jump l H Q) a' w')->c.wp P (Exit.jump l H Q) a w):
    (Code.scope c).wp P Q a w:=by
 refine wp_scope_jumps l (fun a w=>∃n,J n a w) (fun a w=>leastOf (fun n=>J n a w)) hf ?_ ?_
 . exact first _ (fun k a' w' h=>⟨k,h⟩) (fun k a' w' h=>Code.wp_mono (fun e a w q=>q) (pass k a' w' h _ (fun k a' w' _ h=>⟨k,h⟩)))
 . intro a w hJ;refine wp_seq (wp_skip ?_);refine pass _ a w (leastOf_spec hJ).1 _ ?_;intro k a' w' hk h;exact ⟨⟨k,h⟩,Nat.lt_of_le_of_lt ((leastOf_spec ⟨k,h⟩).2 k h) hk⟩
theorem ae (w:World) (a:Addr) (v:Value) {k:Nat} (h:k≠a.block):(w.setCell a v).heap[k]? =w.heap[k]? :=by
 simp only [World.setCell,Array.getElem?_modify];rw [if_neg (fun e=>h e.symm)]
theorem af {W W':World} {base:Nat} {e:TypeId} {size:Nat} {v:Value} {n:Nat} {xs:List Value} (ho:W.ownsRow base e size v n xs) (hh:∀k,v.ownBlock=some k->W'.heap[k]? =W.heap[k]?):W'.ownsRow base e size v n xs:=by
 obtain ⟨h1,h2⟩:=ho;refine ⟨h1,?_⟩;rcases h2 with h2 | ⟨g,cap,cur,hv,hg,hp,r⟩
 . exact .inl h2
 . exact .inr ⟨g,cap,cur,hv,hg,(hh g (by rw [hv];rfl)).trans hp,r⟩
theorem iM {P:Program} {w:World} {ty:TypeId} {d:TypeDesc} {b:Nat} {v u:Value} (hu:P.underlying ty=some d) (hd:d.isRow=true) (hi:(P.info? ty).map (·.size)=some 2)
    (h0:w.cell? ⟨b,0,none⟩=some v) (h1:w.cell? ⟨b,1,none⟩=some u):(loadVar ty ⟨b,0,none⟩).run P w= .ok (.agg #[v,u]) w:=
  run_loadVar_mid w b 0 ty [v,u] d (fun j x hj=>by
   match j with
   | 0=>simp at hj;rw [<-hj];exact h0
   | 1=>simp at hj;rw [<-hj];exact h1
   | n+2=>simp at hj) hu hd hi
end
section
open Go.RowKit
open Go.Sort in
theorem cg {w:World} {a:Addr} {v:Value} (h:w.cell? a=some v) (d:Nat) (os:Array Obj):(grow (redrawn w d) os).cell? a=some v:=cell_regrown h d os
open Go.Sort in
theorem kr {P:Program} {f:FuncId} {args:Array Value} (w:World) (d:Nat) (os:Array Obj) {v:Value}
    (h:Calls P f args (grow (redrawn w d) os) fun e w'=>e= .returned v/\Below (grow (redrawn w d) os).heap.size (grow (redrawn w d) os) w'):Calls P f args (grow (redrawn w d) os) fun e w''=>e= .returned v/\∃p:Regrown,w''=grow (redrawn w p.d) p.os:=Calls.regrown_of h
abbrev tg (a:Act) (i:Nat):Value:=a.tmps.getD i undef
theorem br {B:Nat} {w:World}:Below B w w:=Below.refl _ _
theorem jb {B:Nat} {w w':World} {p:Addr} {v:Value} (hb:Below B w w') (c:w.cell? p=some v) (h:p.block<B:=by dsimp only;omega):w'.cell? p=some v:=(hb.cell h).trans c
theorem rW {B:Nat} {w w':World} {p:Addr} {v:Value} (hb:Below B w w') (h:p.block<B) (c:w.cell? p=some v):w'.cell? p=some v:=(hb.cell h).trans c
theorem IL {B:Nat} {w w':World} {p:Addr} {v:Bool} (hb:Below B w w') (h:p.block<B) (c:w.frozen? p=v):w'.frozen? p=v:=(hb.frozen h).trans c
theorem XK {B:Nat} {w w':World} {p:Addr} {v:Bool} (hb:Below B w w') (c:w.frozen? p=v) (h:p.block<B:=by dsimp only;omega):w'.frozen? p=v:=(hb.frozen h).trans c
theorem fF {w w':World} {p:Addr} {v:Value} (c:w.cell? p=some v) (h:w'.heap[p.block]? =w.heap[p.block]?):w'.cell? p=some v:=(World.cell?_of_block h).trans c
def pF (w:World) (a:Option Addr) (xs:List Int):Prop:=
  ∀i,i<xs.length->∃b off,a=some ⟨b,off,none⟩/\b<w.heap.size/\∀j,j<xs.length->w.cell? ⟨b,off+j,none⟩=some (.int .i64 (xs.getD j 0))
theorem pF.below {w w':World} {a:Option Addr} {xs:List Int} (h:pF w a xs) (hb:Below w.heap.size w w'):pF w' a xs:=by
 intro i hi;obtain ⟨b,off,ha,hlt,hc⟩:=h i hi;exact ⟨b,off,ha,Nat.lt_of_lt_of_le hlt hb.size,fun j hj=>(hb.cell (p:=⟨b,off+j,none⟩) hlt).trans (hc j hj)⟩
theorem pF.setCell {w:World} {a:Option Addr} {xs:List Int} (h:pF w a xs) {p:Addr} (hne:∀x,a=some x->x.block≠p.block) (v:Value):pF (w.setCell p v) a xs:=by
 intro i hi;obtain ⟨b,off,ha,hlt,hc⟩:=h i hi;refine ⟨b,off,ha,by simpa using hlt,fun j hj=> ?_⟩;rw [World.cell?_setCell_other]
 . exact hc j hj
 . intro e;exact hne _ ha (by rw [e])
theorem pF.get {w:World} {a:Option Addr} {xs:List Int} (h:pF w a xs) {k:Nat} (hk:k<xs.length):
    ∃b off x,a=some ⟨b,off,none⟩/\Hid (xs.getD k 0=x)/\w.cell? ⟨b,off+k,none⟩=some (.int .i64 x)/\b<w.heap.size:=by
 obtain ⟨b,off,ha,hlt,hc⟩:=h k hk;exact ⟨b,off,_,ha,Lib.hid rfl,hc k hk,hlt⟩
theorem G6 {w:World} {B:Nat} {v:Value} {xs:List Int} (h:w.ownsRow B 3 1 v xs.length (xs.map (Value.int .i64))):
    ∃a cap,v= .slice a xs.length cap/\pF w a xs/\(∀x,a=some x->B<=x.block/\x.off=0/\x.spot=none)/\(a=none->xs=[]/\cap=0):=by
 obtain ⟨h1,⟨rfl,hn⟩ | ⟨g,cap,cur,rfl,hg,hh,hn,hm,hs,ht⟩⟩:=h
 . refine ⟨none,0,by rw [hn],fun i hi=>by omega,fun x hx=>(by cases hx),fun _=>⟨List.eq_nil_of_length_eq_zero hn,rfl⟩⟩
 . refine ⟨some ⟨g,0,none⟩,cap,rfl,fun i hi=>⟨g,0,rfl,(Array.getElem?_eq_some_iff.1 hh).1,fun j hj=> ?_⟩,fun x hx=>(by cases hx;exact ⟨hg,rfl,rfl⟩),fun hx=>(by cases hx)⟩;have:=World.ownsRow.cellAt (w:=w) (base:=B) (e:=3) (size:=1) (xs:=xs.map (Value.int .i64)) ⟨h1,.inr ⟨g,cap,cur,rfl,hg,hh,hn,hm,hs,ht⟩⟩ j (by omega);rw [Nat.zero_add,this,List.getElem?_map,List.getElem?_eq_getElem hj];simp [List.getD_eq_getElem?_getD,hj]
theorem qB:(Tryz.prog.info? 3).map (fun i=>(i.zero,i.size,i.bytes))=some (some (.int .i64 0),1,8):=by kernel_rfl
def zD (w:World) (xs:List Int) (e:Ending) (w':World):Prop:=
  ∃v,e= .returned v/\w'.ownsRow w.heap.size 3 1 v xs.length (xs.map (Value.int .i64))/\Below w.heap.size w w'
theorem D7 {w:World} {ops:Array Oper} {rest:List Oper} {o:Oper} {a:Act} {Q:Exit->Act->World->Prop} (l c:Operand)
    (B n:Nat) (N:Int) (hN:N=n) (hlen:n<=4294967296) (hbase:B<=w.heap.size)
    (hgd:o.guard=none) (ho:o.op=Op.makeSlice 26 l c) (hl:a.eval l= .int .i64 N) (hc:a.eval c= .int .i64 N)
    (h:∀g w',B<=g->w'.ownsRow B 3 1 (.slice (some ⟨g,0,none⟩) n n) (List.replicate n (0:Int)).length ((List.replicate n (0:Int)).map (Value.int .i64))->Below w.heap.size w w'->
      wpList Tryz.prog ops Q rest (a.put o.dst (.slice (some ⟨g,0,none⟩) n n)) w'):
    wpList Tryz.prog ops Q (o::rest) a w:=by
 obtain ⟨i0,hi,hz0,hz1,hz2⟩:=info_parts qB;refine wpList_make_full w hgd l c 26 ho B 3 i0 (.int .i64 0) 1 Tryz.underlying26 hi hz0 hz1 .i64 .i64 N N n hl hc hN hN (by rw [hz2];omega) (by unfold maxLen;omega) hbase ?_;intro w' h1 h2;refine h w.heap.size w' hbase ?_ ((Below.refl _ _).grown h2 (Nat.le_refl _) (fun k hk=>by cases hk));rw [List.length_replicate,List.map_replicate];have e:(madeCells (Value.int .i64 0).cells (n*1)).toList=List.replicate n (Value.int .i64 0):=by rw [Nat.mul_one];exact toList_madeCells_one _ _
 rw [e] at h1;exact h1
theorem Su {w:World} {B g n cap:Nat} {xs:List Int} (h:w.ownsRow B 3 1 (.slice (some ⟨g,0,none⟩) n cap) xs.length (xs.map (Value.int .i64))) {j:Nat} (hj:j<xs.length):
    (∃x,Hid (xs.getD j 0=x)/\w.cell? ⟨g,j,none⟩=some (.int .i64 x))/\w.frozen? ⟨g,j,none⟩=false/\
    ∀y:Int,(w.setCell ⟨g,j,none⟩ (.int .i64 y)).ownsRow B 3 1 (.slice (some ⟨g,0,none⟩) n cap) (xs.set j y).length ((xs.set j y).map (Value.int .i64)):=by
 have hn:n=xs.length:=by
  obtain ⟨_,⟨hv,_⟩ | ⟨_,_,_,hv,_⟩⟩:=h
  . cases hv
  . cases hv;rfl
 subst hn;refine ⟨⟨_,Lib.hid rfl,?_⟩,h.frozenAt j,fun y=> ?_⟩
 . rw [h.cellAt j (by omega),List.getElem?_map,List.getElem?_eq_getElem hj];simp [List.getD_eq_getElem?_getD,hj]
 . have:=h.stored j (.int .i64 y);rw [List.length_set,List.map_set];exact this.1
def ints (l:List Nat):List Int:=List.map (fun n:Nat=>(n:Int)) l
theorem jD (l:List Nat):(ints l).length=l.length:=by simp [ints]
theorem JM (a b:List Nat):ints (a++b)=ints a++ints b:=by simp [ints]
theorem vY (l:List Nat) (k:Nat):(ints l).getD k 0=((l.getD k 0:Nat):Int):=by
 simp [ints,List.getD_eq_getElem?_getD];cases l[k]? <;>simp
theorem aG {w:World} {B:Nat} {e:TypeId} {s:Nat} {v:Value} {n:Nat} {xs:List Value} (h:w.ownsRow B e s v n xs):
    ∃ao c,v= .slice ao n c/\(ao=none->n=0/\c=0)/\∀ad,ao=some ad->∀j u,xs[j]? =some u->w.cell? (ad.add j)=some u:=by
 have h0:=h;obtain ⟨h1,⟨rfl,h2⟩ | ⟨g,cap,cur,rfl,hg,hh,hn',hm,hs,ht⟩⟩:=h
 . exact ⟨none,0,by rw [h2],fun _=>⟨h2,rfl⟩,fun ad had=>by cases had⟩
 . exact ⟨some ⟨g,0,none⟩,cap,rfl,fun hx=>(by cases hx),fun ad had=>(by cases had;exact World.ownsRow.cells h0 rfl)⟩
theorem bc1 {W W':World} {p:Addr} {v:Value} (hb:Below W.heap.size W W') (h:W.cell? p=some v):W'.cell? p=some v:=(hb.cell (World.block_lt_of_cell? _ _ h)).trans h
theorem zt {W W':World} {p:Addr} (hb:Below W.heap.size W W') (hz:p.block<W.heap.size) (h:W.frozen? p=false):W'.frozen? p=false:=(hb.frozen hz).trans h
theorem bc2 {W W':World} {b:Nat} {v0 v1:Value} (hb:Below W.heap.size W W') (h:W.cell? ⟨b,0,none⟩=some v0/\W.cell? ⟨b,1,none⟩=some v1):W'.cell? ⟨b,0,none⟩=some v0/\W'.cell? ⟨b,1,none⟩=some v1:=by
 obtain ⟨h0,h1⟩:=h;exact ⟨bc1 hb h0,bc1 hb h1⟩
theorem bf2 {W W':World} {b:Nat} (hb:Below W.heap.size W W') (hz:b<W.heap.size) (h:W.frozen? ⟨b,0,none⟩=false/\W.frozen? ⟨b,1,none⟩=false):W'.frozen? ⟨b,0,none⟩=false/\W'.frozen? ⟨b,1,none⟩=false:=by
 obtain ⟨h0,h1⟩:=h;exact ⟨zt hb hz h0,zt hb hz h1⟩
theorem bc3 {W W':World} {b:Nat} {v0 v1 v2:Value} (hb:Below W.heap.size W W') (h:W.cell? ⟨b,0,none⟩=some v0/\W.cell? ⟨b,1,none⟩=some v1/\W.cell? ⟨b,2,none⟩=some v2):W'.cell? ⟨b,0,none⟩=some v0/\W'.cell? ⟨b,1,none⟩=some v1/\W'.cell? ⟨b,2,none⟩=some v2:=by
 obtain ⟨h0,h1,h2⟩:=h;exact ⟨bc1 hb h0,bc1 hb h1,bc1 hb h2⟩
theorem FW {W W':World} {b:Nat} (hb:Below W.heap.size W W') (hz:b<W.heap.size) (h:W.frozen? ⟨b,0,none⟩=false/\W.frozen? ⟨b,1,none⟩=false/\W.frozen? ⟨b,2,none⟩=false):W'.frozen? ⟨b,0,none⟩=false/\W'.frozen? ⟨b,1,none⟩=false/\W'.frozen? ⟨b,2,none⟩=false:=by
 obtain ⟨h0,h1,h2⟩:=h;exact ⟨zt hb hz h0,zt hb hz h1,zt hb hz h2⟩
theorem jl {W W':World} {b:Nat} {v0 v1 v2 v3 v4 v5:Value} (hb:Below W.heap.size W W') (h:W.cell? ⟨b,0,none⟩=some v0/\W.cell? ⟨b,1,none⟩=some v1/\W.cell? ⟨b,2,none⟩=some v2/\W.cell? ⟨b,3,none⟩=some v3/\W.cell? ⟨b,4,none⟩=some v4/\W.cell? ⟨b,5,none⟩=some v5):W'.cell? ⟨b,0,none⟩=some v0/\W'.cell? ⟨b,1,none⟩=some v1/\W'.cell? ⟨b,2,none⟩=some v2/\W'.cell? ⟨b,3,none⟩=some v3/\W'.cell? ⟨b,4,none⟩=some v4/\W'.cell? ⟨b,5,none⟩=some v5:=by
 obtain ⟨h0,h1,h2,h3,h4,h5⟩:=h;exact ⟨bc1 hb h0,bc1 hb h1,bc1 hb h2,bc1 hb h3,bc1 hb h4,bc1 hb h5⟩
theorem Qs {W W':World} {b:Nat} (hb:Below W.heap.size W W') (hz:b<W.heap.size) (h:W.frozen? ⟨b,0,none⟩=false/\W.frozen? ⟨b,1,none⟩=false/\W.frozen? ⟨b,2,none⟩=false/\W.frozen? ⟨b,3,none⟩=false/\W.frozen? ⟨b,4,none⟩=false/\W.frozen? ⟨b,5,none⟩=false):W'.frozen? ⟨b,0,none⟩=false/\W'.frozen? ⟨b,1,none⟩=false/\W'.frozen? ⟨b,2,none⟩=false/\W'.frozen? ⟨b,3,none⟩=false/\W'.frozen? ⟨b,4,none⟩=false/\W'.frozen? ⟨b,5,none⟩=false:=by
 obtain ⟨h0,h1,h2,h3,h4,h5⟩:=h;exact ⟨zt hb hz h0,zt hb hz h1,zt hb hz h2,zt hb hz h3,zt hb hz h4,zt hb hz h5⟩
theorem zu {W W':World} {b:Nat} {v0 v1 v2 v3 v4 v5 v6 v7 v8:Value} (hb:Below W.heap.size W W') (h:W.cell? ⟨b,0,none⟩=some v0/\W.cell? ⟨b,1,none⟩=some v1/\W.cell? ⟨b,2,none⟩=some v2/\W.cell? ⟨b,3,none⟩=some v3/\W.cell? ⟨b,4,none⟩=some v4/\W.cell? ⟨b,5,none⟩=some v5/\W.cell? ⟨b,6,none⟩=some v6/\W.cell? ⟨b,7,none⟩=some v7/\W.cell? ⟨b,8,none⟩=some v8):W'.cell? ⟨b,0,none⟩=some v0/\W'.cell? ⟨b,1,none⟩=some v1/\W'.cell? ⟨b,2,none⟩=some v2/\W'.cell? ⟨b,3,none⟩=some v3/\W'.cell? ⟨b,4,none⟩=some v4/\W'.cell? ⟨b,5,none⟩=some v5/\W'.cell? ⟨b,6,none⟩=some v6/\W'.cell? ⟨b,7,none⟩=some v7/\W'.cell? ⟨b,8,none⟩=some v8:=by
 obtain ⟨h0,h1,h2,h3,h4,h5,h6,h7,h8⟩:=h;exact ⟨bc1 hb h0,bc1 hb h1,bc1 hb h2,bc1 hb h3,bc1 hb h4,bc1 hb h5,bc1 hb h6,bc1 hb h7,bc1 hb h8⟩
theorem aP {W W':World} {b:Nat} (hb:Below W.heap.size W W') (h:b<W.heap.size):b<W'.heap.size:=Nat.lt_of_lt_of_le h hb.size
theorem bV {w:World} {b:Nat} {o:Obj} (hk:b=w.heap.size):b<(w.alloc o).heap.size:=by subst hk;simp
theorem dB {w:World} {b:Nat} {o:Obj} (h:b<w.heap.size):b<(w.alloc o).heap.size:=by simp;omega
theorem kT {X W:World} {b:Nat} (e:X=W) (h:b<X.heap.size):b<W.heap.size:=e ▸ h
theorem Xl {w:World} {b:Nat} {t:TypeId} {v0:Value} (hk:b=w.heap.size):(w.alloc (.cells #[v0] t)).cell? ⟨b,0,none⟩=some v0:=by
 subst hk;rw [World.cell?_alloc_at _ _ _ _ rfl];rfl
theorem Xk {w:World} {b:Nat} {t:TypeId} {cs:Array Value} (hk:b=w.heap.size):(w.alloc (.cells cs t)).frozen? ⟨b,0,none⟩=false:=by
 subst hk;exact XQ.2.2.2.1 _ _ _ _ _ rfl
theorem au1 {w:World} {o:Obj} {p:Addr} {v:Value} (h:w.cell? p=some v):(w.alloc o).cell? p=some v:=bc1 ((Below.refl _ _).alloc (Nat.le_refl _) _) h
theorem aeo {w:World} {o:Obj} {p:Addr} (hz:p.block<w.heap.size) (h:w.frozen? p=false):(w.alloc o).frozen? p=false:=zt ((Below.refl _ _).alloc (Nat.le_refl _) _) hz h
theorem ec1 {X W:World} {p:Addr} {v:Value} (e:X=W) (h:X.cell? p=some v):W.cell? p=some v:=e ▸ h
theorem ef1 {X W:World} {p:Addr} (e:X=W) (h:X.frozen? p=false):W.frozen? p=false:=e ▸ h
theorem TF {w:World} {b:Nat} {t:TypeId} {v0 v1:Value} (hk:b=w.heap.size):(w.alloc (.cells #[v0,v1] t)).cell? ⟨b,0,none⟩=some v0/\(w.alloc (.cells #[v0,v1] t)).cell? ⟨b,1,none⟩=some v1:=by
 subst hk;exact ⟨by rw [World.cell?_alloc_at _ _ _ _ rfl];rfl,by rw [World.cell?_alloc_at _ _ _ _ rfl];rfl⟩
theorem ZV {w:World} {b:Nat} {t:TypeId} {cs:Array Value} (hk:b=w.heap.size):(w.alloc (.cells cs t)).frozen? ⟨b,0,none⟩=false/\(w.alloc (.cells cs t)).frozen? ⟨b,1,none⟩=false:=by
 subst hk;refine ⟨?_,?_⟩<;>exact XQ.2.2.2.1 _ _ _ _ _ rfl
theorem OB {w:World} {o:Obj} {b:Nat} {v0 v1:Value} (h:w.cell? ⟨b,0,none⟩=some v0/\w.cell? ⟨b,1,none⟩=some v1):(w.alloc o).cell? ⟨b,0,none⟩=some v0/\(w.alloc o).cell? ⟨b,1,none⟩=some v1:=bc2 ((Below.refl _ _).alloc (Nat.le_refl _) _) h
theorem akt {w:World} {o:Obj} {b:Nat} (hz:b<w.heap.size) (h:w.frozen? ⟨b,0,none⟩=false/\w.frozen? ⟨b,1,none⟩=false):(w.alloc o).frozen? ⟨b,0,none⟩=false/\(w.alloc o).frozen? ⟨b,1,none⟩=false:=bf2 ((Below.refl _ _).alloc (Nat.le_refl _) _) hz h
theorem Zw {X W:World} {b:Nat} {v0 v1:Value} (e:X=W) (h:X.cell? ⟨b,0,none⟩=some v0/\X.cell? ⟨b,1,none⟩=some v1):W.cell? ⟨b,0,none⟩=some v0/\W.cell? ⟨b,1,none⟩=some v1:=e ▸ h
theorem ef2 {X W:World} {b:Nat} (e:X=W) (h:X.frozen? ⟨b,0,none⟩=false/\X.frozen? ⟨b,1,none⟩=false):W.frozen? ⟨b,0,none⟩=false/\W.frozen? ⟨b,1,none⟩=false:=e ▸ h
theorem uu {w:World} {b:Nat} {t:TypeId} {v0 v1 v2:Value} (hk:b=w.heap.size):(w.alloc (.cells #[v0,v1,v2] t)).cell? ⟨b,0,none⟩=some v0/\(w.alloc (.cells #[v0,v1,v2] t)).cell? ⟨b,1,none⟩=some v1/\(w.alloc (.cells #[v0,v1,v2] t)).cell? ⟨b,2,none⟩=some v2:=by
 subst hk;exact ⟨by rw [World.cell?_alloc_at _ _ _ _ rfl];rfl,by rw [World.cell?_alloc_at _ _ _ _ rfl];rfl,by rw [World.cell?_alloc_at _ _ _ _ rfl];rfl⟩
theorem xx {w:World} {b:Nat} {t:TypeId} {cs:Array Value} (hk:b=w.heap.size):(w.alloc (.cells cs t)).frozen? ⟨b,0,none⟩=false/\(w.alloc (.cells cs t)).frozen? ⟨b,1,none⟩=false/\(w.alloc (.cells cs t)).frozen? ⟨b,2,none⟩=false:=by
 subst hk;refine ⟨?_,?_,?_⟩<;>exact XQ.2.2.2.1 _ _ _ _ _ rfl
theorem rU {w:World} {o:Obj} {b:Nat} {v0 v1 v2:Value} (h:w.cell? ⟨b,0,none⟩=some v0/\w.cell? ⟨b,1,none⟩=some v1/\w.cell? ⟨b,2,none⟩=some v2):(w.alloc o).cell? ⟨b,0,none⟩=some v0/\(w.alloc o).cell? ⟨b,1,none⟩=some v1/\(w.alloc o).cell? ⟨b,2,none⟩=some v2:=bc3 ((Below.refl _ _).alloc (Nat.le_refl _) _) h
theorem ZT {w:World} {o:Obj} {b:Nat} (hz:b<w.heap.size) (h:w.frozen? ⟨b,0,none⟩=false/\w.frozen? ⟨b,1,none⟩=false/\w.frozen? ⟨b,2,none⟩=false):(w.alloc o).frozen? ⟨b,0,none⟩=false/\(w.alloc o).frozen? ⟨b,1,none⟩=false/\(w.alloc o).frozen? ⟨b,2,none⟩=false:=FW ((Below.refl _ _).alloc (Nat.le_refl _) _) hz h
theorem jA {w:World} {b:Nat} {t:TypeId} {v0 v1 v2 v3 v4 v5:Value} (hk:b=w.heap.size):(w.alloc (.cells #[v0,v1,v2,v3,v4,v5] t)).cell? ⟨b,0,none⟩=some v0/\(w.alloc (.cells #[v0,v1,v2,v3,v4,v5] t)).cell? ⟨b,1,none⟩=some v1/\(w.alloc (.cells #[v0,v1,v2,v3,v4,v5] t)).cell? ⟨b,2,none⟩=some v2/\(w.alloc (.cells #[v0,v1,v2,v3,v4,v5] t)).cell? ⟨b,3,none⟩=some v3/\(w.alloc (.cells #[v0,v1,v2,v3,v4,v5] t)).cell? ⟨b,4,none⟩=some v4/\(w.alloc (.cells #[v0,v1,v2,v3,v4,v5] t)).cell? ⟨b,5,none⟩=some v5:=by
 subst hk;exact ⟨by rw [World.cell?_alloc_at _ _ _ _ rfl];rfl,by rw [World.cell?_alloc_at _ _ _ _ rfl];rfl,by rw [World.cell?_alloc_at _ _ _ _ rfl];rfl,by rw [World.cell?_alloc_at _ _ _ _ rfl];rfl,by rw [World.cell?_alloc_at _ _ _ _ rfl];rfl,by rw [World.cell?_alloc_at _ _ _ _ rfl];rfl⟩
theorem zB {w:World} {b:Nat} {t:TypeId} {cs:Array Value} (hk:b=w.heap.size):(w.alloc (.cells cs t)).frozen? ⟨b,0,none⟩=false/\(w.alloc (.cells cs t)).frozen? ⟨b,1,none⟩=false/\(w.alloc (.cells cs t)).frozen? ⟨b,2,none⟩=false/\(w.alloc (.cells cs t)).frozen? ⟨b,3,none⟩=false/\(w.alloc (.cells cs t)).frozen? ⟨b,4,none⟩=false/\(w.alloc (.cells cs t)).frozen? ⟨b,5,none⟩=false:=by
 subst hk;refine ⟨?_,?_,?_,?_,?_,?_⟩<;>exact XQ.2.2.2.1 _ _ _ _ _ rfl
theorem jI {w:World} {o:Obj} {b:Nat} {v0 v1 v2 v3 v4 v5:Value} (h:w.cell? ⟨b,0,none⟩=some v0/\w.cell? ⟨b,1,none⟩=some v1/\w.cell? ⟨b,2,none⟩=some v2/\w.cell? ⟨b,3,none⟩=some v3/\w.cell? ⟨b,4,none⟩=some v4/\w.cell? ⟨b,5,none⟩=some v5):(w.alloc o).cell? ⟨b,0,none⟩=some v0/\(w.alloc o).cell? ⟨b,1,none⟩=some v1/\(w.alloc o).cell? ⟨b,2,none⟩=some v2/\(w.alloc o).cell? ⟨b,3,none⟩=some v3/\(w.alloc o).cell? ⟨b,4,none⟩=some v4/\(w.alloc o).cell? ⟨b,5,none⟩=some v5:=jl ((Below.refl _ _).alloc (Nat.le_refl _) _) h
theorem La {w:World} {o:Obj} {b:Nat} (hz:b<w.heap.size) (h:w.frozen? ⟨b,0,none⟩=false/\w.frozen? ⟨b,1,none⟩=false/\w.frozen? ⟨b,2,none⟩=false/\w.frozen? ⟨b,3,none⟩=false/\w.frozen? ⟨b,4,none⟩=false/\w.frozen? ⟨b,5,none⟩=false):(w.alloc o).frozen? ⟨b,0,none⟩=false/\(w.alloc o).frozen? ⟨b,1,none⟩=false/\(w.alloc o).frozen? ⟨b,2,none⟩=false/\(w.alloc o).frozen? ⟨b,3,none⟩=false/\(w.alloc o).frozen? ⟨b,4,none⟩=false/\(w.alloc o).frozen? ⟨b,5,none⟩=false:=Qs ((Below.refl _ _).alloc (Nat.le_refl _) _) hz h
theorem Dy {X W:World} {b:Nat} {v0 v1 v2 v3 v4 v5:Value} (e:X=W) (h:X.cell? ⟨b,0,none⟩=some v0/\X.cell? ⟨b,1,none⟩=some v1/\X.cell? ⟨b,2,none⟩=some v2/\X.cell? ⟨b,3,none⟩=some v3/\X.cell? ⟨b,4,none⟩=some v4/\X.cell? ⟨b,5,none⟩=some v5):W.cell? ⟨b,0,none⟩=some v0/\W.cell? ⟨b,1,none⟩=some v1/\W.cell? ⟨b,2,none⟩=some v2/\W.cell? ⟨b,3,none⟩=some v3/\W.cell? ⟨b,4,none⟩=some v4/\W.cell? ⟨b,5,none⟩=some v5:=e ▸ h
theorem ef6 {X W:World} {b:Nat} (e:X=W) (h:X.frozen? ⟨b,0,none⟩=false/\X.frozen? ⟨b,1,none⟩=false/\X.frozen? ⟨b,2,none⟩=false/\X.frozen? ⟨b,3,none⟩=false/\X.frozen? ⟨b,4,none⟩=false/\X.frozen? ⟨b,5,none⟩=false):W.frozen? ⟨b,0,none⟩=false/\W.frozen? ⟨b,1,none⟩=false/\W.frozen? ⟨b,2,none⟩=false/\W.frozen? ⟨b,3,none⟩=false/\W.frozen? ⟨b,4,none⟩=false/\W.frozen? ⟨b,5,none⟩=false:=e ▸ h
theorem zC {w:World} {b:Nat} {t:TypeId} {v0 v1 v2 v3 v4 v5 v6 v7 v8:Value} (hk:b=w.heap.size):(w.alloc (.cells #[v0,v1,v2,v3,v4,v5,v6,v7,v8] t)).cell? ⟨b,0,none⟩=some v0/\(w.alloc (.cells #[v0,v1,v2,v3,v4,v5,v6,v7,v8] t)).cell? ⟨b,1,none⟩=some v1/\(w.alloc (.cells #[v0,v1,v2,v3,v4,v5,v6,v7,v8] t)).cell? ⟨b,2,none⟩=some v2/\(w.alloc (.cells #[v0,v1,v2,v3,v4,v5,v6,v7,v8] t)).cell? ⟨b,3,none⟩=some v3/\(w.alloc (.cells #[v0,v1,v2,v3,v4,v5,v6,v7,v8] t)).cell? ⟨b,4,none⟩=some v4/\(w.alloc (.cells #[v0,v1,v2,v3,v4,v5,v6,v7,v8] t)).cell? ⟨b,5,none⟩=some v5/\(w.alloc (.cells #[v0,v1,v2,v3,v4,v5,v6,v7,v8] t)).cell? ⟨b,6,none⟩=some v6/\(w.alloc (.cells #[v0,v1,v2,v3,v4,v5,v6,v7,v8] t)).cell? ⟨b,7,none⟩=some v7/\(w.alloc (.cells #[v0,v1,v2,v3,v4,v5,v6,v7,v8] t)).cell? ⟨b,8,none⟩=some v8:=by
 subst hk;exact ⟨by rw [World.cell?_alloc_at _ _ _ _ rfl];rfl,by rw [World.cell?_alloc_at _ _ _ _ rfl];rfl,by rw [World.cell?_alloc_at _ _ _ _ rfl];rfl,by rw [World.cell?_alloc_at _ _ _ _ rfl];rfl,by rw [World.cell?_alloc_at _ _ _ _ rfl];rfl,by rw [World.cell?_alloc_at _ _ _ _ rfl];rfl,by rw [World.cell?_alloc_at _ _ _ _ rfl];rfl,by rw [World.cell?_alloc_at _ _ _ _ rfl];rfl,by rw [World.cell?_alloc_at _ _ _ _ rfl];rfl⟩
theorem uj {w:World} {o:Obj} {b:Nat} {v0 v1 v2 v3 v4 v5 v6 v7 v8:Value} (h:w.cell? ⟨b,0,none⟩=some v0/\w.cell? ⟨b,1,none⟩=some v1/\w.cell? ⟨b,2,none⟩=some v2/\w.cell? ⟨b,3,none⟩=some v3/\w.cell? ⟨b,4,none⟩=some v4/\w.cell? ⟨b,5,none⟩=some v5/\w.cell? ⟨b,6,none⟩=some v6/\w.cell? ⟨b,7,none⟩=some v7/\w.cell? ⟨b,8,none⟩=some v8):(w.alloc o).cell? ⟨b,0,none⟩=some v0/\(w.alloc o).cell? ⟨b,1,none⟩=some v1/\(w.alloc o).cell? ⟨b,2,none⟩=some v2/\(w.alloc o).cell? ⟨b,3,none⟩=some v3/\(w.alloc o).cell? ⟨b,4,none⟩=some v4/\(w.alloc o).cell? ⟨b,5,none⟩=some v5/\(w.alloc o).cell? ⟨b,6,none⟩=some v6/\(w.alloc o).cell? ⟨b,7,none⟩=some v7/\(w.alloc o).cell? ⟨b,8,none⟩=some v8:=zu ((Below.refl _ _).alloc (Nat.le_refl _) _) h
theorem WG {X W:World} {b:Nat} {v0 v1 v2 v3 v4 v5 v6 v7 v8:Value} (e:X=W) (h:X.cell? ⟨b,0,none⟩=some v0/\X.cell? ⟨b,1,none⟩=some v1/\X.cell? ⟨b,2,none⟩=some v2/\X.cell? ⟨b,3,none⟩=some v3/\X.cell? ⟨b,4,none⟩=some v4/\X.cell? ⟨b,5,none⟩=some v5/\X.cell? ⟨b,6,none⟩=some v6/\X.cell? ⟨b,7,none⟩=some v7/\X.cell? ⟨b,8,none⟩=some v8):W.cell? ⟨b,0,none⟩=some v0/\W.cell? ⟨b,1,none⟩=some v1/\W.cell? ⟨b,2,none⟩=some v2/\W.cell? ⟨b,3,none⟩=some v3/\W.cell? ⟨b,4,none⟩=some v4/\W.cell? ⟨b,5,none⟩=some v5/\W.cell? ⟨b,6,none⟩=some v6/\W.cell? ⟨b,7,none⟩=some v7/\W.cell? ⟨b,8,none⟩=some v8:=e ▸ h
@[reducible] def CB15 (W:World) (b:Nat) (v0 v1 v2 v3 v4 v5 v6 v7 v8 v9 v10 v11 v12 v13 v14:Value):Prop:=W.cell? ⟨b,0,none⟩=some v0/\W.cell? ⟨b,1,none⟩=some v1/\W.cell? ⟨b,2,none⟩=some v2/\W.cell? ⟨b,3,none⟩=some v3/\W.cell? ⟨b,4,none⟩=some v4/\W.cell? ⟨b,5,none⟩=some v5/\W.cell? ⟨b,6,none⟩=some v6/\W.cell? ⟨b,7,none⟩=some v7/\W.cell? ⟨b,8,none⟩=some v8/\W.cell? ⟨b,9,none⟩=some v9/\W.cell? ⟨b,10,none⟩=some v10/\W.cell? ⟨b,11,none⟩=some v11/\W.cell? ⟨b,12,none⟩=some v12/\W.cell? ⟨b,13,none⟩=some v13/\W.cell? ⟨b,14,none⟩=some v14
@[reducible] def FB15 (W:World) (b:Nat):Prop:=W.frozen? ⟨b,0,none⟩=false/\W.frozen? ⟨b,1,none⟩=false/\W.frozen? ⟨b,2,none⟩=false/\W.frozen? ⟨b,3,none⟩=false/\W.frozen? ⟨b,4,none⟩=false/\W.frozen? ⟨b,5,none⟩=false/\W.frozen? ⟨b,6,none⟩=false/\W.frozen? ⟨b,7,none⟩=false/\W.frozen? ⟨b,8,none⟩=false/\W.frozen? ⟨b,9,none⟩=false/\W.frozen? ⟨b,10,none⟩=false/\W.frozen? ⟨b,11,none⟩=false/\W.frozen? ⟨b,12,none⟩=false/\W.frozen? ⟨b,13,none⟩=false/\W.frozen? ⟨b,14,none⟩=false
theorem Ez {W W':World} {b:Nat} {v0 v1 v2 v3 v4 v5 v6 v7 v8 v9 v10 v11 v12 v13 v14:Value} (hb:Below W.heap.size W W') (h:CB15 W b v0 v1 v2 v3 v4 v5 v6 v7 v8 v9 v10 v11 v12 v13 v14):CB15 W' b v0 v1 v2 v3 v4 v5 v6 v7 v8 v9 v10 v11 v12 v13 v14:=by
 obtain ⟨h0,h1,h2,h3,h4,h5,h6,h7,h8,h9,h10,h11,h12,h13,EZ⟩:=h;exact ⟨bc1 hb h0,bc1 hb h1,bc1 hb h2,bc1 hb h3,bc1 hb h4,bc1 hb h5,bc1 hb h6,bc1 hb h7,bc1 hb h8,bc1 hb h9,bc1 hb h10,bc1 hb h11,bc1 hb h12,bc1 hb h13,bc1 hb EZ⟩
theorem Xe {W W':World} {b:Nat} (hb:Below W.heap.size W W') (hz:b<W.heap.size) (h:FB15 W b):FB15 W' b:=by
 obtain ⟨h0,h1,h2,h3,h4,h5,h6,h7,h8,h9,h10,h11,h12,h13,EZ⟩:=h;exact ⟨zt hb hz h0,zt hb hz h1,zt hb hz h2,zt hb hz h3,zt hb hz h4,zt hb hz h5,zt hb hz h6,zt hb hz h7,zt hb hz h8,zt hb hz h9,zt hb hz h10,zt hb hz h11,zt hb hz h12,zt hb hz h13,zt hb hz EZ⟩
theorem qN {w:World} {b:Nat} {t:TypeId} {v0 v1 v2 v3 v4 v5 v6 v7 v8 v9 v10 v11 v12 v13 v14:Value} (hk:b=w.heap.size):CB15 (w.alloc (.cells #[v0,v1,v2,v3,v4,v5,v6,v7,v8,v9,v10,v11,v12,v13,v14] t)) b v0 v1 v2 v3 v4 v5 v6 v7 v8 v9 v10 v11 v12 v13 v14:=by
 subst hk;refine ⟨?_,?_,?_,?_,?_,?_,?_,?_,?_,?_,?_,?_,?_,?_,?_⟩<;>(rw [World.cell?_alloc_at _ _ _ _ rfl];rfl)
theorem sU {w:World} {b:Nat} {t:TypeId} {cs:Array Value} (hk:b=w.heap.size):FB15 (w.alloc (.cells cs t)) b:=by
 refine ⟨?_,?_,?_,?_,?_,?_,?_,?_,?_,?_,?_,?_,?_,?_,?_⟩<;>exact XQ.2.2.2.1 _ _ _ _ _ hk
theorem zA {w:World} {o:Obj} {b:Nat} {v0 v1 v2 v3 v4 v5 v6 v7 v8 v9 v10 v11 v12 v13 v14:Value} (h:CB15 w b v0 v1 v2 v3 v4 v5 v6 v7 v8 v9 v10 v11 v12 v13 v14):CB15 (w.alloc o) b v0 v1 v2 v3 v4 v5 v6 v7 v8 v9 v10 v11 v12 v13 v14:=Ez ((Below.refl _ _).alloc (Nat.le_refl _) _) h
theorem FX {w:World} {o:Obj} {b:Nat} (hz:b<w.heap.size) (h:FB15 w b):FB15 (w.alloc o) b:=Xe ((Below.refl _ _).alloc (Nat.le_refl _) _) hz h
theorem rP {X W:World} {b:Nat} {v0 v1 v2 v3 v4 v5 v6 v7 v8 v9 v10 v11 v12 v13 v14:Value} (e:X=W) (h:CB15 X b v0 v1 v2 v3 v4 v5 v6 v7 v8 v9 v10 v11 v12 v13 v14):CB15 W b v0 v1 v2 v3 v4 v5 v6 v7 v8 v9 v10 v11 v12 v13 v14:=e ▸ h
theorem yl {X W:World} {b:Nat} (e:X=W) (h:FB15 X b):FB15 W b:=e ▸ h
theorem jK {W W':World} (hb:Below W.heap.size W W') {b j:Nat} (h:b<W.heap.size):W.cell? ⟨b,j,none⟩=W'.cell? ⟨b,j,none⟩:=(hb.cell (p:=⟨b,j,none⟩) h).symm
theorem rX {W W':World} (hb:Below W.heap.size W W') {b j:Nat} (h:b<W.heap.size):W.frozen? ⟨b,j,none⟩=W'.frozen? ⟨b,j,none⟩:=(hb.frozen (p:=⟨b,j,none⟩) h).symm
theorem dC {P:Prop} (h:P:=by (first|(with_reducible assumption)|((simp only [World.frozen?_setCell,World.frozen?_drew,World.frozen?_drewN])<;>(with_reducible assumption))|((repeat (first|(with_reducible assumption)|(with_reducible refine World.cell?_setCell_same _ _ _ (by with_reducible assumption))|(rw [World.cell?_setCell_other _ _ _ _ (by intro e;simp at e;done)])|(with_reducible refine cell_setCell_block ?_ ?_)|(rw [World.cell?_drew])|(rw [World.cell?_drewN])|(dsimp only;omega)));done)|(first|(with_reducible assumption)|((try simp (disch:=first|omega|(simp only [szW]<;>omega)|fail) only [XQ])<;>first|(with_reducible assumption)|rfl)))):P:=h
theorem aH {P:Prop} (h:P:=by (repeat (first|with_reducible (first|exact Below.refl _ _|assumption|exact Hid.out (by assumption)|refine Below.alloc ?_ ?_ _|refine Below.setCell ?_ ?_ _|refine below_drewN ?_ _|refine Below.drew ?_|refine aj (by assumption) ?_ ?_)|(first|(with_reducible assumption)|omega|(simp only [szW]<;>omega)|(simp<;>omega))))):P:=h
theorem gW {P:Prop} (h:P:=by (first|(with_reducible assumption)|omega|(simp only [szW]<;>omega)|(simp<;>omega))):P:=h
theorem dL {P:Prop} (h:P:=by (first|(with_reducible assumption)|((try simp (disch:=first|omega|(simp only [szW]<;>omega)|fail) only [XQ])<;>first|(with_reducible assumption)|rfl))):P:=h
theorem iP {P:Prop} (h:P:=by ((try simp (disch:=first|omega|(simp only [szW]<;>omega)|fail) only [XQ])<;>rfl)):P:=h
end
section
open Go.RowKit
section
variable {P:Program} {ops:Array Oper} {Q:Exit->Act->World->Prop}
def leftOf (L:Array Bool):Nat->Nat
  | 0=>0
  | n+1=>leftOf L n+if L.getD n false=true then 0 else 1
theorem qm {L:Array Bool} {i:Nat} (h:i<L.size):(L.setIfInBounds i true).getD i false=true:=by simp [h]
theorem dF {L:Array Bool} {i j:Nat} (h:j≠i):(L.setIfInBounds i true).getD j false=L.getD j false:=by
 have h':¬i=j:=fun e=>h e.symm
 by_cases hj:j<L.size
 . simp [hj,Array.getElem_setIfInBounds,h']
 . simp [hj]
theorem NH {L:Array Bool} {i:Nat}:∀n,n<=i->leftOf (L.setIfInBounds i true) n=leftOf L n:=by
 intro n;induction n with
 | zero=>intro _;rfl
 | succ n ih=>intro h;rw [leftOf,leftOf,ih (by omega),dF (by omega)]
theorem xh {L:Array Bool} {i:Nat} (hi:i<L.size) (h:L.getD i false=false):∀n,i<n->leftOf (L.setIfInBounds i true) n+1=leftOf L n:=by
 intro n;induction n with
 | zero=>intro h;omega
 | succ n ih=>
  intro hn;rw [leftOf,leftOf];by_cases e:n=i
  . subst e;rw [NH n (Nat.le_refl _),qm hi,if_pos rfl,if_neg (by rw [h];decide)]
  . rw [dF e];have:=ih (by omega);omega
theorem uM {L:Array Bool}:∀n,leftOf L n=0->∀i,i<n->L.getD i false=true:=by
 intro n;induction n with
 | zero=>intro _ i hi;omega
 | succ n ih=>
  intro h i hi;rw [leftOf] at h;split at h
  . rename_i hn
    by_cases e:i=n
    . subst e;exact hn
    . exact ih (by omega) i (by omega)
  . omega
theorem su (L:Array Bool):∀n,leftOf L n<=n:=by
 intro n;induction n with
 | zero=>exact Nat.le_refl _
 | succ n ih=>rw [leftOf];split<;>omega
theorem QN (I:Array Bool->Act->World->Prop)
    (hac:∀(i:Nat) (o:Oper),ops[i]? =some o->∀e ∈ o.after,e.on<i)
    (step:∀(L:Array Bool) (a:Act) (w:World) (i:Nat) (o:Oper),L.size=ops.size->ops[i]? =some o->L.getD i false=false->
      (∀e ∈ o.after,Region.binds .any e=true->L.getD e.on false=true)->I L a w->wpOp P ops Q i (I (L.setIfInBounds i true)) a w)
    (done:∀(L:Array Bool) (a:Act) (w:World),L.size=ops.size->(∀i,i<ops.size->L.getD i false=true)->I L a w->Q .normal a w):
    ∀(f:Nat) (L:Array Bool) (a:Act) (w:World),L.size=ops.size->leftOf L ops.size<=f->I L a w->wpAny P .any ops Q f L a w:=by
 have qx:∀(L:Array Bool),L.size=ops.size->Region.ready .any ops L=[]->∀i,i<ops.size->L.getD i false=true:=by
  intro L hs hr i;induction i using Nat.strongRecOn with
  | ind i ih=>
   intro hi;cases hc:L.getD i false with
   | true=>rfl
   | false=>
    have hm:i ∈ Region.ready .any ops L:=by
     refine mem_ready.2 ⟨?_,ops[i],Array.getElem?_eq_some_iff.2 ⟨hi,rfl⟩,fun e he _=> ?_⟩
     . have h1:i<L.size:=by omega
       simp [h1] at hc ⊢;exact hc
     . have:=hac i ops[i] (Array.getElem?_eq_some_iff.2 ⟨hi,rfl⟩) e he;exact ih e.on this (by omega)
    rw [hr] at hm;cases hm
 intro f;induction f with
 | zero=>
  intro L a w hs hl hI;have hall:=uM (L:=L) ops.size (by omega);refine ⟨?_,done L a w hs hall hI⟩;rw [List.eq_nil_iff_forall_not_mem];intro i hi;obtain ⟨h1,o,ho,_⟩:=mem_ready.1 hi;have hlt:=(Array.getElem?_eq_some_iff.1 ho).1;have h2:=hall i hlt;have h3:i<L.size:=by omega
  simp [h3] at h1 h2;rw [h1] at h2;cases h2
 | succ f ih=>
  intro L a w hs hl hI;refine ⟨fun hr=>done L a w hs (qx L hs hr) hI,fun i hi=> ?_⟩;obtain ⟨h1,o,ho,hall⟩:=mem_ready.1 hi;have hlt:=(Array.getElem?_eq_some_iff.1 ho).1;have h3:i<L.size:=by omega
  have h4:L.getD i false=false:=by simp [h3] at h1 ⊢;exact h1
  refine wpOp_mono (fun a' w' hI'=>ih _ a' w' (by simpa using hs) ?_ hI') (step L a w i o hs ho h4 hall hI);have:=xh h3 h4 ops.size hlt;omega
def wO (D:List Nat) (u:Nat->Value) (t0:Array Value) (t:Nat):Value:=if D.contains t then u t else t0.getD t undef
def kR (D:List Nat) (u:Nat->Value):Nat->List Value->List Value
  | _,[]=>[]
  | i,v::vs=>(if D.contains i then u i else v)::kR D u (i+1) vs
def aX (D:List Nat) (u:Nat->Value) (t0:Array Value):Array Value:=(kR D u 0 t0.toList).toArray
theorem zU (D:List Nat) (u:Nat->Value):∀(l:List Value) (i:Nat),(kR D u i l).length=l.length
  | [],_=>rfl
  | v::vs,i=>by simp [kR,zU D u vs]
theorem JH (D:List Nat) (u:Nat->Value):∀(l:List Value) (i t:Nat),t<l.length->(kR D u i l)[t]? =some (if D.contains (i+t) then u (i+t) else l.getD t undef)
  | [],_,_,h=>by simp at h
  | v::vs,i,0,_=>by simp [kR]
  | v::vs,i,t+1,h=>by
   have:=JH D u vs (i+1) t (by simpa using h);rw [kR,List.getElem?_cons_succ,this,Nat.add_assoc,Nat.add_comm 1 t];simp
theorem jR (D:List Nat) (u:Nat->Value) (t0:Array Value):(aX D u t0).size=t0.size:=by simp [aX,zU]
theorem iU {D:List Nat} {u:Nat->Value} {t0:Array Value} {t:Nat} (h:t<t0.size):(aX D u t0).getD t undef=wO D u t0 t:=by
 have:=JH D u t0.toList 0 t (by simpa using h);rw [Nat.zero_add] at this;simp only [aX,wO,Array.getD_eq_getD_getElem?,List.getElem?_toArray,this];simp [List.getD_eq_getElem?_getD]
theorem E_ {x y:Array Value} (hs:x.size=y.size) (h:∀t,t<x.size->x.getD t undef=y.getD t undef):x=y:=by
 apply Array.ext hs;intro i h1 h2;have:=h i h1;simpa [h1,h2] using this
theorem kS (D:List Nat) (t0:Array Value):aX D (fun t=>t0.getD t undef) t0=t0:=by
 refine E_ (jR _ _ _) fun t ht=> ?_
 rw [jR] at ht;rw [iU ht,wO];split<;>rfl
theorem ng {D:List Nat} {u:Nat->Value} {t0:Array Value} {d:Nat} {v:Value} (hd:D.contains d=true):
    (aX D u t0).setIfInBounds d v=aX D (fun t=>if t=d then v else u t) t0:=by
 refine E_ (by simp [jR]) fun t ht=> ?_
 rw [Array.size_setIfInBounds,jR] at ht;rw [iU ht];by_cases e:t=d
 . subst e;have h2:t<(aX D u t0).size:=by rw [jR];exact ht
   rw [wO,if_pos hd,if_pos rfl];simp [h2]
 . have h1:((aX D u t0).setIfInBounds d v).getD t undef=(aX D u t0).getD t undef:=by
     have h2:t<(aX D u t0).size:=by rw [jR];exact ht
     have e':¬d=t:=fun h=>e h.symm
     simp [h2,Array.getElem_setIfInBounds,e']
   rw [h1,iU ht,wO,wO];simp [e]
def valOf (u:Nat->Value) (o:Oper):Value:=match o.dst with|some d=>u d|none=>undef
def aev (P:Program) (ops:Array Oper) (Q:Exit->Act->World->Prop) (D:List Nat) (t0:Array Value) (n:Nat) (ds:List Deferred) (J:World->Prop) (Ext:World->World->Prop) (G:Nat->Value->World->Prop) (k:Nat) (o:Oper):Prop:=
  ∀ (u:Nat->Value) (a:Act) (w:World),(∀t,t<n->a.tmps.getD t undef=wO D u t0 t)->J w->
    (∀(j:Nat) (p:Oper),(o.after.any fun e=>Region.binds .any e&&e.on==j)=true->ops[j]? =some p->G j (valOf u p) w)->
    ∀K:Act->World->Prop,(∀v w',(o.dst=none->v=undef)->J w'->G k v w'->Ext w w'->K (a.put o.dst v) w')->Oper.wp P o a w K Q
def F5 (P:Program) (ops:Array Oper) (Q:Exit->Act->World->Prop) (D:List Nat) (t0:Array Value) (n:Nat) (ds:List Deferred) (J:World->Prop) (Ext:World->World->Prop) (G:Nat->Value->World->Prop):Nat->List Oper->Prop
  | _,[]=>True
  | k,o::rest=>aev P ops Q D t0 n ds J Ext G k o/\F5 P ops Q D t0 n ds J Ext G (k+1) rest
theorem F5.at {D:List Nat} {t0:Array Value} {n:Nat} {ds:List Deferred} {J:World->Prop} {Ext:World->World->Prop} {G:Nat->Value->World->Prop}:∀ {l:List Oper} {k:Nat},F5 P ops Q D t0 n ds J Ext G k l->∀ {i:Nat} {o:Oper},l[i]? =some o->aev P ops Q D t0 n ds J Ext G (k+i) o
  | [],_,_,i,o,ho=>by simp at ho
  | x::rest,k,h,0,o,ho=>by simp at ho;subst ho;exact h.1
  | x::rest,k,h,i+1,o,ho=>by
   have:=F5.at h.2 (i:=i) (o:=o) (by simpa using ho);rwa [Nat.add_assoc,Nat.add_comm 1 i] at this
def dstsOf (l:List Oper):List Nat:=l.filterMap (·.dst)
def Pq (l:List Oper) (n:Nat):Bool:=
  (dstsOf l).Nodup&&(dstsOf l).all (fun d=>decide (d<n))&&l.all (fun o=>o.guard.isNone) &&
  (List.range l.length).all fun i=>match l[i]? with|some o=>o.after.all fun e=>decide (e.on<i)|none=>true
theorem qy {l:List Oper} (h:(dstsOf l).Nodup) {i j:Nat} {o p:Oper} (hi:l[i]? =some o) (hj:l[j]? =some p) (hne:i≠j) {d:Nat} (ho:o.dst=some d):p.dst≠some d:=by
 induction l generalizing i j with
 | nil=>simp at hi
 | cons x rest ih=>
  have hmem:∀ {k:Nat} {q:Oper},rest[k]? =some q->q.dst=some d->d ∈ dstsOf rest:=fun hk hq=>List.mem_filterMap.2 ⟨_,List.mem_of_getElem? hk,hq⟩
  intro hp;cases i with
  | zero=>
   cases j with
   | zero=>exact hne rfl
   | succ j=>
    simp at hi hj;subst hi;simp only [dstsOf,List.filterMap_cons,ho,List.nodup_cons] at h;exact h.1 (hmem hj hp)
  | succ i=>
   cases j with
   | zero=>
    simp at hi hj;subst hj;simp only [dstsOf,List.filterMap_cons,hp,List.nodup_cons] at h;exact h.1 (hmem hi ho)
   | succ j=>
    simp at hi hj;refine ih ?_ (i:=i) (j:=j) hi hj (fun e=>hne (by rw [e])) hp;simp only [dstsOf,List.filterMap_cons] at h;split at h
    . exact h
    . exact (List.nodup_cons.1 h).2
def aav (l:List Oper) (n:Nat):Bool:=
  (List.range l.length).all fun i=>decide (i<n)||match l[i]? with|some o=>((List.range i).all fun j=>o.after.any fun e=>Region.binds .any e&&e.on==j)&&o.after.all (fun e=>decide (e.on<i))|none=>true
theorem pG {l:List Oper} {i:Nat} {o:Oper} {a:Act} {w:World} (ho:l[i]? =some o) (h:wpList P l.toArray Q (l.drop i) a w):wpOp P l.toArray Q i (wpList P l.toArray Q (l.drop (i+1))) a w:=by
 have hi:=(List.getElem?_eq_some_iff.1 ho).1;have hd:l.drop i=o::l.drop (i+1):=by
  rw [List.drop_eq_getElem_cons hi];congr 1
  exact (List.getElem?_eq_some_iff.1 ho).2
 rw [hd] at h;unfold wpOp;simp only [List.getElem?_toArray,ho];exact h
theorem uh {id:Nat} {l:List Oper} {t0:Array Value} {ds:List Deferred} {w0:World} {N:Nat} (n:Nat) (hm:P.follows .mixedOrders=true) (hn:t0.size=N) (hB:Pq (l.take n) N=true) (hT:aav l n=true) (hle:n<=l.length)
    (J:World->Prop) (Ext:World->World->Prop) (G:Nat->Value->World->Prop) (hst:∀k x w w',Ext w w'->G k x w->G k x w') (hJ:J w0.drew)
    (hop:F5 P l.toArray Q (dstsOf (l.take n)) t0 N ds J Ext G 0 (l.take n))
    (hdone:∀(u:Nat->Value) (w:World),J w->(∀(k:Nat) (o:Oper),(l.take n)[k]? =some o->G k (valOf u o) w)->wpList P l.toArray Q (l.drop n) {tmps:=aX (dstsOf (l.take n)) u t0,defers:=ds} w):
    (Code.region id l.toArray true).wp P Q {tmps:=t0,defers:=ds} w0:=by
 subst hn;simp only [Pq,Bool.and_eq_true,List.all_eq_true,decide_eq_true_eq] at hB;obtain ⟨⟨⟨hnd,hlt⟩,hgd⟩,hac⟩:=hB;simp only [aav,List.all_eq_true,List.mem_range,Bool.or_eq_true,decide_eq_true_eq] at hT;have htk:∀ {k:Nat} {o:Oper},(l.take n)[k]? =some o↔k<n/\l[k]? =some o:=by
  intro k o;rw [List.getElem?_take];by_cases h:k<n
  . rw [if_pos h];exact ⟨fun h1=>⟨h,h1⟩,fun h1=>h1.2⟩
  . rw [if_neg h];exact ⟨fun h1=>(by cases h1),fun h1=>absurd h1.1 h⟩
 have wait:∀ {i:Nat} {o:Oper},n<=i->l[i]? =some o->∀j,j<i->∃e ∈ o.after,Region.binds .any e=true/\e.on=j:=by
  intro i o hi ho j hj;have h1:=hT i (List.getElem?_eq_some_iff.1 ho).1;rcases h1 with h1|h1
  . omega
  . rw [ho] at h1;simp only [Bool.and_eq_true] at h1;have h2:=List.all_eq_true.1 h1.1 j (List.mem_range.2 hj);obtain ⟨k,hk,h3⟩:=Array.any_eq_true.1 h2;simp only [Bool.and_eq_true,beq_iff_eq] at h3;exact ⟨_,Array.getElem_mem hk,h3.1,h3.2⟩
 refine wp_region_any hm (QN (ops:=l.toArray)
   (fun L a w=>((∀i,n<=i->L.getD i false=false)/\∃u:Nat->Value,a= {tmps:=aX (dstsOf (l.take n)) u t0,defers:=ds}/\J w/\∀(k:Nat) (o:Oper),(l.take n)[k]? =some o->L.getD k false=true->G k (valOf u o) w) \/
     (∃m,n<=m/\m<=l.length/\(∀i,i<m->L.getD i false=true)/\(∀i,m<=i->L.getD i false=false)/\wpList P l.toArray Q (l.drop m) a w))
   ?_ ?_ ?_ _ _ _ _ (by simp) (su _ _) (.inl ⟨fun i _=>by rw [List.size_toArray];simp [Array.getD],fun t=>t0.getD t undef,by rw [kS],hJ,fun k o _ h=> ?_⟩))
 . intro i o ho e he;have hi:i<l.length:=(Array.getElem?_eq_some_iff.1 ho).1;rw [List.getElem?_toArray] at ho;by_cases hin:i<n
   . have h1:(l.take n)[i]? =some o:=htk.2 ⟨hin,ho⟩;have:=hac i (List.mem_range.2 (List.getElem?_eq_some_iff.1 h1).1);rw [h1] at this;have h2:=Array.all_eq_true_iff_forall_mem.1 this e he;simpa using h2
   . have h1:=hT i hi;rcases h1 with h1|h1
     . omega
     . rw [ho] at h1;simp only [Bool.and_eq_true] at h1;have h2:=Array.all_eq_true_iff_forall_mem.1 h1.2 e he;simpa using h2
 . rintro L a w i o hs ho hi hall hI;rw [List.getElem?_toArray] at ho;have hil:i<l.length:=(List.getElem?_eq_some_iff.1 ho).1;have hilt:i<L.size:=by rw [hs];simpa using hil
   have ahead:n<=i->∀j,j<i->L.getD j false=true:=by
    intro hin j hj;obtain ⟨e,he,hb,rfl⟩:=wait hin ho j hj;exact hall e he hb
   have later:∀(m:Nat),n<=m->m=i->(∀j,m<=j->L.getD j false=false)->(∀j,j<m->L.getD j false=true)->wpList P l.toArray Q (l.drop m) a w->
       wpOp P l.toArray Q i (fun a' w'=>((∀k,n<=k->(L.setIfInBounds i true).getD k false=false)/\∃u:Nat->Value,a'= {tmps:=aX (dstsOf (l.take n)) u t0,defers:=ds}/\J w'/\∀(k:Nat) (o:Oper),(l.take n)[k]? =some o->(L.setIfInBounds i true).getD k false=true->G k (valOf u o) w') \/
         (∃m,n<=m/\m<=l.length/\(∀k,k<m->(L.setIfInBounds i true).getD k false=true)/\(∀k,m<=k->(L.setIfInBounds i true).getD k false=false)/\wpList P l.toArray Q (l.drop m) a' w')) a w:=by
    rintro m hnm rfl hno hyes hw;refine wpOp_mono (fun a' w' h=> .inr ⟨m+1,by omega,by omega,fun k hk=> ?_,fun k hk=> ?_,h⟩) (pG ho hw)
    . by_cases e:k=m
      . subst e;exact qm hilt
      . rw [dF e];exact hyes k (by omega)
    . rw [dF (by omega)];exact hno k (by omega)
   rcases hI with ⟨hno,u,rfl,hJw,hG⟩ | ⟨m,hnm,hml,hyes,hno,hw⟩
   . by_cases hin:i<n
     . have nz:(l.take n)[i]? =some o:=htk.2 ⟨hin,ho⟩;have hok:=hop.at nz;rw [Nat.zero_add] at hok;have hg:o.guard=none:=by
        have:=hgd o (List.mem_of_getElem? nz);cases hx:o.guard with
        | none=>rfl
        | some x=>rw [hx] at this;cases this
       unfold wpOp;simp only [List.getElem?_toArray,ho];rw [if_pos (by simp [Region.wanted,hg])];left;refine hok u _ w (fun t ht=>iU ht) hJw (fun j p hj hp=> ?_) _ (fun v w' hv hJ' hG' hE=> .inl ⟨fun k hk=>by rw [dF (by omega)];exact hno k hk,?_⟩)
       . rw [List.getElem?_toArray] at hp;obtain ⟨e,he,hbe⟩:=Array.any_eq_true.1 hj;simp only [Bool.and_eq_true,beq_iff_eq] at hbe;have hl:=hall _ (Array.getElem_mem he) hbe.1;rw [hbe.2] at hl;have hjn:j<n:=by
          by_cases h:j<n
          . exact h
          . rw [hno j (by omega)] at hl;cases hl
         exact hG j p (htk.2 ⟨hjn,hp⟩) hl
       . cases hd:o.dst with
         | none=>
          refine ⟨u,rfl,hJ',fun k p hp hk=> ?_⟩;by_cases e:k=i
          . subst e;obtain rfl:p=o:=Option.some.inj (hp.symm.trans nz);have:valOf u p=undef:=by simp [valOf,hd]
            rw [this,<-hv hd];exact hG'
          . rw [dF e] at hk;exact hst _ _ _ _ hE (hG k p hp hk)
         | some d=>
          have hdm:(dstsOf (l.take n)).contains d=true:=by
           simp only [List.contains_iff_mem];exact List.mem_filterMap.2 ⟨o,List.mem_of_getElem? nz,hd⟩
          refine ⟨fun t=>if t=d then v else u t,by simp only [Act.put,ng hdm],hJ',fun k p hp hk=> ?_⟩;by_cases e:k=i
          . subst e;obtain rfl:p=o:=Option.some.inj (hp.symm.trans nz);simpa [valOf,hd] using hG'
          . rw [dF e] at hk;have hne:=qy hnd nz hp (fun h=>e h.symm) hd;have:valOf (fun t=>if t=d then v else u t) p=valOf u p:=by
             unfold valOf;cases hpd:p.dst with
             | none=>rfl
             | some d'=>exact if_neg (fun h=>hne (by rw [hpd,h]))
            rw [this];exact hst _ _ _ _ hE (hG k p hp hk)
     . have hin':n=i:=by
         by_cases e:n=i
         . exact e
         . have:=ahead (by omega) n (by omega);rw [hno n (Nat.le_refl _)] at this;cases this
       refine later n (Nat.le_refl _) hin' hno (fun j hj=>ahead (by omega) j (by omega)) (hdone u w hJw fun k p hp=>hG k p hp (ahead (by omega) k ?_));have:=(htk.1 hp).1;omega
   . have him:m<=i:=by
       by_cases h:m<=i
       . exact h
       . have:=hyes i (by omega);rw [hi] at this;cases this
     have Qd:m=i:=by
      by_cases e:m=i
      . exact e
      . have:=ahead (by omega) m (by omega);rw [hno m (Nat.le_refl _)] at this;cases this
     exact later m hnm Qd hno hyes hw
 . rintro L a w hs hall hI;rw [List.size_toArray] at hall;rcases hI with ⟨hno,u,rfl,hJw,hG⟩ | ⟨m,hnm,hml,hyes,hno,hw⟩
   . have hnl:n=l.length:=by
       by_cases e:n=l.length
       . exact e
       . have:=hall n (by omega);rw [hno n (Nat.le_refl _)] at this;cases this
     have hq:=hdone u w hJw fun k p hp=>hG k p hp (hall k (by have:=(htk.1 hp).1;omega))
     have hd:l.drop n=[]:=by rw [hnl];exact List.drop_length
     rw [hd] at hq;exact hq
   . have Ha:m=l.length:=by
       by_cases e:m=l.length
       . exact e
       . have:=hall m (by omega);rw [hno m (Nat.le_refl _)] at this;cases this
     rw [Ha,List.drop_length] at hw;exact hw
 . rw [List.size_toArray] at h;simp [Array.getD] at h
end
structure Ext (T:TypeId) (w w':World):Prop where
 size:w.heap.size<=w'.heap.size
 same:∀(k:Nat) (o:Obj),w.heap[k]? =some o->(∀cs fr,o≠ .cells cs T fr)->w'.heap[k]? =some o
 box:∀(k:Nat) (cs:Array Value) (fr:Nat×Nat),w.heap[k]? =some (.cells cs T fr)->∃cs',w'.heap[k]? =some (.cells cs' T fr)/\cs'.size=cs.size
theorem Ext.refl (T:TypeId) (w:World):Ext T w w:=⟨Nat.le_refl _,fun _ _ h _=>h,fun _ cs _ h=>⟨cs,h,rfl⟩⟩
theorem Ext.below {T:TypeId} {w w':World} (h:Below w.heap.size w w'):Ext T w w':=
  ⟨h.size,fun k o hk _=>(h.block k (Array.getElem?_eq_some_iff.1 hk).1).trans hk,fun k cs fr hk=>⟨cs,(h.block k (Array.getElem?_eq_some_iff.1 hk).1).trans hk,rfl⟩⟩
theorem Ext.owns {T:TypeId} {w w':World} (hE:Ext T w w') {base:Nat} {e:TypeId} {size:Nat} {v:Value} {n:Nat} {xs:List Value} (hne:e≠T) (h:w.ownsRow base e size v n xs):w'.ownsRow base e size v n xs:=by
 obtain ⟨h1,h2⟩:=h;refine ⟨h1,?_⟩;rcases h2 with h2 | ⟨g,cap,cur,hv,hg,hh,r⟩
 . exact .inl h2
 . exact .inr ⟨g,cap,cur,hv,hg,hE.same _ _ hh (fun cs fr e=>by cases e;exact hne rfl),r⟩
structure mJ (T:TypeId) where
 holds:Value->World->Prop
 stays:∀v w w',Ext T w w'->holds v w->holds v w'
def mJ.any (T:TypeId):mJ T:=⟨fun _ _=>True,fun _ _ _ _ _=>trivial⟩
def mJ.is {T:TypeId} (x:Value):mJ T:=⟨fun v _=>v=x,fun _ _ _ _ h=>h⟩
def mJ.row {T:TypeId} (base:Nat) (e:TypeId) (he:e≠T) (s n:Nat) (xs:List Value):mJ T:=⟨fun v w=>w.ownsRow base e s v n xs,fun _ _ _ h k=>h.owns he k⟩
def mJ.aep {T:TypeId} (f g k:mJ T):mJ T:=⟨fun v w=>∃x y z,v= .agg #[x,y,z]/\f.holds x w/\g.holds y w/\k.holds z w,fun _ _ _ h ⟨x,y,z,e,h1,h2,h3⟩=>⟨x,y,z,e,f.stays _ _ _ h h1,g.stays _ _ _ h h2,k.stays _ _ _ h h3⟩⟩
def mJ.box {T:TypeId} (base n:Nat):mJ T:=⟨fun v w=>∃b cs,v= .pointer (some ⟨b,0,none⟩)/\base<=b/\w.heap[b]? =some (.cells cs T (0,0))/\cs.size=n,
  fun _ _ _ h ⟨b,cs,e,hb,hh,hn⟩=>by obtain ⟨cs',h1,h2⟩:=h.box _ _ _ hh;exact ⟨b,cs',e,hb,h1,by omega⟩⟩
def mJ.empty {T:TypeId} (base:Nat) (e:TypeId) (he:e≠T):mJ T:=⟨fun v w=>∃g,v= .slice (some ⟨g,0,none⟩) 0 0/\w.ownsRow base e 1 v 0 [],fun _ _ _ h ⟨g,k1,k2⟩=>⟨g,k1,h.owns he k2⟩⟩
def rO {T:TypeId} (fs:List (mJ T)) (k:Nat) (v:Value) (w:World):Prop:=(fs.getD k (mJ.any T)).holds v w
theorem iV {T:TypeId} (fs:List (mJ T)) (k:Nat) (v:Value) (w w':World) (h:Ext T w w'):rO fs k v w->rO fs k v w':=(fs.getD k (mJ.any T)).stays _ _ _ h
theorem ag {P:Program} {w:World} {ty:TypeId} {d:TypeDesc} {b:Nat} (vs:List Value) (hu:P.underlying ty=some d) (hd:d.isRow=true) (hi:(P.info? ty).map (·.size)=some vs.length)
    (h:∀j x,vs[j]? =some x->w.cell? ⟨b,j,none⟩=some x):(loadVar ty ⟨b,0,none⟩).run P w= .ok (.agg vs.toArray) w:=
  run_loadVar_mid w b 0 ty vs d (fun j x hj=>by rw [Nat.zero_add];exact h j x hj) hu hd hi
theorem g_ {w:World} {b:Nat} {x y z:Value} (h0:w.cell? ⟨b,0,none⟩=some x) (h1:w.cell? ⟨b,1,none⟩=some y) (h2:w.cell? ⟨b,2,none⟩=some z):∀j v,[x,y,z][j]? =some v->w.cell? ⟨b,j,none⟩=some v:=by
 intro j v hj;match j with
 | 0=>simp at hj;rw [<-hj];exact h0
 | 1=>simp at hj;rw [<-hj];exact h1
 | 2=>simp at hj;rw [<-hj];exact h2
 | n+3=>simp at hj
theorem FZ (w:World) (o:Obj):(w.alloc o).heap[w.heap.size]? =some o:=by unfold World.alloc;simp
theorem aj {n m:Nat} {w W w':World} (h:Below m W w') (h1:Below n w W) (h2:n<=m):Below n w w':=h1.trans (h.mono h2)
theorem xv {w W w':World} (h:Below W.heap.size W w') (H:Hid (Below w.heap.size w W)):Hid (Below w.heap.size w w'):=Lib.hid (aj h H.out H.out.size)
def aQ (k:IntKind) (w:World) (a:Option Addr) (xs:List Int):Prop:=
  ∀i,i<xs.length->∃b off,a=some ⟨b,off,none⟩/\b<w.heap.size/\∀j,j<xs.length->w.cell? ⟨b,off+j,none⟩=some (.int k (xs.getD j 0))
variable {k:IntKind}
theorem aQ.below {w w':World} {a:Option Addr} {xs:List Int} (h:aQ k w a xs) (hb:Below w.heap.size w w'):aQ k w' a xs:=by
 intro i hi;obtain ⟨b,off,ha,hlt,hc⟩:=h i hi;exact ⟨b,off,ha,Nat.lt_of_lt_of_le hlt hb.size,fun j hj=>(hb.cell (p:=⟨b,off+j,none⟩) hlt).trans (hc j hj)⟩
theorem aQ.alloc {w:World} {a:Option Addr} {xs:List Int} (h:aQ k w a xs) (o:Obj):aQ k (w.alloc o) a xs:=h.below ((Below.refl _ _).alloc (Nat.le_refl _) _)
theorem aQ.drewN {w:World} {a:Option Addr} {xs:List Int} (h:aQ k w a xs) (n:Nat):aQ k (w.drewN n) a xs:=h
theorem aQ.setCell {w:World} {a:Option Addr} {xs:List Int} (h:aQ k w a xs) {p:Addr} (hne:∀x,a=some x->x.block≠p.block) (v:Value):aQ k (w.setCell p v) a xs:=by
 intro i hi;obtain ⟨b,off,ha,hlt,hc⟩:=h i hi;refine ⟨b,off,ha,by simpa using hlt,fun j hj=> ?_⟩;rw [World.cell?_setCell_other]
 . exact hc j hj
 . intro e;exact hne _ ha (by rw [e])
theorem aQ.get {w:World} {a:Option Addr} {xs:List Int} (h:aQ k w a xs) {i:Nat} (hi:i<xs.length):
    ∃b off x,a=some ⟨b,off,none⟩/\Hid (xs.getD i 0=x)/\w.cell? ⟨b,off+i,none⟩=some (.int k x)/\b<w.heap.size:=by
 obtain ⟨b,off,ha,hlt,hc⟩:=h i hi;exact ⟨b,off,_,ha,Lib.hid rfl,hc i hi,hlt⟩
theorem aQ.take {w:World} {a:Option Addr} {xs:List Int} (h:aQ k w a xs) (n:Nat) (hn:n<=xs.length):aQ k w a (xs.take n):=by
 intro i hi;have hi':i<n:=by simp at hi;omega
 obtain ⟨b,off,ha,hlt,hc⟩:=h i (by omega);refine ⟨b,off,ha,hlt,fun j hj=> ?_⟩;have hj':j<n:=by simp at hj;omega
 rw [hc j (by omega)];simp [List.getD_eq_getElem?_getD,List.getElem?_take,hj']
theorem aQ.ab3 {w:World} {a:Option Addr} {xs:List Int} (h:aQ k w a xs) {i:Nat} (hi:i*2+2<=xs.length):
    ∃ b off x y,a=some ⟨b,off,none⟩/\Hid (xs.getD (i*2) 0=x)/\Hid (xs.getD (i*2+1) 0=y)/\
      w.cell? ⟨b,off+i*2,none⟩=some (.int k x)/\w.cell? ⟨b,off+i*2+1,none⟩=some (.int k y)/\b<w.heap.size:=by
 obtain ⟨b,off,ha,hlt,hc⟩:=h (i*2) (by omega);exact ⟨b,off,_,_,ha,Lib.hid rfl,Lib.hid rfl,hc _ (by omega),by rw [Nat.add_assoc];exact hc _ (by omega),hlt⟩
theorem numCells (l:List Int):∀u ∈ l.map (Value.int k),u.oneCell'=true:=by
 intro u hu;obtain ⟨n,_,rfl⟩:=List.mem_map.1 hu;rfl
theorem ak {w:World} {B:Nat} {e:TypeId} {s:Nat} {v:Value} {n:Nat} {xs:List Int} (h:w.ownsRow B e s v n (xs.map (Value.int k))):
    ∃a cap,v= .slice a n cap/\aQ k w a xs/\(∀x,a=some x->B<=x.block/\x.block<w.heap.size/\x.off=0/\x.spot=none)/\(a=none->n=0/\cap=0)/\n<=cap/\xs.length=n*s:=by
 have hl:xs.length=n*s:=by have:=h.1;simpa using this
 obtain ⟨h1,⟨rfl,hn⟩ | ⟨g,cap,cur,rfl,hg,hh,hn,hm,hs,ht⟩⟩:=h
 . subst hn;exact ⟨none,0,rfl,fun i hi=>by omega,fun x hx=>(by cases hx),fun _=>⟨rfl,rfl⟩,Nat.le_refl _,hl⟩
 . have hlt:=(Array.getElem?_eq_some_iff.1 hh).1;refine ⟨some ⟨g,0,none⟩,cap,rfl,fun i hi=>⟨g,0,rfl,hlt,fun j hj=> ?_⟩,fun x hx=>(by cases hx;exact ⟨hg,hlt,rfl,rfl⟩),fun hx=>(by cases hx),hn,hl⟩;have:=World.ownsRow.cells (w:=w) (base:=B) (e:=e) (size:=s) (n:=n) (xs:=xs.map (Value.int k)) ⟨h1,.inr ⟨g,cap,cur,rfl,hg,hh,hn,hm,hs,ht⟩⟩ (g:=g) rfl j (.int k (xs.getD j 0)) (by
    rw [List.getElem?_map,List.getElem?_eq_getElem hj];simp [List.getD_eq_getElem?_getD,hj])
   rw [Addr.add_lit] at this;exact this
theorem xH {w:World} {ga:Option Addr} {xs:List Int} (h:aQ k w ga xs):∀ad,ga=some ad->∀j u,(xs.map (Value.int k))[j]? =some u->w.cell? (ad.add j)=some u:=by
 rintro ad rfl j u hj;rw [List.getElem?_map] at hj;cases hx:xs[j]? with
 | none=>rw [hx] at hj;cases hj
 | some v=>
  rw [hx] at hj;have hjl:=(List.getElem?_eq_some_iff.1 hx).1;obtain ⟨b,o,h1,_,hc⟩:=h j hjl;cases h1;rw [Addr.add_lit,hc j hjl,List.getD_eq_getElem?_getD,hx];exact hj
theorem Cf {w:World} {xs:List Int} (h:aQ k w none xs):xs=[]:=by
 cases xs with
 | nil=>rfl
 | cons x t=>obtain ⟨b,o,h1,_⟩:=h 0 (by simp);cases h1
def yB (k:IntKind) (t:TypeId) (w:World) (xs:List Int) (e:Ending) (w':World):Prop:=
  ∃v,e= .returned v/\w'.ownsRow w.heap.size t 1 v xs.length (xs.map (Value.int k))/\Below w.heap.size w w'
theorem wJ {xs ys:List Int} {k:Nat} (hl:xs.length=ys.length) (hk:k<xs.length) (h:xs.take k=ys.take k) (h2:xs.getD k 0=ys.getD k 0):xs.take (k+1)=ys.take (k+1):=by
 rw [List.take_succ_eq_append_getElem hk,List.take_succ_eq_append_getElem (by omega),h];simp [List.getD_eq_getElem?_getD,hk,(by omega:k<ys.length)] at h2;rw [h2]
end
section
open Go.RowKit
def je (x:Int) (k:Nat):Bool:=x.toNat.testBit k
theorem fD (n k:Nat):je (n:Int) k=n.testBit k:=by rw [je,Int.toNat_natCast]
theorem Xd {x:Int} (h0:0<=x) (k:Nat):x/2^k%2=if je x k then 1 else 0:=by
 obtain ⟨n,rfl⟩:=Int.eq_ofNat_of_zero_le h0;rw [fD,Nat.testBit_eq_decide_div_mod_eq];have e:((n:Int)/2^k)=((n/2^k:Nat):Int):=by push_cast;rfl
 rw [e];generalize n/2^k=m;by_cases h:m%2=1
 . simp [h];omega
 . simp [h];omega
theorem yu {x:Int} (h0:0<=x) (h1:x<18446744073709551616) (k:Nat):bits .and .u64 (x/2^k) 1=if je x k then 1 else 0:=by
 obtain ⟨n,rfl⟩:=Int.eq_ofNat_of_zero_le h0;have e:((n:Int)/2^k)=((n/2^k:Nat):Int):=by push_cast;rfl
 have hd:=Xd (x:=n) (by omega) k;rw [e] at hd ⊢;have hl:n/2^k<=n:=Nat.div_le_self _ _;have:=bits_and_u64_nat (n/2^k) 1 (by omega) (by omega);rw [show ((1:Nat):Int)=1 from rfl] at this;rw [this,Nat.and_one_is_mod,<-hd];omega
def bG (ws:List Int) (i:Nat):Bool:=je (ws.getD (i/64) 0) (i%64)
def fB (ws:List Int):Prop:=∀x ∈ ws,0<=x/\x<18446744073709551616
theorem fB.get {ws:List Int} (h:fB ws) (i:Nat):0<=ws.getD i 0/\ws.getD i 0<18446744073709551616:=by
 rw [List.getD_eq_getElem?_getD];cases hx:ws[i]? with
 | none=>simp
 | some x=>exact h x (List.mem_of_getElem? hx)
theorem qc (k:Nat):je 0 k=false:=by simp [je]
theorem zo {x:Int} (h1:x<18446744073709551616) {k:Nat} (hk:64<=k):je x k=false:=by
 rw [je];apply Nat.testBit_lt_two_pow;calc x.toNat<2^64:=by omega
   _<=2^k:=Nat.pow_le_pow_right (by omega) hk
theorem Di {x y:Int} (hx:0<=x) (hy:0<=y) (h:∀k,je x k=je y k):x=y:=by
 have:x.toNat=y.toNat:=Nat.eq_of_testBit_eq fun k=>h k
 omega
theorem Jh {x:Int} (h0:0<=x) (k:Nat):x/2^k=0↔∀i,k<=i->je x i=false:=by
 obtain ⟨n,rfl⟩:=Int.eq_ofNat_of_zero_le h0;have e:((n:Int)/2^k)=((n/2^k:Nat):Int):=by push_cast;rfl
 rw [e];constructor
 . intro h i hi;have h2:n/2^k=0:=by omega
   rw [Nat.div_eq_zero_iff] at h2;rcases h2 with h2|h2
   . have:=Nat.two_pow_pos k;omega
   . rw [fD];exact Nat.testBit_lt_two_pow (Nat.lt_of_lt_of_le h2 (Nat.pow_le_pow_right (by omega) hi))
 . intro h;have:n/2^k=0:=by
    apply Nat.eq_of_testBit_eq;intro i;rw [<-Nat.shiftRight_eq_div_pow,Nat.testBit_shiftRight,Nat.zero_testBit,<-fD];exact h _ (by omega)
   omega
def wQ (x:Int) (k:Nat):Int:=x/2^k*2^k
def z_ (x:Int) (k:Nat):Int:=x*2^k%18446744073709551616/2^k
theorem J6 {x:Int} (h0:0<=x) (k:Nat):0<=wQ x k/\wQ x k<=x:=by
 have hp:(0:Int)<2^k:=Int.pow_pos (by omega);refine ⟨Int.mul_nonneg (Int.ediv_nonneg h0 (by omega)) (by omega),Int.ediv_mul_le _ (by omega)⟩
theorem Fv {x:Int} (h0:0<=x) (k i:Nat):je (wQ x k) i=(je x i&&decide (k<=i)):=by
 obtain ⟨n,rfl⟩:=Int.eq_ofNat_of_zero_le h0;have e:wQ n k=((n/2^k*2^k:Nat):Int):=by rw [wQ];push_cast;rfl
 rw [e,fD,fD,Nat.testBit_mul_two_pow];by_cases h:k<=i
 . simp [h,<-Nat.shiftRight_eq_div_pow,Nat.testBit_shiftRight,show k+(i-k)=i by omega]
 . simp [h]
theorem J7 {n k:Nat} (hk:k<=64):z_ n k=((n%2^(64-k):Nat):Int):=by
 have e:z_ n k=((n*2^k%18446744073709551616/2^k:Nat):Int):=by
  unfold z_;rw [Int.natCast_ediv,Int.natCast_emod,Int.natCast_mul,Int.natCast_pow];rfl
 rw [e];congr 1
 have h:(18446744073709551616:Nat)=2^(64-k)*2^k:=by rw [<-Nat.pow_add,show 64-k+k=64 by omega]
 rw [h,Nat.mul_mod_mul_right,Nat.mul_div_cancel _ (Nat.two_pow_pos k)]
theorem Ti {x:Int} (h0:0<=x) {k:Nat} (hk:k<=64) (i:Nat):je (z_ x k) i=(je x i&&decide (i<64-k)):=by
 obtain ⟨n,rfl⟩:=Int.eq_ofNat_of_zero_le h0;rw [J7 hk,fD,fD,Nat.testBit_mod_two_pow];exact Bool.and_comm _ _
theorem WL {x:Int} (h0:0<=x) (h1:x<18446744073709551616) {k:Nat} (hk:k<=64):0<=z_ x k/\z_ x k<18446744073709551616:=by
 obtain ⟨n,rfl⟩:=Int.eq_ofNat_of_zero_le h0;rw [J7 hk];have:=Nat.mod_le n (2^(64-k));omega
def wC (x:Int):Nat:=(List.range 64).countP (je x)
theorem GH (x:Int):wC x<=64:=by
 have:=List.countP_le_length (p:=je x) (l:=List.range 64);rw [List.length_range] at this;exact this
def Nc (n x:Nat):Nat:=(List.range (8*n)).countP x.testBit
def pop8 (b:Nat):Nat:=(List.range 8).countP b.testBit
theorem Rq (n x:Nat):Nc (n+1) x=pop8 (x%256)+Nc n (x/256):=by
 unfold Nc pop8;rw [show 8*(n+1)=8+8*n by omega,List.range_add,List.countP_append,List.countP_map];congr 1
 . apply List.countP_congr;intro i hi;rw [List.mem_range] at hi;rw [show 256=2^8 from rfl,Nat.testBit_mod_two_pow];simp [hi]
 . congr 1
   funext i
   simp only [Function.comp];rw [show 256=2^8 from rfl,<-Nat.shiftRight_eq_div_pow,Nat.testBit_shiftRight]
def rep (c:Nat):Nat->Nat
  | 0=>0
  | n+1=>rep c n*256+c
theorem sS (a b c d:Nat) (hb:b<256) (hd:d<256):(a*256+b) &&& (c*256+d)=(a &&& c)*256+(b &&& d):=by
 apply Nat.eq_of_testBit_eq;intro i;have hbd:b &&& d<2^8:=Nat.and_lt_two_pow _ hd;rw [Nat.testBit_and,Nat.mul_comm a,Nat.mul_comm c,Nat.mul_comm (a &&& c),show 256=2^8 from rfl,Nat.testBit_two_pow_mul_add _ hb,Nat.testBit_two_pow_mul_add _ hd,Nat.testBit_two_pow_mul_add _ hbd];split<;>rw [Nat.testBit_and]
def s1 (b:Nat):Nat:=(b/2 &&& 85)+(b &&& 85)
def s2 (b:Nat):Nat:=(b/4 &&& 51)+(b &&& 51)
def s3 (b:Nat):Nat:=(b/16+b) &&& 15
theorem Qp:∀b:Fin 256,(∀c:Fin 2,((c.val*128+b.val/2) &&& 85)=(b.val/2 &&& 85))/\s1 b.val<256:=by decide +kernel
theorem FQ:∀b:Fin 256,(∀c:Fin 4,((c.val*64+b.val/4) &&& 51)=(b.val/4 &&& 51))/\s2 (s1 b.val)<256/\s2 (s1 b.val)/16<=4/\s2 (s1 b.val)%16<=4/\s2 b.val<256:=by decide +kernel
theorem aaJ:∀b:Fin 256,s3 (s2 (s1 b.val))=pop8 b.val/\pop8 b.val<=8:=by decide +kernel
theorem afo:∀p q c:Fin 5,((c.val*16+(p.val*16+q.val)/16+(p.val*16+q.val)) &&& 15)=s3 (p.val*16+q.val):=by decide +kernel
def S1 (n x:Nat):Nat:=(x/2 &&& rep 85 n)+(x &&& rep 85 n)
def S2 (n x:Nat):Nat:=(x/4 &&& rep 51 n)+(x &&& rep 51 n)
def S3 (n x:Nat):Nat:=(x/16+x) &&& rep 15 n
def jT (f:Nat->Nat):Nat->Nat->Nat
  | 0,_=>0
  | n+1,x=>jT f n (x/256)*256+f (x%256)
theorem Qv:∀n x,x<256^n->S1 n x=jT s1 n x:=by
 intro n;induction n with
 | zero=>intro x h;simp [S1,rep,jT]
 | succ n ih=>
  intro x h;have hx:x=x/256*256+x%256:=by omega
  have hb:x%256<256:=Nat.mod_lt _ (by omega);have hdiv:x/2=x/256/2*256+(x/256%2*128+x%256/2):=by omega
  have b1:=(Qp ⟨x%256,hb⟩).1 ⟨x/256%2,by omega⟩;have ih2:=ih (x/256) (by rw [Nat.pow_succ] at h;omega);unfold S1 at ih2 ⊢;rw [jT,<-ih2,s1];have e1:x/2 &&& rep 85 (n+1)=(x/256/2 &&& rep 85 n)*256+(x%256/2 &&& 85):=by
   rw [hdiv,rep,sS _ _ _ _ (by omega) (by omega)];rw [show ((x/256%2*128+x%256/2) &&& 85)=(x%256/2 &&& 85) from b1]
  have e2:x &&& rep 85 (n+1)=(x/256 &&& rep 85 n)*256+(x%256 &&& 85):=by
   conv=>lhs;rw [hx,rep]
   rw [sS _ _ _ _ hb (by omega)]
  rw [e1,e2];omega
theorem Xr:∀n x,x<256^n->S2 n x=jT s2 n x:=by
 intro n;induction n with
 | zero=>intro x h;simp [S2,rep,jT]
 | succ n ih=>
  intro x h;have hx:x=x/256*256+x%256:=by omega
  have hb:x%256<256:=Nat.mod_lt _ (by omega);have hdiv:x/4=x/256/4*256+(x/256%4*64+x%256/4):=by omega
  have b1:=(FQ ⟨x%256,hb⟩).1 ⟨x/256%4,by omega⟩;have ih2:=ih (x/256) (by rw [Nat.pow_succ] at h;omega);unfold S2 at ih2 ⊢;rw [jT,<-ih2,s2];have e1:x/4 &&& rep 51 (n+1)=(x/256/4 &&& rep 51 n)*256+(x%256/4 &&& 51):=by
   rw [hdiv,rep,sS _ _ _ _ (by omega) (by omega)];rw [show ((x/256%4*64+x%256/4) &&& 51)=(x%256/4 &&& 51) from b1]
  have e2:x &&& rep 51 (n+1)=(x/256 &&& rep 51 n)*256+(x%256 &&& 51):=by
   conv=>lhs;rw [hx,rep]
   rw [sS _ _ _ _ hb (by omega)]
  rw [e1,e2];omega
def uA:Nat->Nat->Prop
  | 0,x=>x=0
  | n+1,x=>x%256/16<=4/\x%16<=4/\uA n (x/256)
theorem ML {n x:Nat} (h:uA n x):x%16<=4:=by
 cases n with
 | zero=>rw [uA] at h;omega
 | succ n=>exact h.2.1
theorem aes:∀n x,uA n x->S3 n x=jT s3 n x:=by
 intro n;induction n with
 | zero=>intro x h;simp [S3,rep,jT]
 | succ n ih=>
  intro x h;obtain ⟨h1,h2,h3⟩:=h;have h4:=ML h3;have ih2:=ih (x/256) h3;unfold S3 at ih2 ⊢;rw [jT,<-ih2];have hb:=afo ⟨x%256/16,by omega⟩ ⟨x%16,by omega⟩ ⟨x/256%16,by omega⟩;have e0:x%256/16*16+x%16=x%256:=by omega
  simp only [e0] at hb;have e1:x/16+x=(x/256/16+x/256)*256+(x/256%16*16+x%256/16+x%256):=by omega
  rw [e1,rep,sS _ _ _ _ (by omega) (by omega),hb]
theorem Be {f:Nat->Nat} (hf:∀b,b<256->f b<256):∀n x,jT f n x<256^n:=by
 intro n;induction n with
 | zero=>intro x;simp [jT]
 | succ n ih=>
  intro x;have:=ih (x/256);have:=hf (x%256) (Nat.mod_lt _ (by omega));rw [jT,Nat.pow_succ];omega
theorem yS {f g:Nat->Nat} (hf:∀b,b<256->f b<256):∀n x,jT g n (jT f n x)=jT (fun b=>g (f b)) n x:=by
 intro n;induction n with
 | zero=>intro x;rfl
 | succ n ih=>
  intro x;have:=hf (x%256) (Nat.mod_lt _ (by omega));rw [jT,jT,jT,<-ih];rw [show (jT f n (x/256)*256+f (x%256))/256=jT f n (x/256) by omega,show (jT f n (x/256)*256+f (x%256))%256=f (x%256) by omega]
theorem NE {f g:Nat->Nat} (h:∀b,b<256->f b=g b):∀n x,jT f n x=jT g n x:=by
 intro n;induction n with
 | zero=>intro x;rfl
 | succ n ih=>intro x;rw [jT,jT,ih,h _ (Nat.mod_lt _ (by omega))]
theorem CZ:∀n x,uA n (jT (fun b=>s2 (s1 b)) n x):=by
 intro n;induction n with
 | zero=>intro x;rfl
 | succ n ih=>
  intro x;obtain ⟨-,h1,h2,h3,-⟩:=FQ ⟨x%256,Nat.mod_lt _ (by omega)⟩;simp only at h1 h2 h3;rw [jT,uA];refine ⟨by omega,by omega,?_⟩;rw [show (jT (fun b=>s2 (s1 b)) n (x/256)*256+s2 (s1 (x%256)))/256=jT (fun b=>s2 (s1 b)) n (x/256) by omega];exact ih _
theorem aer (n x:Nat) (h:x<256^n):S3 n (S2 n (S1 n x))=jT pop8 n x:=by
 have l1:∀b,b<256->s1 b<256:=fun b hb=>(Qp ⟨b,hb⟩).2
 have l2:∀b,b<256->s2 b<256:=fun b hb=>(FQ ⟨b,hb⟩).2.2.2.2
 have l3:∀b,b<256->s2 (s1 b)<256:=fun b hb=>(FQ ⟨b,hb⟩).2.1
 rw [Qv n x h,Xr n _ (Be l1 n x),yS l1,aes n _ (CZ n x),yS l3];exact NE (fun b hb=>(aaJ ⟨b,hb⟩).1) n x
theorem Yr (b:Nat) (h:b<256):pop8 b<=8:=(aaJ ⟨b,h⟩).2
theorem Ro (x:Nat):Nc 0 x=0:=rfl
theorem Yq {x:Int} (h0:0<=x):wC x=Nc 8 x.toNat:=by
 unfold wC Nc;rfl
theorem Oq {a b:Nat} (q:Nat) (h:a<b):(a+b*q)/b=q:=by rw [Nat.add_mul_div_left _ _ (by omega),Nat.div_eq_of_lt h,Nat.zero_add]
theorem abr {a b:Nat} (q:Nat) (h:a<b):(a+b*q)%b=a:=by rw [Nat.add_mul_mod_self_left,Nat.mod_eq_of_lt h]
theorem Oj (x:Nat):∃z1 z2 z3,jT pop8 8 x+jT pop8 8 x/256=z1/\z1+z1/65536=z2/\z2+z2/4294967296=z3/\z3%128=Nc 8 x/\jT pop8 8 x<9223372036854775808/\z1<9223372036854775808/\z2<9223372036854775808/\z3<9223372036854775808:=by
 refine ⟨_,_,_,rfl,rfl,rfl,?_⟩;have hb:=fun y:Nat=>Yr (y%256) (Nat.mod_lt _ (by omega))
 simp only [Rq,Ro,jT];generalize x/256=x1;generalize x1/256=x2;generalize x2/256=x3;generalize x3/256=x4;generalize x4/256=x5;generalize x5/256=x6;generalize x6/256=x7;have h0:=hb x;have h1:=hb x1;have h2:=hb x2;have h3:=hb x3;have h4:=hb x4;have h5:=hb x5;have h6:=hb x6;have h7:=hb x7;generalize pop8 (x%256)=p0 at *;generalize pop8 (x1%256)=p1 at *;generalize pop8 (x2%256)=p2 at *;generalize pop8 (x3%256)=p3 at *;generalize pop8 (x4%256)=p4 at *;generalize pop8 (x5%256)=p5 at *;generalize pop8 (x6%256)=p6 at *;generalize pop8 (x7%256)=p7 at *;clear hb;obtain ⟨z,hz⟩:∃z,((((((((0*256+p7)*256+p6)*256+p5)*256+p4)*256+p3)*256+p2)*256+p1)*256+p0)=z:=⟨_,rfl⟩
 rw [hz];have e0:z=p0+256*(p1+256*p2+65536*p3+16777216*p4+4294967296*p5+1099511627776*p6+281474976710656*p7):=by omega
 have e1:z/256=p1+256*p2+65536*p3+16777216*p4+4294967296*p5+1099511627776*p6+281474976710656*p7:=by rw [e0];exact Oq _ (by omega)
 rw [e1];obtain ⟨z1,hz1⟩:∃z1,z+(p1+256*p2+65536*p3+16777216*p4+4294967296*p5+1099511627776*p6+281474976710656*p7)=z1:=⟨_,rfl⟩
 rw [hz1];have e2:z1=((p0+p1)+256*(p1+p2))+65536*((p2+p3)+256*(p3+p4)+65536*(p4+p5)+16777216*(p5+p6)+4294967296*(p6+p7)+1099511627776*p7):=by omega
 have e3:z1/65536=(p2+p3)+256*(p3+p4)+65536*(p4+p5)+16777216*(p5+p6)+4294967296*(p6+p7)+1099511627776*p7:=by rw [e2];exact Oq _ (by omega)
 rw [e3];obtain ⟨z2,hz2⟩:∃z2,z1+((p2+p3)+256*(p3+p4)+65536*(p4+p5)+16777216*(p5+p6)+4294967296*(p6+p7)+1099511627776*p7)=z2:=⟨_,rfl⟩
 rw [hz2];have e4:z2=((p0+p1+p2+p3)+256*(p1+p2+p3+p4)+65536*(p2+p3+p4+p5)+16777216*(p3+p4+p5+p6))+4294967296*((p4+p5+p6+p7)+256*(p5+p6+p7)+65536*(p6+p7)+16777216*p7):=by omega
 have e5:z2/4294967296=(p4+p5+p6+p7)+256*(p5+p6+p7)+65536*(p6+p7)+16777216*p7:=by rw [e4];exact Oq _ (by omega)
 rw [e5];clear e1 e3 e5;have l0:z<9223372036854775808:=by rw [e0];clear hz hz1 hz2 e0 e2 e4;omega
 have l1:z1<9223372036854775808:=by rw [e2];clear hz hz1 hz2 e0 e2 e4;omega
 have l2:z2<9223372036854775808:=by rw [e4];clear hz hz1 hz2 e0 e2 e4;omega
 refine ⟨?_,l0,l1,l2,by rw [e4];clear hz hz1 hz2 e0 e2 e4 l0 l1 l2;omega⟩;clear hz hz1 hz2 e0 e2 l0 l1 l2;have e6:z2+((p4+p5+p6+p7)+256*(p5+p6+p7)+65536*(p6+p7)+16777216*p7)=(p0+p1+p2+p3+p4+p5+p6+p7)+128*(2*((p1+p2+p3+p4+p5+p6+p7)+256*(p2+p3+p4+p5+p6+p7)+65536*(p3+p4+p5+p6+p7)+16777216*((p4+p5+p6+p7)+256*(p5+p6+p7)+65536*(p6+p7)+16777216*p7))):=by rw [e4];clear e4;omega
 rw [e6,abr _ (by omega)];clear e4 e6;omega
theorem Q7:∀n x,uA n x->3*x<256^n:=by
 intro n;induction n with
 | zero=>intro x h;rw [uA] at h;subst h;decide
 | succ n ih=>
  intro x ⟨h1,h2,h3⟩;have:=ih _ h3;rw [Nat.pow_succ];omega
theorem sQ (a b:Nat) (ha:a<9223372036854775808) (hb:b<9223372036854775808):
    bits .and .i64 (a:Int) (b:Int)=((a &&& b:Nat):Int):=by
 have hx:a &&& b<2^63:=Nat.and_lt_two_pow _ (by omega);have h1:(BitVec.ofInt 64 (a:Int)).toNat=a:=by
  rw [BitVec.ofInt_natCast,BitVec.toNat_ofNat];exact Nat.mod_eq_of_lt (by omega)
 have h2:(BitVec.ofInt 64 (b:Int)).toNat=b:=by
  rw [BitVec.ofInt_natCast,BitVec.toNat_ofNat];exact Nat.mod_eq_of_lt (by omega)
 show IntKind.i64.wrap ((BitVec.ofInt 64 (a:Int) &&& BitVec.ofInt 64 (b:Int)).toNat:Int)=_;rw [BitVec.toNat_and,h1,h2];exact IntWalk.i64_in _ (by omega)
theorem ady {n:Nat} (hn:n<18446744073709551616):IntKind.u64.wrap (bits .and .u64 ((n:Int)/2) 6148914691236517205+bits .and .u64 (n:Int) 6148914691236517205)=(S1 8 n:Nat):=by
 have l1:∀b,b<256->s1 b<256:=fun b hb=>(Qp ⟨b,hb⟩).2
 have hl:=Be l1 8 n;rw [<-Qv 8 n (by omega),S1,show rep 85 8=6148914691236517205 from rfl] at hl;have e1:=bits_and_u64_nat (n/2) 6148914691236517205 (by omega) (by omega);have e2:=bits_and_u64_nat n 6148914691236517205 (by omega) (by omega);rw [S1,show rep 85 8=6148914691236517205 from rfl];rw [show ((n/2:Nat):Int)=(n:Int)/2 by omega] at e1;rw [show ((6148914691236517205:Nat):Int)=6148914691236517205 from rfl] at e1 e2;rw [e1,e2,IntKind.wrap_u64];omega
theorem adx {n:Nat} (hn:n<18446744073709551616):IntKind.u64.wrap (bits .and .u64 ((n:Int)/4) 3689348814741910323+bits .and .u64 (n:Int) 3689348814741910323)=(S2 8 n:Nat):=by
 have l2:∀b,b<256->s2 b<256:=fun b hb=>(FQ ⟨b,hb⟩).2.2.2.2
 have hl:=Be l2 8 n;rw [<-Xr 8 n (by omega),S2,show rep 51 8=3689348814741910323 from rfl] at hl;have e1:=bits_and_u64_nat (n/4) 3689348814741910323 (by omega) (by omega);have e2:=bits_and_u64_nat n 3689348814741910323 (by omega) (by omega);rw [S2,show rep 51 8=3689348814741910323 from rfl];rw [show ((n/4:Nat):Int)=(n:Int)/4 by omega] at e1;rw [show ((3689348814741910323:Nat):Int)=3689348814741910323 from rfl] at e1 e2;rw [e1,e2,IntKind.wrap_u64];omega
theorem adw {n:Nat} (hn:3*n<18446744073709551616):bits .and .u64 (IntKind.u64.wrap ((n:Int)/16+(n:Int))) 1085102592571150095=(S3 8 n:Nat):=by
 have e1:=bits_and_u64_nat (n/16+n) 1085102592571150095 (by omega) (by omega);rw [S3,show rep 15 8=1085102592571150095 from rfl,<-e1,IntKind.wrap_u64];congr 1
 omega
def Ym (n:Nat):List Nat:=if h:n<=1 then [1] else Ym (n/2)++[n]
termination_by n
decreasing_by omega
theorem PD {n:Nat} (h:n<=1):Ym n=[1]:=by rw [Ym];simp [h]
theorem Pz {n:Nat} (h:2<=n):Ym n=Ym (n/2)++[n]:=by rw [Ym];simp [show ¬n<=1 by omega]
theorem qA {n:Nat} (h:2<=n):n.log2=(n/2).log2+1:=by rw [Nat.log2_def];simp [h]
theorem uJ {n:Nat} (h:n<=1):n.log2=0:=by rw [Nat.log2_def];simp [show ¬2<=n by omega]
theorem xg {n k:Nat} (h1:1<=n) (h:n<2^k):n.log2<k:=(Nat.log2_lt (by omega)).2 h
theorem tJ (n:Nat):(Ym n).length=n.log2+1:=by
 induction n using Nat.strongRecOn with
 | ind n ih=>
  by_cases h:n<=1
  . rw [PD h,uJ h];rfl
  . rw [Pz (by omega),qA (by omega),List.length_append,ih (n/2) (by omega)];rfl
theorem Yl (n:Nat) (h1:1<=n):∀i,i<=n.log2->(Ym n).getD (n.log2-i) 0=n/2^i:=by
 induction n using Nat.strongRecOn with
 | ind n ih=>
  intro i hi;by_cases h:n<=1
  . have h0:=uJ h;obtain rfl:i=0:=by omega
    obtain rfl:n=1:=by omega
    rw [PD h,h0];rfl
  . rw [Pz (by omega)];have hl:=qA (n:=n) (by omega);have hp:=tJ (n/2);cases i with
    | zero=>
     rw [List.getD_eq_getElem?_getD,List.getElem?_append_right (by omega)];simp [hp,hl]
    | succ i=>
     rw [List.getD_eq_getElem?_getD,List.getElem?_append_left (by omega),<-List.getD_eq_getElem?_getD];rw [show n.log2-(i+1)=(n/2).log2-i by omega,ih (n/2) (by omega) (by omega) i (by omega),Nat.div_div_eq_div_mul,Nat.pow_succ,Nat.mul_comm]
def ups (n:Nat):List Nat:=(Ym n).reverse
theorem BL (n:Nat):(ups n).length=n.log2+1:=by simp [ups,tJ]
theorem XZ {n k:Nat} (h1:1<=n) (h:k<=n.log2):(ups n).getD k 0=n/2^k:=by
 rw [<-Yl n h1 k h,ups,List.getD_eq_getElem?_getD,List.getElem?_reverse (by rw [tJ];omega),tJ,<-List.getD_eq_getElem?_getD];congr 1
theorem Wp (n k:Nat):n/2^k/2=n/2^(k+1):=by rw [Nat.div_div_eq_div_mul,Nat.pow_succ]
theorem JV {n k:Nat} (h1:1<=n):k<=n.log2↔1<=n/2^k:=by
 rw [Nat.le_log2 (by omega),Nat.le_div_iff_mul_le (Nat.two_pow_pos k),Nat.one_mul]
def yE (l n:Int):Int:=if (1<=l/\l<=14)/\1<=n/\n<2^l.toNat then 0 else 2
def Si (l k:Int):Int:=if (1<=l/\l<=14)/\0<=k/\k<2^(l.toNat-1) then 0 else 2
def R_ (l k:Int):Int:=if Si l k=0 then 2^(l.toNat-1)+k else 0
def Zx (l n:Int):Int:=if yE l n=0 then (n.toNat.log2:Nat) else 0
def fst (l n:Int):Int:=n*2^(l.toNat-1-n.toNat.log2)-2^(l.toNat-1)
def cnt (l n:Int):Int:=2^(l.toNat-1-n.toNat.log2)
theorem JE {l n:Int} (h:yE l n=0):1<=l/\l<=14/\1<=n/\n<2^l.toNat:=by
 unfold yE at h;split at h
 . rename_i k;exact ⟨k.1.1,k.1.2,k.2⟩
 . omega
theorem VF {l n:Int} (h1:1<=l) (h2:l<=14) (h3:1<=n) (h4:n<2^l.toNat):yE l n=0:=by simp [yE,h1,h2,h3,h4]
theorem RZ (l n:Int):yE l n=0\/yE l n=2:=by unfold yE;split<;>simp
theorem VG {l n:Int} (h:¬yE l n=0):yE l n=2:=(RZ l n).resolve_left h
def wB (n:Int):Bool:=decide (0<n)&&(n.toNat &&& (n.toNat-1))==0
theorem Gs {n:Nat} (h:0<n):wB (n:Int)=true↔2^n.log2=n:=by
 unfold wB;rw [Int.toNat_natCast,Bool.and_eq_true,decide_eq_true_eq,beq_iff_eq,Nat.and_sub_one_eq_zero_iff_isPowerOfTwo (by omega)];constructor
 . rintro ⟨-,k,rfl⟩;rw [Nat.log2_two_pow]
 . intro e;exact ⟨by omega,n.log2,e.symm⟩
theorem Yh {n:Nat} (h:wB (n:Int)=true):∃k,n=2^k:=by
 have h0:0<n:=by
  unfold wB at h;rw [Bool.and_eq_true,decide_eq_true_eq] at h;omega
 exact ⟨n.log2,((Gs h0).1 h).symm⟩
theorem Py {n:Int} (h:n<=0):wB n=false:=by simp [wB];omega
def rM (ai many:Int):Bool:=decide (4<=ai)&&decide (ai<=64)&&wB ai&&decide (ai<=many)&&decide (many<=65536)&&decide (many%ai=0)&&wB (many/ai)
structure aW where
 ai:Int
 ws:List Int
 ks:List Int
 vs:List Int
 cs:List Int
 laid:Int
structure jJ where
 wa:Option Addr
 ka:Option Addr
 va:Option Addr
 ca:Option Addr
 wc:Nat
 kc:Nat
 vc:Nat
 cc:Nat
abbrev jB (c:aW) (a:jJ):Value:= .agg #[.int .i64 c.ai,.slice a.wa c.ws.length a.wc,.slice a.ka c.ks.length a.kc,.slice a.va c.vs.length a.vc,.slice a.ca c.cs.length a.cc,.int .u64 c.laid]
structure iy (W:World) (c:aW) (a:jJ):Prop where
 w:aQ .u64 W a.wa c.ws
 k:aQ .i64 W a.ka c.ks
 v:aQ .i64 W a.va c.vs
 n:aQ .i64 W a.ca c.cs
 u:fB c.ws
theorem iy.below {w w':World} {c:aW} {a:jJ} (h:iy w c a) (hb:Below w.heap.size w w'):iy w' c a:=⟨h.w.below hb,h.k.below hb,h.v.below hb,h.n.below hb,h.u⟩
def eQ (ws:List Int) (a b:Nat):List Nat:=(List.range' a (b-a)).filter (bG ws)
def dD (ws:List Int) (a b:Nat):Nat:=(List.range' a (b-a)).countP (bG ws)
theorem gu (ws:List Int) (a b:Nat):(eQ ws a b).length=dD ws a b:=(List.countP_eq_length_filter ..).symm
theorem oH (ws:List Int) (a b:Nat):dD ws a b<=b-a:=by
 have:=List.countP_le_length (p:=bG ws) (l:=List.range' a (b-a));rwa [List.length_range'] at this
theorem CJ {ws:List Int} {a b i:Nat} (h:i ∈ eQ ws a b):a<=i/\i<b:=by
 rw [eQ,List.mem_filter,List.mem_range'_1] at h;omega
def j_ (ws:List Int) (n:Nat):Bool:=decide (ws.length=(n+63)/64)&&(List.range' n (64*ws.length-n)).all fun i=> !bG ws i
def ael (c:aW):Bool:=(List.range c.ks.length).all fun i=>bG c.ws i||(c.ks.getD i 0==0&&c.vs.getD i 0==0)
def acf (c:aW):Bool:=(List.range c.cs.length).all fun k=>c.cs.getD k 0==(dD c.ws (k*c.ai.toNat) ((k+1)*c.ai.toNat):Int)
def mV (c:aW):Bool:=rM c.ai c.ks.length&&decide (c.vs.length=c.ks.length)&&j_ c.ws c.ks.length&&decide ((c.cs.length:Int)=c.ks.length/c.ai)
def fV (c:aW):Bool:=mV c&&ael c&&acf c
def A8 (c:aW):Int:=if fV c=true then 0 else 8
theorem Dv {ai many:Int} (h:rM ai many=true):4<=ai/\ai<=64/\wB ai=true/\ai<=many/\many<=65536/\many%ai=0/\wB (many/ai)=true:=by
 simp only [rM,Bool.and_eq_true,decide_eq_true_eq] at h;obtain ⟨⟨⟨⟨⟨⟨h1,h2⟩,h3⟩,h4⟩,h5⟩,h6⟩,h7⟩:=h;exact ⟨h1,h2,h3,h4,h5,h6,h7⟩
theorem dW {c:aW} (h:mV c=true):∃S M:Nat,c.ai=S/\4<=S/\S<=64/\c.ks.length=S*M/\c.vs.length=S*M/\c.cs.length=M/\1<=M/\S*M<=65536/\M<=16384/\c.ws.length=(S*M+63)/64/\wB (S:Int)=true/\wB (M:Int)=true/\∀i,S*M<=i->bG c.ws i=false:=by
 simp only [mV,Bool.and_eq_true,decide_eq_true_eq] at h;obtain ⟨⟨⟨h1,h2⟩,h3⟩,h4⟩:=h;obtain ⟨f1,f2,f3,f4,f5,f6,f7⟩:=Dv h1;simp only [j_,Bool.and_eq_true,decide_eq_true_eq] at h3;obtain ⟨h5,h6⟩:=h3;obtain ⟨S,hS⟩:∃S:Nat,c.ai=S:=⟨c.ai.toNat,by omega⟩
 rw [hS] at f1 f2 f3 f4 f6 f7 h4;have hn:c.ks.length=S*c.cs.length:=by
  have e:=Int.emod_add_mul_ediv (c.ks.length:Int) S;rw [f6,<-h4] at e;have e2:((S*c.cs.length:Nat):Int)=(c.ks.length:Int):=by push_cast;omega
  omega
 rw [<-h4] at f7;have hM:1<=c.cs.length:=by
  rcases Nat.eq_zero_or_pos c.cs.length with e|e
  . rw [e] at f7;cases f7
  . exact e
 have hM2:c.cs.length<=16384:=by
  have h9:4*c.cs.length<=S*c.cs.length:=Nat.mul_le_mul_right _ (by omega);omega
 refine ⟨S,c.cs.length,hS,by omega,by omega,hn,by omega,rfl,hM,by omega,hM2,by rw [<-hn];exact h5,f3,f7,fun i hi=> ?_⟩;by_cases hi2:i<64*c.ws.length
 . have:=List.all_eq_true.1 h6 i (List.mem_range'_1.2 (by omega));simpa using this
 . rw [bG,List.getD_eq_getElem?_getD,List.getElem?_eq_none (by omega)];exact qc _
def b_ (c:aW) (a b:Nat):List (Int×Int):=(eQ c.ws a b).map fun i=>(c.ks.getD i 0,c.vs.getD i 0)
def AQ (ws:List Int) (a k:Nat):Int:=if 64*k<a then wQ (ws.getD k 0) (a-64*k) else ws.getD k 0
def cutV (ws:List Int) (a b k:Nat):Int:=if b<64*k+64 then z_ (AQ ws a k) (64*k+64-b) else AQ ws a k
theorem Hz {ws:List Int} (h:fB ws) (a k:Nat):0<=AQ ws a k/\AQ ws a k<18446744073709551616:=by
 have:=h.get k;unfold AQ;split
 . have:=J6 (x:=ws.getD k 0) (by omega) (a-64*k);omega
 . exact this
theorem Hy {ws:List Int} (h:fB ws) {a b k:Nat} (hb:64*k<=b):0<=cutV ws a b k/\cutV ws a b k<18446744073709551616:=by
 have:=Hz h a k;unfold cutV;split
 . exact WL this.1 this.2 (by omega)
 . exact this
theorem Qr (ws:List Int) (k:Nat) {j:Nat} (hj:j<64):bG ws (64*k+j)=je (ws.getD k 0) j:=by
 rw [bG,show (64*k+j)/64=k by omega,show (64*k+j)%64=j by omega]
def JQ (ws:List Int) (a b i:Nat):Bool:=bG ws i&&(decide (a<=i)&&decide (i<b))
theorem sJ {ws:List Int} (h:fB ws) {a b k j:Nat} (hb:64*k<=b) (hj:j<64):je (cutV ws a b k) j=JQ ws a b (64*k+j):=by
 have h1:=h.get k;have h2:=Hz h a k;have e1:je (AQ ws a k) j=(bG ws (64*k+j)&&decide (a<=64*k+j)):=by
  rw [Qr ws k hj];unfold AQ;split
  . rw [Fv h1.1];congr 1
    rw [decide_eq_decide];omega
  . rw [decide_eq_true (by omega),Bool.and_true]
 unfold cutV JQ;split
 . rw [Ti h2.1 (by omega),e1,Bool.and_assoc];congr 2
   rw [decide_eq_decide];omega
 . rw [e1,decide_eq_true (by omega:64*k+j<b),Bool.and_true]
theorem Rt {ws:List Int} (h:fB ws) {a b k:Nat} (hb:64*k<=b):wC (cutV ws a b k)=(List.range 64).countP fun j=>JQ ws a b (64*k+j):=by
 unfold wC;apply List.countP_congr;intro j hj;rw [List.mem_range] at hj;rw [sJ h hb hj]
def Eu (ws:List Int) (a b m:Nat):Nat:=((List.range' (a/64) m).map fun k=>wC (cutV ws a b k)).sum
theorem Fz (ws:List Int) (a b:Nat):Eu ws a b 0=0:=rfl
theorem FB (ws:List Int) (a b m:Nat):Eu ws a b (m+1)=Eu ws a b m+wC (cutV ws a b (a/64+m)):=by
 unfold Eu;rw [List.range'_concat,List.map_append,List.sum_append];simp
theorem Ov (g:Nat->Bool) (s:Nat) (hs:∀i,i<64*s->g i=false):∀m,(List.range (64*(s+m))).countP g=((List.range' s m).map fun k=>(List.range 64).countP fun j=>g (64*k+j)).sum:=by
 intro m;induction m with
 | zero=>
  simp only [Nat.add_zero,List.range'_zero,List.map_nil,List.sum_nil];rw [List.countP_eq_zero];intro i hi;rw [List.mem_range] at hi;simp [hs i hi]
 | succ m ih=>
  rw [show 64*(s+(m+1))=64*(s+m)+64 by omega,List.range_add,List.countP_append,ih,List.range'_concat,List.map_append,List.sum_append,List.countP_map];simp only [List.map_cons,List.map_nil,List.sum_cons,List.sum_nil,Nat.add_zero,Nat.one_mul];rfl
theorem ace (ws:List Int) {a b n:Nat} (h1:a<=b) (h2:b<=n):(List.range n).countP (JQ ws a b)=dD ws a b:=by
 have e:List.range n=List.range' 0 a++(List.range' a (b-a)++List.range' b (n-b)):=by
  have e1:=List.range'_append (s:=a) (m:=b-a) (n:=n-b) (step:=1);have e2:=List.range'_append (s:=0) (m:=a) (n:=n-a) (step:=1);simp only [Nat.one_mul,Nat.zero_add] at e1 e2;rw [show a+(b-a)=b by omega,show b-a+(n-b)=n-a by omega] at e1;rw [show a+(n-a)=n by omega] at e2;rw [e1,e2,List.range_eq_range']
 rw [e,List.countP_append,List.countP_append];have z1:(List.range' 0 a).countP (JQ ws a b)=0:=by
  rw [List.countP_eq_zero];intro i hi;have:=List.mem_range'_1.1 hi;simp [JQ,show ¬a<=i by omega]
 have z2:(List.range' b (n-b)).countP (JQ ws a b)=0:=by
  rw [List.countP_eq_zero];intro i hi;have:=List.mem_range'_1.1 hi;simp [JQ,show ¬i<b by omega]
 have z3:(List.range' a (b-a)).countP (JQ ws a b)=dD ws a b:=by
  apply List.countP_congr;intro i hi;have:=List.mem_range'_1.1 hi;simp [JQ,show a<=i by omega,show i<b by omega]
 omega
theorem WP {ws:List Int} (h:fB ws) {a b:Nat} (hab:a<=b):Eu ws a b ((b+63)/64-a/64)=dD ws a b:=by
 rw [<-ace ws hab (show b<=64*(a/64+((b+63)/64-a/64)) by omega),Ov (JQ ws a b) (a/64) (fun i hi=>by simp [JQ,show ¬a<=i by omega]),Eu];congr 1
 apply List.map_congr_left;intro k hk;have:=List.mem_range'_1.1 hk;exact Rt h (by omega)
theorem Zz {ws:List Int} (a b m:Nat):Eu ws a b m<=64*m:=by
 induction m with
 | zero=>rw [Fz];omega
 | succ m ih=>rw [FB];have:=GH (cutV ws a b (a/64+m));omega
def og (ws:List Int) (a b:Nat):List (Array Value):=(List.range' (a/64) ((b+63)/64-a/64)).map fun k=> #[.int .i64 ((64*k:Nat):Int),.int .u64 (cutV ws a b k)]
theorem oC (ws:List Int) (a b:Nat):(og ws a b).length=(b+63)/64-a/64:=by simp [og]
theorem tV (ws:List Int) {a b k:Nat} (h:k<(b+63)/64-a/64):(og ws a b).getD k #[]= #[.int .i64 ((64*(a/64+k):Nat):Int),.int .u64 (cutV ws a b (a/64+k))]:=by
 rw [List.getD_eq_getElem?_getD,og,List.getElem?_map,List.getElem?_eq_getElem (by simpa using h)];simp
theorem Ju (ws:List Int) (a:Nat):eQ ws a a=[]:=by simp [eQ]
theorem yQ {ws:List Int} {a b:Nat} (h:a<=b):eQ ws a (b+1)=eQ ws a b++if bG ws b=true then [b] else []:=by
 unfold eQ;rw [show b+1-a=b-a+1 by omega,List.range'_concat,List.filter_append];congr 1
 rw [show a+1*(b-a)=b by omega];simp [List.filter_cons]
theorem zg {ws:List Int} {a b:Nat} (h:b<=a):dD ws a b=0:=by simp [dD,show b-a=0 by omega]
theorem QQ {ws:List Int} (hu:fB ws) {n:Nat} (hl:ws.length=(n+63)/64):j_ ws n=true↔n%64=0\/ws.getD (ws.length-1) 0/2^(n%64)=0:=by
 have hg:=hu.get (ws.length-1);unfold j_;rw [decide_eq_true hl,Bool.true_and,List.all_eq_true];constructor
 . intro h;by_cases h0:n%64=0
   . exact .inl h0
   . right;rw [Jh hg.1];intro i hi;by_cases h64:i<64
     . have:=h (64*(ws.length-1)+i) (List.mem_range'_1.2 (by omega));rw [Qr _ _ h64] at this;simpa using this
     . exact zo hg.2 (by omega)
 . rintro h i hi;have hi:=List.mem_range'_1.1 hi;rcases h with h|h
   . omega
   . rw [Jh hg.1] at h;have:=h (i%64) (by omega);rw [bG,show i/64=ws.length-1 by omega,this];rfl
theorem wZ (n:Nat) (h:n<=14):1<=(2:Int)^n/\(2:Int)^n<=16384:=by
 have h1:(2:Int)^n=((2^n:Nat):Int):=by norm_cast
 have h2:2^n<=2^14:=Nat.pow_le_pow_right (by omega) h;have h3:0<2^n:=Nat.two_pow_pos n;rw [h1];omega
theorem tu (l:Int) (h1:1<=l) (h2:l<=14) (w:World):
    Calls Tryz.prog 208 #[.int .i64 l] w fun e w'=>e= .returned (.int .i64 0)/\w=w':=by
 go_enter Tryz.func208,Tryz.ntmps208
 go_wp2
 all_goals (go_ret;exact ⟨rfl,rfl⟩)
theorem BU (l:Int) (h:l<1\/14<l) (w:World):
    Calls Tryz.prog 208 #[.int .i64 l] w fun e w'=>e= .returned (.int .i64 2)/\w=w':=by
 go_enter Tryz.func208,Tryz.ntmps208
 go_wp2
 all_goals (go_ret;exact ⟨rfl,rfl⟩)
theorem Ba (l:Int) (h:l<=14):1<=(2:Int)^l.toNat/\(2:Int)^l.toNat<=16384:=wZ _ (by omega)
theorem Il (l:Int) (h1:1<=l) (h2:l<=14) (w:World):
    Calls Tryz.prog 162 #[.int .i64 l] w fun e w'=>e= .returned (.tuple #[.int .i64 (2^l.toNat-1),.int .i64 0])/\w=w':=by
 have hp:=Ba l h2;obtain ⟨hp1,hp2⟩:=hp;go_enter Tryz.func162,Tryz.ntmps162
 go_wp2_with (go_at_call 208;refine (tu _ (by omega) (by omega) _).mono ?_;rintro e w' ⟨rfl,rfl⟩)
 go_ret2
 exact ⟨rfl,rfl⟩
theorem Xq (l:Int) (h:l<1\/14<l) (w:World):
    Calls Tryz.prog 162 #[.int .i64 l] w fun e w'=>e= .returned (.tuple #[.int .i64 0,.int .i64 2])/\w=w':=by
 go_enter Tryz.func162,Tryz.ntmps162
 go_wp2_with (go_at_call 208;refine (BU _ h _).mono ?_;rintro e w' ⟨rfl,rfl⟩)
 all_goals (go_ret2;exact ⟨rfl,rfl⟩)
theorem Lp (l:Int) (h1:2<=l) (h2:l<=14) (w:World):
    Calls Tryz.prog 217 #[.int .i64 l] w fun e w'=>e= .returned (.tuple #[.int .i64 (l/2),.int .i64 ((l+1)/2),.int .i64 0])/\w=w':=by
 go_enter Tryz.func217,Tryz.ntmps217
 go_wp2_with (go_at_call 208;refine (tu _ (by omega) (by omega) _).mono ?_;rintro e w' ⟨rfl,rfl⟩)
 go_ret3
 exact ⟨rfl,rfl⟩
theorem Qz (x:Int) (h0:0<=x) (h1:x<18446744073709551616) (w:World):
    Calls Tryz.prog 104 #[.int .u64 x] w fun e w'=>e= .returned (.int .i64 (wC x))/\w=w':=by
 go_enter Tryz.func104,Tryz.ntmps104
 go_wp2
 go_ret
 refine ⟨?_,rfl⟩;show Ending.returned (.int .i64 _)=_;refine congrArg (fun z=>Ending.returned (Value.int .i64 z)) ?_;obtain ⟨n,rfl⟩:=Int.eq_ofNat_of_zero_le h0;have hn:n<18446744073709551616:=by omega
 have l1:∀b,b<256->s1 b<256:=fun b hb=>(Qp ⟨b,hb⟩).2
 have l2:∀b,b<256->s2 b<256:=fun b hb=>(FQ ⟨b,hb⟩).2.2.2.2
 have b1:=Be l1 8 n;rw [<-Qv 8 n (by omega)] at b1;have b2:=CZ 8 n;rw [<-yS l1,<-Qv 8 n (by omega),<-Xr 8 _ b1] at b2;have b3:=Q7 8 _ b2;have hs:=aer 8 n (by omega);obtain ⟨z1,z2,z3,e1,e2,e3,e4,q0,q1,q2,q3⟩:=Oj n;rw [ady hn,adx (by omega),adw (by omega),hs];have w1:IntKind.u64.wrap (((jT pop8 8 n:Nat):Int)+((jT pop8 8 n:Nat):Int)/256)=(z1:Int):=by rw [IntKind.wrap_u64];omega
 have w2:IntKind.u64.wrap ((z1:Int)+(z1:Int)/65536)=(z2:Int):=by rw [IntKind.wrap_u64];omega
 have w3:IntKind.u64.wrap ((z2:Int)+(z2:Int)/4294967296)=(z3:Int):=by rw [IntKind.wrap_u64];omega
 rw [w1,w2,w3];have w4:wrap64 (z3:Int)=z3:=IntWalk.wrap64_in _ (by omega);rw [w4,show (127:Int)=((127:Nat):Int) from rfl,sQ _ _ q3 (by omega),show 127=2^7-1 from rfl,Nat.and_two_pow_sub_one_eq_mod,Yq (by omega),Int.toNat_natCast,<-e4]
theorem yx (n:Int) (h1:n<=9223372036854775807) (w:World):
    Calls Tryz.prog 209 #[.int .i64 n] w fun e w'=>e= .returned (.bool (wB n))/\w=w':=by
 by_cases h:0<n
 . obtain ⟨m,rfl⟩:=Int.eq_ofNat_of_zero_le (show 0<=n by omega);have e2:=sQ m (m-1) (by omega) (by omega);have e3:wB (m:Int)=(((m &&& (m-1):Nat):Int)==0):=by
    unfold wB;rw [decide_eq_true h,Bool.true_and,Int.toNat_natCast,Bool.eq_iff_iff];simp
   rw [e3];go_enter Tryz.func209,Tryz.ntmps209
   go_wp2
   go_ret
   refine ⟨?_,rfl⟩;show Ending.returned (.bool _)=_;rw [show (m:Int)-1=((m-1:Nat):Int) by omega,e2]
 . rw [Py (by omega)];go_enter Tryz.func209,Tryz.ntmps209
   go_wp2
   go_ret
   exact ⟨rfl,rfl⟩
theorem JP:(Tryz.prog.info? 2).map (fun i=>(i.zero,i.size,i.bytes))=some (some (.int .i64 0),1,8):=by kernel_rfl
theorem vz (ga:Option Addr) (gc:Nat) (xs:List Int) (w:World) (hg:aQ .i64 w ga xs) (hl:xs.length<=100000):
    Calls Tryz.prog 129 #[.slice ga xs.length gc] w (yB .i64 2 w xs):=by
 have q22:∀(w:World) (a:Option Addr) (n c n' c':Nat),(binOp .eql 25 (.slice a n c) (.slice none n' c')).run Tryz.prog w= .ok (.bool a.isNone) w:=fun w a n c n' c'=>Lib.run_eql_slice_nil w _ _ a n c n' c' Tryz.underlying25
 have HG:=Lib.hid hg;clear hg;cases ga with
 | none=>
  have hx:xs=[]:=Cf HG.out;subst hx;go_enter Tryz.func129,Tryz.ntmps129
  go_wp2
  go_ret
  exact ⟨_,rfl,World.ownsRow_nil _ _ _ _,Below.refl _ _⟩
 | some a=>
  have HN:=Lib.hid (xH HG.out);go_enter Tryz.func129,Tryz.ntmps129
  go_wp2_with (at_builtin;refine nU (.tmp 5) (.tmp 6) 25 2 (.int .i64 0) 1 8 Tryz.underlying25 JP rfl (by decide) (by decide) w.heap.size _ 0 [] (some a) xs.length gc (xs.map (Value.int .i64)) (World.ownsRow_made w #[] 0 (Nat.le_refl _) (Nat.zero_le _) rfl) (by simp) (fun h=>by cases h) (fun ad h j u hj=>Lib.cell?_alloc_some _ (HN.out ad h j u hj)) (numCells _) (by omega) (by simp) rfl rfl rfl rfl ?_;intro v' w1 hown hgrow _)
  go_wp2
  go_ret
  refine ⟨v',rfl,by simpa using hown,?_⟩;exact ((Below.refl _ w).alloc (Nat.le_refl _) _).grown hgrow (by simp) (by intro k hk;simp [Value.ownBlock] at hk;omega)
theorem Sz:(Tryz.prog.info? 3).map (fun i=>(i.zero,i.size,i.bytes))=some (some (.int .i64 0),1,8):=by kernel_rfl
theorem F9 (ga:Option Addr) (gc:Nat) (xs:List Int) (w:World) (hg:aQ .i64 w ga xs) (hl:xs.length<=100000):
    Calls Tryz.prog 130 #[.slice ga xs.length gc] w (yB .i64 3 w xs):=by
 have q22:∀(w:World) (a:Option Addr) (n c n' c':Nat),(binOp .eql 26 (.slice a n c) (.slice none n' c')).run Tryz.prog w= .ok (.bool a.isNone) w:=fun w a n c n' c'=>Lib.run_eql_slice_nil w _ _ a n c n' c' Tryz.underlying26
 have HG:=Lib.hid hg;clear hg;cases ga with
 | none=>
  have hx:xs=[]:=Cf HG.out;subst hx;go_enter Tryz.func130,Tryz.ntmps130
  go_wp2
  go_ret
  exact ⟨_,rfl,World.ownsRow_nil _ _ _ _,Below.refl _ _⟩
 | some a=>
  have HN:=Lib.hid (xH HG.out);go_enter Tryz.func130,Tryz.ntmps130
  go_wp2_with (at_builtin;refine nU (.tmp 5) (.tmp 6) 26 3 (.int .i64 0) 1 8 Tryz.underlying26 Sz rfl (by decide) (by decide) w.heap.size _ 0 [] (some a) xs.length gc (xs.map (Value.int .i64)) (World.ownsRow_made w #[] 0 (Nat.le_refl _) (Nat.zero_le _) rfl) (by simp) (fun h=>by cases h) (fun ad h j u hj=>Lib.cell?_alloc_some _ (HN.out ad h j u hj)) (numCells _) (by omega) (by simp) rfl rfl rfl rfl ?_;intro v' w1 hown hgrow _)
  go_wp2
  go_ret
  refine ⟨v',rfl,by simpa using hown,?_⟩;exact ((Below.refl _ w).alloc (Nat.le_refl _) _).grown hgrow (by simp) (by intro k hk;simp [Value.ownBlock] at hk;omega)
end
end Go.Proofs.YtbedhbpgnfffmaaGreatDoor

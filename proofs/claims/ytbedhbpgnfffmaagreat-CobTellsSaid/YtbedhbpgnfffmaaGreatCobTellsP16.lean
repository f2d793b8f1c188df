/- Merged: CbBox, CbBs, PmSl. -/
import Derived.Test.YtbedhbpgnfffmaaGreatCobTellsP15
import Derived.Test.YtbedhbpgnfffmaaGreatCobTellsP10
import Derived.Test.YtbedhbpgnfffmaaGreatCobTellsP9
namespace Go.Proofs.YtbedhbpgnfffmaaGreat
set_option maxRecDepth 100000
set_option maxHeartbeats 40000000
set_option linter.unusedVariables false
set_option linter.unusedSimpArgs false
section
open Go.RowKit Go.Shelf Go.Sort
theorem exec_load_mid {P:Program} {o:Oper} {a:Act} {w:World} (ty:TypeId) (x:Operand) (b n:Nat) (vs:List Value) {d:TypeDesc} (ho:o.op= .load ty x) (hx:a.eval x= .pointer (some ⟨b,n,none⟩))
    (hu:P.underlying ty=some d) (hd:d.isRow=true) (hi:(P.info? ty).map (·.size)=some vs.length) (hc:∀j v,vs[j]? =some v→w.cell? ⟨b,n+j,none⟩=some v):
    (execOp a.eval o).run P w= .ok (.value (.agg vs.toArray)) w:=by
 have:=run_loadVar_mid w b n ty vs d hc hu hd hi;unfold execOp;simp only [ho,hx,Instr.loadAt,Instr.sureAddr,Sem.run_bind,Sem.run_pure,Result.andThen_ok,this]
theorem wpl_load_mid {P:Program} {w:World} {ops:Array Oper} {rest:List Oper} {o:Oper} {a:Act} {Q:Exit→Act→World→Prop} (ty:TypeId) (x:Operand) (b n:Nat) (vs:List Value) {d:TypeDesc}
    (hw:Region.wanted o (yielded ops a.tmps)=true) (ho:o.op= .load ty x) (hx:a.eval x= .pointer (some ⟨b,n,none⟩))
    (hu:P.underlying ty=some d) (hd:d.isRow=true) (hi:(P.info? ty).map (·.size)=some vs.length) (hc:∀j v,vs[j]? =some v→w.cell? ⟨b,n+j,none⟩=some v)
    (h:wpList P ops Q rest (a.put o.dst (.agg vs.toArray)) w):wpList P ops Q (o::rest) a w:=by
 refine Go.BigFrame.wpList_want hw fun K hK=> ?_
 have e:=exec_load_mid (P:=P) (o:=o) (a:=a) (w:=w) ty x b n vs ho hx hu hd hi hc;unfold Oper.wp;simp only [e];exact hK _ _ h
theorem bx_part {w:World} {b:Nat} {t:TypeId} {l vs:List Value} (h:BX w b t l) (n:Nat) (hv:(l.drop n).take vs.length=vs):∀j v,vs[j]? =some v→w.cell? ⟨b,n+j,none⟩=some v:=by
 intro j v hj;refine bx_pb h (n+j) v ?_;have hl:=(List.getElem?_eq_some_iff.1 hj).1;rw [←hj,←hv,List.getElem?_take,if_pos hl,List.getElem?_drop]
structure CobA where
 sa:SlA
 ma:Option Addr
 ca:Option Addr
 mc:Nat
 cc:Nat
def cfL (c:Cfg):List Value:=[.int .u8 c.tag,.int .i64 c.most,.int .i64 c.seg,.int .i64 c.least,.int .i64 c.den,.int .i64 c.ll,.int .i64 c.rl,.int .i64 c.rh,.int .i64 c.lh]
def slL (s:SlC) (a:SlA):List Value:=[.int .i64 s.seg,.slice a.wa s.ws.length a.wc,.slice a.ka s.ks.length a.kc,.slice a.va s.vs.length a.vc,.slice a.ca s.cs.length a.cc,.int .u64 s.laid]
def pmL (c:Cfg) (s:SlC) (a:SlA):List Value:=[.int .u8 c.tag,.int .i64 c.most,.int .i64 c.seg,.int .i64 c.least,.int .i64 c.den,.int .i64 c.ll,.int .i64 c.rl,.int .i64 c.rh,.int .i64 c.lh,.int .i64 s.seg,.slice a.wa s.ws.length a.wc,.slice a.ka s.ks.length a.kc,.slice a.va s.vs.length a.vc,.slice a.ca s.cs.length a.cc,.int .u64 s.laid]
def ixL (r:CobR) (A:CobA):List Value:=[.int .i64 r.l,.slice A.ma r.ms.length A.mc,.slice A.ca r.cs.length A.cc]
def cobL (r:CobR) (A:CobA):List Value:=[.int .u8 r.c.tag,.int .i64 r.c.most,.int .i64 r.c.seg,.int .i64 r.c.least,.int .i64 r.c.den,.int .i64 r.c.ll,.int .i64 r.c.rl,.int .i64 r.c.rh,.int .i64 r.c.lh,.int .i64 r.s.seg,.slice A.sa.wa r.s.ws.length A.sa.wc,.slice A.sa.ka r.s.ks.length A.sa.kc,.slice A.sa.va r.s.vs.length A.sa.vc,.slice A.sa.ca r.s.cs.length A.sa.cc,.int .u64 r.s.laid,.int .i64 r.l,.slice A.ma r.ms.length A.mc,.slice A.ca r.cs.length A.cc]
def cobV (r:CobR) (A:CobA):Value:= .agg (cobL r A).toArray
def prL (p:Int×Int):List Value:=[.int .i64 p.1,.int .i64 p.2]
def prV (p:Int×Int):Value:= .agg (prL p).toArray
def zcobL:List Value:=[.int .u8 0,.int .i64 0,.int .i64 0,.int .i64 0,.int .i64 0,.int .i64 0,.int .i64 0,.int .i64 0,.int .i64 0,.int .i64 0,.slice none 0 0,.slice none 0 0,.slice none 0 0,.slice none 0 0,.int .u64 0,.int .i64 0,.slice none 0 0,.slice none 0 0]
theorem cobL_one (r:CobR) (A:CobA):(cobL r A).toArray.all (·.oneCell')=true:=by simp [cobL,Value.oneCell']
theorem pmL_one (c:Cfg) (s:SlC) (a:SlA):(pmL c s a).toArray.all (·.oneCell')=true:=by simp [pmL,Value.oneCell']
theorem prL_one (p:Int×Int):(prL p).toArray.all (·.oneCell')=true:=by simp [prL,Value.oneCell']
structure SzC (r:CobR):Prop where
 w:r.s.ws.length≤100000
 k:r.s.ks.length≤100000
 v:r.s.vs.length≤100000
 c:r.s.cs.length≤8192
 m:r.ms.length≤100000
 n:r.cs.length≤100000
 u:U64s r.s.ws
structure InC (w:World) (r:CobR) (A:CobA):Prop where
 sl:SlIn w r.s A.sa
 cc:r.s.cs.length≤A.sa.cc
 m:IsRow .i64 w A.ma r.ms
 n:IsRow .i64 w A.ca r.cs
 sz:SzC r
theorem InC.below {w w':World} {r:CobR} {A:CobA} (h:InC w r A) (hb:Below w.heap.size w w'):InC w' r A:=⟨h.sl.below hb,h.cc,h.m.below hb,h.n.below hb,h.sz⟩
structure OwC (w:World) (B M:Nat) (r:CobR) (A:CobA):Prop where
 o1:w.ownsRow B 27 1 (.slice A.sa.wa r.s.ws.length A.sa.wc) r.s.ws.length (r.s.ws.map (Value.int .u64))
 o2:w.ownsRow B 2 1 (.slice A.sa.ka r.s.ks.length A.sa.kc) r.s.ks.length (r.s.ks.map (Value.int .i64))
 o3:w.ownsRow B 2 1 (.slice A.sa.va r.s.vs.length A.sa.vc) r.s.vs.length (r.s.vs.map (Value.int .i64))
 o4:w.ownsRow B 3 1 (.slice A.sa.ca r.s.cs.length A.sa.cc) r.s.cs.length (r.s.cs.map (Value.int .i64))
 o5:w.ownsRow B 2 1 (.slice A.ma r.ms.length A.mc) r.ms.length (r.ms.map (Value.int .i64))
 o6:w.ownsRow B 3 1 (.slice A.ca r.cs.length A.cc) r.cs.length (r.cs.map (Value.int .i64))
 m1:∀k,(Value.slice A.sa.wa r.s.ws.length A.sa.wc).ownBlock=some k→k<M
 m2:∀k,(Value.slice A.sa.ka r.s.ks.length A.sa.kc).ownBlock=some k→k<M
 m3:∀k,(Value.slice A.sa.va r.s.vs.length A.sa.vc).ownBlock=some k→k<M
 m4:∀k,(Value.slice A.sa.ca r.s.cs.length A.sa.cc).ownBlock=some k→k<M
 m5:∀k,(Value.slice A.ma r.ms.length A.mc).ownBlock=some k→k<M
 m6:∀k,(Value.slice A.ca r.cs.length A.cc).ownBlock=some k→k<M
 sz:SzC r
theorem OwC.below {w w':World} {B M:Nat} {r:CobR} {A:CobA} (h:OwC w B M r A) (hb:Below w.heap.size w w'):OwC w' B M r A:=
  ⟨owns_below h.o1 hb,owns_below h.o2 hb,owns_below h.o3 hb,owns_below h.o4 hb,owns_below h.o5 hb,owns_below h.o6 hb,h.m1,h.m2,h.m3,h.m4,h.m5,h.m6,h.sz⟩
theorem OwC.row {w w':World} {B M b:Nat} {r:CobR} {A:CobA} (h:OwC w B M r A) (hr:RowR b w w') (hd:b<B∨M≤b):OwC w' B M r A:=
  ⟨owns_heap h.o1 (fun k hk=>hr.other k (by have h1:=(h.o1.lt k hk).1;have h2:=h.m1 k hk;omega)),owns_heap h.o2 (fun k hk=>hr.other k (by have h1:=(h.o2.lt k hk).1;have h2:=h.m2 k hk;omega)),owns_heap h.o3 (fun k hk=>hr.other k (by have h1:=(h.o3.lt k hk).1;have h2:=h.m3 k hk;omega)),owns_heap h.o4 (fun k hk=>hr.other k (by have h1:=(h.o4.lt k hk).1;have h2:=h.m4 k hk;omega)),owns_heap h.o5 (fun k hk=>hr.other k (by have h1:=(h.o5.lt k hk).1;have h2:=h.m5 k hk;omega)),owns_heap h.o6 (fun k hk=>hr.other k (by have h1:=(h.o6.lt k hk).1;have h2:=h.m6 k hk;omega)),h.m1,h.m2,h.m3,h.m4,h.m5,h.m6,h.sz⟩
theorem OwC.base {w:World} {B B' M:Nat} {r:CobR} {A:CobA} (h:OwC w B M r A) (hB:B'≤B):OwC w B' M r A:=
  ⟨owns_base h.o1 hB,owns_base h.o2 hB,owns_base h.o3 hB,owns_base h.o4 hB,owns_base h.o5 hB,owns_base h.o6 hB,h.m1,h.m2,h.m3,h.m4,h.m5,h.m6,h.sz⟩
theorem OwC.inC {w:World} {B M:Nat} {r:CobR} {A:CobA} (h:OwC w B M r A):InC w r A:=by
 obtain ⟨y,m,hy,i1,-,-,-,-⟩:=row_of_owns h.o1;cases hy;obtain ⟨y,m,hy,i2,-,-,-,-⟩:=row_of_owns h.o2;cases hy;obtain ⟨y,m,hy,i3,-,-,-,-⟩:=row_of_owns h.o3;cases hy;obtain ⟨y,m,hy,i4,-,-,hc,-⟩:=row_of_owns h.o4;cases hy;obtain ⟨y,m,hy,i5,-,-,-,-⟩:=row_of_owns h.o5;cases hy;obtain ⟨y,m,hy,i6,-,-,-,-⟩:=row_of_owns h.o6;cases hy;exact ⟨⟨i1,i2,i3,i4,h.sz.u⟩,hc,i5,i6,h.sz⟩
def FrC (w:World) (r:CobR) (x:Int) (e:Ending) (w':World):Prop:=∃A,e= .returned (.tuple #[cobV r A,.int .i64 x])∧OwC w' w.heap.size w'.heap.size r A∧Below w.heap.size w w'
def FrC1 (w:World) (r:CobR) (e:Ending) (w':World):Prop:=∃A,e= .returned (cobV r A)∧OwC w' w.heap.size w'.heap.size r A∧Below w.heap.size w w'
structure OwP (w:World) (B:Nat) (s:SlC) (a:SlA):Prop where
 o1:w.ownsRow B 27 1 (.slice a.wa s.ws.length a.wc) s.ws.length (s.ws.map (Value.int .u64))
 o2:w.ownsRow B 2 1 (.slice a.ka s.ks.length a.kc) s.ks.length (s.ks.map (Value.int .i64))
 o3:w.ownsRow B 2 1 (.slice a.va s.vs.length a.vc) s.vs.length (s.vs.map (Value.int .i64))
 o4:w.ownsRow B 3 1 (.slice a.ca s.cs.length a.cc) s.cs.length (s.cs.map (Value.int .i64))
structure OwI (w:World) (B:Nat) (r:CobR) (A:CobA):Prop where
 o5:w.ownsRow B 2 1 (.slice A.ma r.ms.length A.mc) r.ms.length (r.ms.map (Value.int .i64))
 o6:w.ownsRow B 3 1 (.slice A.ca r.cs.length A.cc) r.cs.length (r.cs.map (Value.int .i64))
theorem OwP.below {w w':World} {B:Nat} {s:SlC} {a:SlA} (h:OwP w B s a) (hb:Below w.heap.size w w'):OwP w' B s a:=⟨owns_below h.o1 hb,owns_below h.o2 hb,owns_below h.o3 hb,owns_below h.o4 hb⟩
theorem OwP.base {w:World} {B B':Nat} {s:SlC} {a:SlA} (h:OwP w B s a) (hb:B'≤B):OwP w B' s a:=⟨owns_base h.o1 hb,owns_base h.o2 hb,owns_base h.o3 hb,owns_base h.o4 hb⟩
theorem OwI.below {w w':World} {B:Nat} {r:CobR} {A:CobA} (h:OwI w B r A) (hb:Below w.heap.size w w'):OwI w' B r A:=⟨owns_below h.o5 hb,owns_below h.o6 hb⟩
theorem OwI.base {w:World} {B B':Nat} {r:CobR} {A:CobA} (h:OwI w B r A) (hb:B'≤B):OwI w B' r A:=⟨owns_base h.o5 hb,owns_base h.o6 hb⟩
theorem OwP.row {w w':World} {B b:Nat} {s:SlC} {a:SlA} (h:OwP w B s a) (hr:RowR b w w') (hd:b<B):OwP w' B s a:=
  ⟨owns_heap h.o1 (fun k hk=>hr.other k (by have h1:=(h.o1.lt k hk).1;omega)),owns_heap h.o2 (fun k hk=>hr.other k (by have h1:=(h.o2.lt k hk).1;omega)),owns_heap h.o3 (fun k hk=>hr.other k (by have h1:=(h.o3.lt k hk).1;omega)),owns_heap h.o4 (fun k hk=>hr.other k (by have h1:=(h.o4.lt k hk).1;omega))⟩
theorem OwI.row {w w':World} {B b:Nat} {r:CobR} {A:CobA} (h:OwI w B r A) (hr:RowR b w w') (hd:b<B):OwI w' B r A:=
  ⟨owns_heap h.o5 (fun k hk=>hr.other k (by have h1:=(h.o5.lt k hk).1;omega)),owns_heap h.o6 (fun k hk=>hr.other k (by have h1:=(h.o6.lt k hk).1;omega))⟩
theorem OwP.sl {w:World} {B:Nat} {s:SlC} {a:SlA} (h:OwP w B s a) (hu:U64s s.ws):SlIn w s a∧s.cs.length≤a.cc:=by
 obtain ⟨y,m,hy,i1,-,-,-,-⟩:=row_of_owns h.o1;cases hy;obtain ⟨y,m,hy,i2,-,-,-,-⟩:=row_of_owns h.o2;cases hy;obtain ⟨y,m,hy,i3,-,-,-,-⟩:=row_of_owns h.o3;cases hy;obtain ⟨y,m,hy,i4,-,-,hc,-⟩:=row_of_owns h.o4;cases hy;exact ⟨⟨i1,i2,i3,i4,hu⟩,hc⟩
theorem OwC.of {w:World} {B:Nat} {r:CobR} {A:CobA} (h:OwP w B r.s A.sa) (k:OwI w B r A) (sz:SzC r):OwC w B w.heap.size r A:=
  ⟨h.o1,h.o2,h.o3,h.o4,k.o5,k.o6,fun q hq=>(h.o1.lt q hq).2,fun q hq=>(h.o2.lt q hq).2,fun q hq=>(h.o3.lt q hq).2,fun q hq=>(h.o4.lt q hq).2,fun q hq=>(k.o5.lt q hq).2,fun q hq=>(k.o6.lt q hq).2,sz⟩
def FrP (w:World) (c:Cfg) (s:SlC) (e:Ending) (w':World):Prop:=∃a,e= .returned (.agg (pmL c s a).toArray)∧OwP w' w.heap.size s a∧Below w.heap.size w w'
def FrP2 (w:World) (c:Cfg) (s:SlC) (x:Int) (e:Ending) (w':World):Prop:=∃a,e= .returned (.tuple #[.agg (pmL c s a).toArray,.int .i64 x])∧OwP w' w.heap.size s a∧Below w.heap.size w w'
def FrI (w:World) (r:CobR) (e:Ending) (w':World):Prop:=∃A,e= .returned (.agg (ixL r A).toArray)∧OwI w' w.heap.size r A∧Below w.heap.size w w'
def FrI2 (w:World) (r:CobR) (x:Int) (e:Ending) (w':World):Prop:=∃A,e= .returned (.tuple #[.agg (ixL r A).toArray,.int .i64 x])∧OwI w' w.heap.size r A∧Below w.heap.size w w'
theorem frP_of {w w':World} (c:Cfg) (s:SlC) {e:Ending} (h:FreshPm w c s e w'):FrP w c s e w':=by
 obtain ⟨v1,v2,v3,v4,rfl,p1,p2,p3,p4,hb⟩:=h;obtain ⟨a1,k1,rfl,-⟩:=row_of_owns p1;obtain ⟨a2,k2,rfl,-⟩:=row_of_owns p2;obtain ⟨a3,k3,rfl,-⟩:=row_of_owns p3;obtain ⟨a4,k4,rfl,-⟩:=row_of_owns p4;exact ⟨⟨a1,a2,a3,a4,k1,k2,k3,k4⟩,rfl,⟨p1,p2,p3,p4⟩,hb⟩
theorem frP2_of {w w':World} (c:Cfg) (s:SlC) (x:Int) {e:Ending} (h:FreshPm2 w c s (.int .i64 x) e w'):FrP2 w c s x e w':=by
 obtain ⟨v1,v2,v3,v4,rfl,p1,p2,p3,p4,hb⟩:=h;obtain ⟨a1,k1,rfl,-⟩:=row_of_owns p1;obtain ⟨a2,k2,rfl,-⟩:=row_of_owns p2;obtain ⟨a3,k3,rfl,-⟩:=row_of_owns p3;obtain ⟨a4,k4,rfl,-⟩:=row_of_owns p4;exact ⟨⟨a1,a2,a3,a4,k1,k2,k3,k4⟩,rfl,⟨p1,p2,p3,p4⟩,hb⟩
theorem frPN_of {w w':World} (c:Cfg) (s:SlC) {e:Ending} (h:FreshPmN w c s e w'):FrP w c s e w':=by
 obtain ⟨v1,v2,v3,v4,h0,p1,p2,p3,p4,hb,-⟩:=h;exact frP_of c s ⟨v1,v2,v3,v4,h0,p1,p2,p3,p4,hb⟩
theorem frI_of {w w':World} (r:CobR) {e:Ending} (h:FreshIx w r.l r.ms r.cs e w'):FrI w r e w':=by
 obtain ⟨v1,v2,rfl,p1,p2,hb⟩:=h;obtain ⟨a1,k1,rfl,-⟩:=row_of_owns p1;obtain ⟨a2,k2,rfl,-⟩:=row_of_owns p2;exact ⟨⟨⟨none,none,none,none,0,0,0,0⟩,a1,a2,k1,k2⟩,rfl,⟨p1,p2⟩,hb⟩
theorem frI2_of {w w':World} (r:CobR) (x:Int) {e:Ending} (h:FreshIx2 w r.l r.ms r.cs (.int .i64 x) e w'):FrI2 w r x e w':=by
 obtain ⟨v1,v2,rfl,p1,p2,hb⟩:=h;obtain ⟨a1,k1,rfl,-⟩:=row_of_owns p1;obtain ⟨a2,k2,rfl,-⟩:=row_of_owns p2;exact ⟨⟨⟨none,none,none,none,0,0,0,0⟩,a1,a2,k1,k2⟩,rfl,⟨p1,p2⟩,hb⟩
def zpmL:List Value:=[.int .u8 0,.int .i64 0,.int .i64 0,.int .i64 0,.int .i64 0,.int .i64 0,.int .i64 0,.int .i64 0,.int .i64 0,.int .i64 0,.slice none 0 0,.slice none 0 0,.slice none 0 0,.slice none 0 0,.int .u64 0]
def zixL:List Value:=[.int .i64 0,.slice none 0 0,.slice none 0 0]
def BXs (w:World):List (Nat×TypeId×List Value)→Prop
  | []=>True
  | x::l=>BX w x.1 x.2.1 x.2.2∧BXs w l
theorem BXs.cons' {w:World} {b:Nat} {t:TypeId} {vs:List Value} {l:List (Nat×TypeId×List Value)} (k:BXs w l) (h:BX w b t vs):BXs w ((b,t,vs)::l):=⟨h,k⟩
theorem BXs.at {w:World} {l:List (Nat×TypeId×List Value)} (h:BXs w l) (i:Nat) {x:Nat×TypeId×List Value} (hx:l[i]? =some x):BX w x.1 x.2.1 x.2.2:=by
 induction l generalizing i with
 | nil=>simp at hx
 | cons y l ih=>
  cases i with
  | zero=>simp at hx;subst hx;exact h.1
  | succ i=>exact ih h.2 i (by simpa using hx)
theorem BXs.below {w w':World} {l:List (Nat×TypeId×List Value)} (h:BXs w l) (hb:Below w.heap.size w w'):BXs w' l:=by
 induction l with
 | nil=>trivial
 | cons y l ih=>exact ⟨bx_below hb h.1 (bx_lt h.1),ih h.2⟩
theorem bxs_more {w:World} {l:List (Nat×TypeId×List Value)} (h:BXs w l) (vs:List Value) (t:TypeId):BXs (w.alloc (.cells vs.toArray t)) ((w.heap.size,t,vs)::l):=⟨bx_new _ _ _,h.below (br.alloc (Nat.le_refl _) _)⟩
theorem bxs_one {w w0:World} {l1:List Value} {t1:TypeId} (h:w.alloc (.cells l1.toArray t1)=w0):
    Below w.heap.size w w0∧BXs w0 [(w.heap.size,t1,l1)]:=by
 subst h;have x1:BXs (w.alloc (.cells l1.toArray t1)) [(w.heap.size,t1,l1)]:=⟨bx_new _ _ _,trivial⟩
 have b1:Below w.heap.size w (w.alloc (.cells l1.toArray t1)):=br.alloc (Nat.le_refl _) _;have z1:(w.alloc (.cells l1.toArray t1)).heap.size=w.heap.size+1:=by simp
 exact ⟨b1,x1⟩
theorem bxs_two {w w0:World} {l1 l2:List Value} {t1 t2:TypeId} (h:(w.alloc (.cells l1.toArray t1)).alloc (.cells l2.toArray t2)=w0):
    Below w.heap.size w w0∧BXs w0 [(w.heap.size+1,t2,l2),(w.heap.size,t1,l1)]:=by
 subst h;have x1:BXs (w.alloc (.cells l1.toArray t1)) [(w.heap.size,t1,l1)]:=⟨bx_new _ _ _,trivial⟩
 have b1:Below w.heap.size w (w.alloc (.cells l1.toArray t1)):=br.alloc (Nat.le_refl _) _;have z1:(w.alloc (.cells l1.toArray t1)).heap.size=w.heap.size+1:=by simp
 have x2:=bxs_more x1 l2 t2;have b2:=(b1.alloc (by rw [z1];omega) (.cells l2.toArray t2))
 rw [z1] at x2;exact ⟨b2,x2⟩
theorem bxs_three {w w0:World} {l1 l2 l3:List Value} {t1 t2 t3:TypeId} (h:((w.alloc (.cells l1.toArray t1)).alloc (.cells l2.toArray t2)).alloc (.cells l3.toArray t3)=w0):
    Below w.heap.size w w0∧BXs w0 [(w.heap.size+1+1,t3,l3),(w.heap.size+1,t2,l2),(w.heap.size,t1,l1)]:=by
 subst h;have x1:BXs (w.alloc (.cells l1.toArray t1)) [(w.heap.size,t1,l1)]:=⟨bx_new _ _ _,trivial⟩
 have b1:Below w.heap.size w (w.alloc (.cells l1.toArray t1)):=br.alloc (Nat.le_refl _) _;have z1:(w.alloc (.cells l1.toArray t1)).heap.size=w.heap.size+1:=by simp
 have x2:=bxs_more x1 l2 t2;have b2:=(b1.alloc (by rw [z1];omega) (.cells l2.toArray t2))
 rw [z1] at x2;have z2:((w.alloc (.cells l1.toArray t1)).alloc (.cells l2.toArray t2)).heap.size=w.heap.size+1+1:=by simp
 have x3:=bxs_more x2 l3 t3;have b3:=(b2.alloc (by rw [z2];omega) (.cells l3.toArray t3))
 rw [z2] at x3;exact ⟨b3,x3⟩
theorem bxs_four {w w0:World} {l1 l2 l3 l4:List Value} {t1 t2 t3 t4:TypeId} (h:(((w.alloc (.cells l1.toArray t1)).alloc (.cells l2.toArray t2)).alloc (.cells l3.toArray t3)).alloc (.cells l4.toArray t4)=w0):
    Below w.heap.size w w0∧BXs w0 [(w.heap.size+1+1+1,t4,l4),(w.heap.size+1+1,t3,l3),(w.heap.size+1,t2,l2),(w.heap.size,t1,l1)]:=by
 subst h;have x1:BXs (w.alloc (.cells l1.toArray t1)) [(w.heap.size,t1,l1)]:=⟨bx_new _ _ _,trivial⟩
 have b1:Below w.heap.size w (w.alloc (.cells l1.toArray t1)):=br.alloc (Nat.le_refl _) _;have z1:(w.alloc (.cells l1.toArray t1)).heap.size=w.heap.size+1:=by simp
 have x2:=bxs_more x1 l2 t2;have b2:=(b1.alloc (by rw [z1];omega) (.cells l2.toArray t2))
 rw [z1] at x2;have z2:((w.alloc (.cells l1.toArray t1)).alloc (.cells l2.toArray t2)).heap.size=w.heap.size+1+1:=by simp
 have x3:=bxs_more x2 l3 t3;have b3:=(b2.alloc (by rw [z2];omega) (.cells l3.toArray t3))
 rw [z2] at x3;have z3:(((w.alloc (.cells l1.toArray t1)).alloc (.cells l2.toArray t2)).alloc (.cells l3.toArray t3)).heap.size=w.heap.size+1+1+1:=by simp
 have x4:=bxs_more x3 l4 t4;have b4:=(b3.alloc (by rw [z3];omega) (.cells l4.toArray t4))
 rw [z3] at x4;exact ⟨b4,x4⟩
end
section
open Go.RowKit
theorem Equal_u64 (a b:Option Addr) (ca cb:Nat) (xs ys:List Int) (w:World) (ha:IsRow .u64 w a xs) (hb:IsRow .u64 w b ys) (hm:xs.length≤1000000000):
    Calls Tryz.prog 139 #[.slice a xs.length ca,.slice b ys.length cb] w fun e w'=>e= .returned (.bool (decide (xs=ys)))∧∃n,w'=w.drewN n:=by
 by_cases hlen:xs.length=ys.length
 · have hl1:((xs.length:Int) != (ys.length:Int))=false:=by simp [hlen]
   have HL:=hid hlen;clear hlen;have HA:=hid ha;have HB:=hid hb;clear ha hb;go_enter Tryz.func139,Tryz.ntmps139
   go_wp2
   go_loopg [13] xs.length (fun g i wr=>∃(k n:Nat),k+g=xs.length∧i= .int .i64 k∧wr=w.drewN n∧xs.take k=ys.take k)
   case atStart=>exact ⟨0,0,by omega,rfl,rfl,by simp⟩
   case round=>
    obtain ⟨k,n,hk,rfl,rfl,ht⟩:=hrel;have HT:=hid ht;clear ht;by_cases hlt:k<xs.length
    · have hlt2 : k<ys.length:=by rw [←HL.out];exact hlt
      obtain ⟨b1,o1,x,rfl,hx,h1,_⟩:=HA.out.get hlt;obtain ⟨b2,o2,y,rfl,hy,h2,_⟩:=HB.out.get hlt2;by_cases heq:x=y
      · have he:(x != y)=false:=by simpa using heq
        have HE:=hid heq;clear heq;go_wp2
        go_quiet (fail)
        go_wp2
        go_roundg (gk-1)
        case measure=>omega
        case rel=>exact ⟨k+1,n+nq,by omega,by go_num,by simp,row_take_succ HL.out hlt HT.out (hx.out.trans (HE.out.trans hy.out.symm))⟩
      · have he : (x != y)=true:=by simpa using heq
        have HE:=hid heq;clear heq;go_wp2
        go_quiet (fail)
        go_wp2
        go_ret
        exact ⟨by have:xs≠ys:=fun h=>HE.out (by rw [←hx.out,←hy.out,h])
                  simp [this],_,World.drewN_drewN _ _ _⟩
    · go_wp2
      go_ret
      have hk2:k=xs.length:=xo;have hxy:xs=ys:=by
       have:=HT.out;rw [hk2,List.take_length,HL.out,List.take_length] at this;exact this
      exact ⟨by simp [hxy],_,rfl⟩
 · have hl1:((xs.length:Int) != (ys.length:Int))=true:=by simp;omega
   have hxy:xs≠ys:=fun h=>hlen (by rw [h])
   have HX:=hid hxy;clear ha hb hlen hxy;go_enter Tryz.func139,Tryz.ntmps139
   go_wp2
   go_ret
   exact ⟨by simp [HX.out],0,rfl⟩
theorem occSame_ok (a b:Option Addr) (ca cb:Nat) (xs ys:List Int) (w:World) (ha:IsRow .u64 w a xs) (hb:IsRow .u64 w b ys) (hm:xs.length≤1000000000):
    Calls Tryz.prog 110 #[.slice a xs.length ca,.slice b ys.length cb] w (AnsB w (.bool (decide (xs=ys)))):=by
 have EQ:=hid (ans_drewN (Equal_u64 a b ca cb xs ys w ha hb hm));generalize decide (xs=ys)=z at *;clear ha hb hm;go_enter Tryz.func110,Tryz.ntmps110
 go_wp2_with fail
 refine (EQ.out).mono ?_;rintro e w1 ⟨rfl,hb1⟩;have hz_w1:=hb1.size;try simp only [World.size_alloc,World.size_setCell] at hz_w1
 go_wp2
 go_ret
 exact ⟨rfl,hb1⟩
def sameB (s t:SlC):Bool:=decide (s.seg=t.seg)&&(decide (s.laid=t.laid)&&(decide (s.ws=t.ws)&&(decide (s.ks=t.ks)&&(decide (s.vs=t.vs)&&decide (s.cs=t.cs)))))
theorem Sm04_p0 (sg sg2 ld ld2:Int) (wa ka va ca wa' ka' va' ca':Option Addr) (wc kc vc cc wc' kc' vc' cc' lw lk lv lc lw' lk' lv' lc':Nat) (w:World) (g1:(sg==sg2)=false):
    Calls Tryz.prog 77 #[.agg #[.int .i64 sg,.slice wa lw wc,.slice ka lk kc,.slice va lv vc,.slice ca lc cc,.int .u64 ld],.agg #[.int .i64 sg2,.slice wa' lw' wc',.slice ka' lk' kc',.slice va' lv' vc',.slice ca' lc' cc',.int .u64 ld2]] w (AnsB w (.bool false)):=by
 go_enter Tryz.func77,Tryz.ntmps77
 have hB0:Below w.heap.size w ((w.alloc (.cells #[.int .i64 sg,.slice wa lw wc,.slice ka lk kc,.slice va lv vc,.slice ca lc cc,.int .u64 ld] 29)).alloc (.cells #[.int .i64 sg2,.slice wa' lw' wc',.slice ka' lk' kc',.slice va' lv' vc',.slice ca' lc' cc',.int .u64 ld2] 29)):=xbel;go_wp2
 go_ret
 exact ⟨rfl,hB0⟩
theorem Sm04_p1 (sg sg2 ld ld2:Int) (wa ka va ca wa' ka' va' ca':Option Addr) (wc kc vc cc wc' kc' vc' cc' lw lk lv lc lw' lk' lv' lc':Nat) (w:World) (g1:(sg==sg2)=true) (g2:(ld==ld2)=false):
    Calls Tryz.prog 77 #[.agg #[.int .i64 sg,.slice wa lw wc,.slice ka lk kc,.slice va lv vc,.slice ca lc cc,.int .u64 ld],.agg #[.int .i64 sg2,.slice wa' lw' wc',.slice ka' lk' kc',.slice va' lv' vc',.slice ca' lc' cc',.int .u64 ld2]] w (AnsB w (.bool false)):=by
 go_enter Tryz.func77,Tryz.ntmps77
 have hB0:Below w.heap.size w ((w.alloc (.cells #[.int .i64 sg,.slice wa lw wc,.slice ka lk kc,.slice va lv vc,.slice ca lc cc,.int .u64 ld] 29)).alloc (.cells #[.int .i64 sg2,.slice wa' lw' wc',.slice ka' lk' kc',.slice va' lv' vc',.slice ca' lc' cc',.int .u64 ld2] 29)):=xbel;go_wp2
 go_ret
 exact ⟨rfl,hB0⟩
theorem Sm04_p2 (sg sg2 ld ld2:Int) (wa ka va ca wa' ka' va' ca':Option Addr) (wc kc vc cc wc' kc' vc' cc' lw lk lv lc lw' lk' lv' lc':Nat) (w:World) (g1:(sg==sg2)=true) (g2:(ld==ld2)=true) (HW:Hid (∀W,Below w.heap.size w W→Calls Tryz.prog 111 #[.slice wa lw wc,.slice wa' lw' wc'] W (AnsB W (.bool false)))):
    Calls Tryz.prog 77 #[.agg #[.int .i64 sg,.slice wa lw wc,.slice ka lk kc,.slice va lv vc,.slice ca lc cc,.int .u64 ld],.agg #[.int .i64 sg2,.slice wa' lw' wc',.slice ka' lk' kc',.slice va' lv' vc',.slice ca' lc' cc',.int .u64 ld2]] w (AnsB w (.bool false)):=by
 go_enter Tryz.func77,Tryz.ntmps77
 go_wp2_with fail
 refine (HW.out _ xbel).mono ?_;rintro e w1 ⟨rfl,hb1⟩;have hz_w1:=hb1.size;try simp only [World.size_alloc,World.size_setCell] at hz_w1
 have hh:=bc6 hb1 (au6 (al6 (b:=w.heap.size) xsi));obtain ⟨c_t0,c_t1,c_t2,c_t3,c_t4,c_t5⟩:=hh;have z_t:=blt hb1 (auz (alz (b:=w.heap.size) xsi));have hh:=bc6 hb1 (al6 (b:=w.heap.size+1) xsi);obtain ⟨c_o0,c_o1,c_o2,c_o3,c_o4,c_o5⟩:=hh;have z_o:=blt hb1 (alz (b:=w.heap.size+1) xsi);have hB1:Below w.heap.size w w1:=xbel;go_wp2
 go_ret
 exact ⟨rfl,hB1⟩
theorem Sm04_p3 (sg sg2 ld ld2:Int) (wa ka va ca wa' ka' va' ca':Option Addr) (wc kc vc cc wc' kc' vc' cc' lw lk lv lc lw' lk' lv' lc':Nat) (w:World) (g1:(sg==sg2)=true) (g2:(ld==ld2)=true) (HW:Hid (∀W,Below w.heap.size w W→Calls Tryz.prog 111 #[.slice wa lw wc,.slice wa' lw' wc'] W (AnsB W (.bool true)))) (HK:Hid (∀W,Below w.heap.size w W→Calls Tryz.prog 68 #[.slice ka lk kc,.slice ka' lk' kc'] W (AnsB W (.bool false)))):
    Calls Tryz.prog 77 #[.agg #[.int .i64 sg,.slice wa lw wc,.slice ka lk kc,.slice va lv vc,.slice ca lc cc,.int .u64 ld],.agg #[.int .i64 sg2,.slice wa' lw' wc',.slice ka' lk' kc',.slice va' lv' vc',.slice ca' lc' cc',.int .u64 ld2]] w (AnsB w (.bool false)):=by
 go_enter Tryz.func77,Tryz.ntmps77
 go_wp2_with fail
 refine (HW.out _ xbel).mono ?_;rintro e w1 ⟨rfl,hb1⟩;have hz_w1:=hb1.size;try simp only [World.size_alloc,World.size_setCell] at hz_w1
 have hh:=bc6 hb1 (au6 (al6 (b:=w.heap.size) xsi));obtain ⟨c_t0,c_t1,c_t2,c_t3,c_t4,c_t5⟩:=hh;have z_t:=blt hb1 (auz (alz (b:=w.heap.size) xsi));have hh:=bc6 hb1 (al6 (b:=w.heap.size+1) xsi);obtain ⟨c_o0,c_o1,c_o2,c_o3,c_o4,c_o5⟩:=hh;have z_o:=blt hb1 (alz (b:=w.heap.size+1) xsi);have hB1:Below w.heap.size w w1:=xbel;go_wp2_with fail
 refine (HK.out _ hB1).mono ?_;rintro e w2 ⟨rfl,hb2⟩;have hz_w2:=hb2.size;simp (disch:=omega) only [xcl hb2] at *;replace z_t:=blt hb2 z_t;replace z_o:=blt hb2 z_o;have hB2:Below w.heap.size w w2:=xbel;go_wp2
 go_ret
 exact ⟨rfl,hB2⟩
theorem Sm04_p4 (sg sg2 ld ld2:Int) (wa ka va ca wa' ka' va' ca':Option Addr) (wc kc vc cc wc' kc' vc' cc' lw lk lv lc lw' lk' lv' lc':Nat) (w:World) (g1:(sg==sg2)=true) (g2:(ld==ld2)=true) (HW:Hid (∀W,Below w.heap.size w W→Calls Tryz.prog 111 #[.slice wa lw wc,.slice wa' lw' wc'] W (AnsB W (.bool true)))) (HK:Hid (∀W,Below w.heap.size w W→Calls Tryz.prog 68 #[.slice ka lk kc,.slice ka' lk' kc'] W (AnsB W (.bool true)))) (HV:Hid (∀W,Below w.heap.size w W→Calls Tryz.prog 68 #[.slice va lv vc,.slice va' lv' vc'] W (AnsB W (.bool false)))):
    Calls Tryz.prog 77 #[.agg #[.int .i64 sg,.slice wa lw wc,.slice ka lk kc,.slice va lv vc,.slice ca lc cc,.int .u64 ld],.agg #[.int .i64 sg2,.slice wa' lw' wc',.slice ka' lk' kc',.slice va' lv' vc',.slice ca' lc' cc',.int .u64 ld2]] w (AnsB w (.bool false)):=by
 go_enter Tryz.func77,Tryz.ntmps77
 go_wp2_with fail
 refine (HW.out _ xbel).mono ?_;rintro e w1 ⟨rfl,hb1⟩;have hz_w1:=hb1.size;try simp only [World.size_alloc,World.size_setCell] at hz_w1
 have hh:=bc6 hb1 (au6 (al6 (b:=w.heap.size) xsi));obtain ⟨c_t0,c_t1,c_t2,c_t3,c_t4,c_t5⟩:=hh;have z_t:=blt hb1 (auz (alz (b:=w.heap.size) xsi));have hh:=bc6 hb1 (al6 (b:=w.heap.size+1) xsi);obtain ⟨c_o0,c_o1,c_o2,c_o3,c_o4,c_o5⟩:=hh;have z_o:=blt hb1 (alz (b:=w.heap.size+1) xsi);have hB1:Below w.heap.size w w1:=xbel;go_wp2_with fail
 refine (HK.out _ hB1).mono ?_;rintro e w2 ⟨rfl,hb2⟩;have hz_w2:=hb2.size;simp (disch:=omega) only [xcl hb2] at *;replace z_t:=blt hb2 z_t;replace z_o:=blt hb2 z_o;have hB2:Below w.heap.size w w2:=xbel;go_wp2_with fail
 refine (HV.out _ hB2).mono ?_;rintro e w3 ⟨rfl,hb3⟩;have hz_w3:=hb3.size;simp (disch:=omega) only [xcl hb3] at *;replace z_t:=blt hb3 z_t;replace z_o:=blt hb3 z_o;have hB3:Below w.heap.size w w3:=xbel;go_wp2
 go_ret
 exact ⟨rfl,hB3⟩
theorem Sm04_p5 (sg sg2 ld ld2:Int) (wa ka va ca wa' ka' va' ca':Option Addr) (wc kc vc cc wc' kc' vc' cc' lw lk lv lc lw' lk' lv' lc':Nat) (w:World) (g1:(sg==sg2)=true) (g2:(ld==ld2)=true) (HW:Hid (∀W,Below w.heap.size w W→Calls Tryz.prog 111 #[.slice wa lw wc,.slice wa' lw' wc'] W (AnsB W (.bool true)))) (HK:Hid (∀W,Below w.heap.size w W→Calls Tryz.prog 68 #[.slice ka lk kc,.slice ka' lk' kc'] W (AnsB W (.bool true)))) (HV:Hid (∀W,Below w.heap.size w W→Calls Tryz.prog 68 #[.slice va lv vc,.slice va' lv' vc'] W (AnsB W (.bool true)))) (HN:Hid (∀W,Below w.heap.size w W→Calls Tryz.prog 69 #[.slice ca lc cc,.slice ca' lc' cc'] W (AnsB W (.bool false)))):
    Calls Tryz.prog 77 #[.agg #[.int .i64 sg,.slice wa lw wc,.slice ka lk kc,.slice va lv vc,.slice ca lc cc,.int .u64 ld],.agg #[.int .i64 sg2,.slice wa' lw' wc',.slice ka' lk' kc',.slice va' lv' vc',.slice ca' lc' cc',.int .u64 ld2]] w (AnsB w (.bool false)):=by
 go_enter Tryz.func77,Tryz.ntmps77
 go_wp2_with fail
 refine (HW.out _ xbel).mono ?_;rintro e w1 ⟨rfl,hb1⟩;have hz_w1:=hb1.size;try simp only [World.size_alloc,World.size_setCell] at hz_w1
 have hh:=bc6 hb1 (au6 (al6 (b:=w.heap.size) xsi));obtain ⟨c_t0,c_t1,c_t2,c_t3,c_t4,c_t5⟩:=hh;have z_t:=blt hb1 (auz (alz (b:=w.heap.size) xsi));have hh:=bc6 hb1 (al6 (b:=w.heap.size+1) xsi);obtain ⟨c_o0,c_o1,c_o2,c_o3,c_o4,c_o5⟩:=hh;have z_o:=blt hb1 (alz (b:=w.heap.size+1) xsi);have hB1:Below w.heap.size w w1:=xbel;go_wp2_with fail
 refine (HK.out _ hB1).mono ?_;rintro e w2 ⟨rfl,hb2⟩;have hz_w2:=hb2.size;simp (disch:=omega) only [xcl hb2] at *;replace z_t:=blt hb2 z_t;replace z_o:=blt hb2 z_o;have hB2:Below w.heap.size w w2:=xbel;go_wp2_with fail
 refine (HV.out _ hB2).mono ?_;rintro e w3 ⟨rfl,hb3⟩;have hz_w3:=hb3.size;simp (disch:=omega) only [xcl hb3] at *;replace z_t:=blt hb3 z_t;replace z_o:=blt hb3 z_o;have hB3:Below w.heap.size w w3:=xbel;go_wp2_with fail
 refine (HN.out _ hB3).mono ?_;rintro e w4 ⟨rfl,hb4⟩;have hz_w4:=hb4.size;simp (disch:=omega) only [xcl hb4] at *;replace z_t:=blt hb4 z_t;replace z_o:=blt hb4 z_o;have hB4:Below w.heap.size w w4:=xbel;go_wp2
 go_ret
 exact ⟨rfl,hB4⟩
theorem Sm04_p6 (sg sg2 ld ld2:Int) (wa ka va ca wa' ka' va' ca':Option Addr) (wc kc vc cc wc' kc' vc' cc' lw lk lv lc lw' lk' lv' lc':Nat) (w:World) (g1:(sg==sg2)=true) (g2:(ld==ld2)=true) (HW:Hid (∀W,Below w.heap.size w W→Calls Tryz.prog 111 #[.slice wa lw wc,.slice wa' lw' wc'] W (AnsB W (.bool true)))) (HK:Hid (∀W,Below w.heap.size w W→Calls Tryz.prog 68 #[.slice ka lk kc,.slice ka' lk' kc'] W (AnsB W (.bool true)))) (HV:Hid (∀W,Below w.heap.size w W→Calls Tryz.prog 68 #[.slice va lv vc,.slice va' lv' vc'] W (AnsB W (.bool true)))) (HN:Hid (∀W,Below w.heap.size w W→Calls Tryz.prog 69 #[.slice ca lc cc,.slice ca' lc' cc'] W (AnsB W (.bool true)))):
    Calls Tryz.prog 77 #[.agg #[.int .i64 sg,.slice wa lw wc,.slice ka lk kc,.slice va lv vc,.slice ca lc cc,.int .u64 ld],.agg #[.int .i64 sg2,.slice wa' lw' wc',.slice ka' lk' kc',.slice va' lv' vc',.slice ca' lc' cc',.int .u64 ld2]] w (AnsB w (.bool true)):=by
 go_enter Tryz.func77,Tryz.ntmps77
 go_wp2_with fail
 refine (HW.out _ xbel).mono ?_;rintro e w1 ⟨rfl,hb1⟩;have hz_w1:=hb1.size;try simp only [World.size_alloc,World.size_setCell] at hz_w1
 have hh:=bc6 hb1 (au6 (al6 (b:=w.heap.size) xsi));obtain ⟨c_t0,c_t1,c_t2,c_t3,c_t4,c_t5⟩:=hh;have z_t:=blt hb1 (auz (alz (b:=w.heap.size) xsi));have hh:=bc6 hb1 (al6 (b:=w.heap.size+1) xsi);obtain ⟨c_o0,c_o1,c_o2,c_o3,c_o4,c_o5⟩:=hh;have z_o:=blt hb1 (alz (b:=w.heap.size+1) xsi);have hB1:Below w.heap.size w w1:=xbel;go_wp2_with fail
 refine (HK.out _ hB1).mono ?_;rintro e w2 ⟨rfl,hb2⟩;have hz_w2:=hb2.size;simp (disch:=omega) only [xcl hb2] at *;replace z_t:=blt hb2 z_t;replace z_o:=blt hb2 z_o;have hB2:Below w.heap.size w w2:=xbel;go_wp2_with fail
 refine (HV.out _ hB2).mono ?_;rintro e w3 ⟨rfl,hb3⟩;have hz_w3:=hb3.size;simp (disch:=omega) only [xcl hb3] at *;replace z_t:=blt hb3 z_t;replace z_o:=blt hb3 z_o;have hB3:Below w.heap.size w w3:=xbel;go_wp2_with fail
 refine (HN.out _ hB3).mono ?_;rintro e w4 ⟨rfl,hb4⟩;have hz_w4:=hb4.size;simp (disch:=omega) only [xcl hb4] at *;replace z_t:=blt hb4 z_t;replace z_o:=blt hb4 z_o;have hB4:Below w.heap.size w w4:=xbel;go_wp2
 go_ret
 exact ⟨rfl,hB4⟩
theorem Sm04_ok (s t:SlC) (a a':SlA) (w:World) (hin:SlIn w s a) (hin':SlIn w t a') (hl1:s.ws.length≤1000000000) (hl2:s.ks.length≤1000000000) (hl3:s.vs.length≤1000000000) (hl4:s.cs.length≤1000000000):
    Calls Tryz.prog 77 #[slV s a,slV t a'] w (AnsB w (.bool (sameB s t))):=by
 have HW:=fun (W:World) (hb:Below w.heap.size w W)=>ans_drewN (SameWords_ok a.wa a'.wa a.wc a'.wc s.ws t.ws W (hin.w.below hb) (hin'.w.below hb) hl1)
 have HK:=fun (W:World) (hb:Below w.heap.size w W)=>ans_drewN (SameKeys_ok a.ka a'.ka a.kc a'.kc s.ks t.ks W (hin.k.below hb) (hin'.k.below hb) hl2)
 have HV:=fun (W:World) (hb:Below w.heap.size w W)=>ans_drewN (SameKeys_ok a.va a'.va a.vc a'.vc s.vs t.vs W (hin.v.below hb) (hin'.v.below hb) hl3)
 have HN:=fun (W:World) (hb:Below w.heap.size w W)=>ans_drewN (SameNums_ok a.ca a'.ca a.cc a'.cc s.cs t.cs W (hin.n.below hb) (hin'.n.below hb) hl4)
 unfold sameB;by_cases h1:s.seg=t.seg
 · have g1:(s.seg==t.seg)=true:=by simpa using h1
   rw [decide_eq_true h1,Bool.true_and];by_cases h2:s.laid=t.laid
   · have g2:(s.laid==t.laid)=true:=by simpa using h2
     rw [decide_eq_true h2,Bool.true_and];cases h3:decide (s.ws=t.ws) with
     | false=>rw [h3] at HW;exact Sm04_p2 s.seg t.seg s.laid t.laid a.wa a.ka a.va a.ca a'.wa a'.ka a'.va a'.ca a.wc a.kc a.vc a.cc a'.wc a'.kc a'.vc a'.cc s.ws.length s.ks.length s.vs.length s.cs.length t.ws.length t.ks.length t.vs.length t.cs.length w g1 g2 (hid HW)
     | true=>
      rw [h3] at HW;cases h4:decide (s.ks=t.ks) with
      | false=>rw [h4] at HK;exact Sm04_p3 s.seg t.seg s.laid t.laid a.wa a.ka a.va a.ca a'.wa a'.ka a'.va a'.ca a.wc a.kc a.vc a.cc a'.wc a'.kc a'.vc a'.cc s.ws.length s.ks.length s.vs.length s.cs.length t.ws.length t.ks.length t.vs.length t.cs.length w g1 g2 (hid HW) (hid HK)
      | true=>
       rw [h4] at HK;cases h5:decide (s.vs=t.vs) with
       | false=>rw [h5] at HV;exact Sm04_p4 s.seg t.seg s.laid t.laid a.wa a.ka a.va a.ca a'.wa a'.ka a'.va a'.ca a.wc a.kc a.vc a.cc a'.wc a'.kc a'.vc a'.cc s.ws.length s.ks.length s.vs.length s.cs.length t.ws.length t.ks.length t.vs.length t.cs.length w g1 g2 (hid HW) (hid HK) (hid HV)
       | true=>
        rw [h5] at HV;cases h6:decide (s.cs=t.cs) with
        | false=>rw [h6] at HN;exact Sm04_p5 s.seg t.seg s.laid t.laid a.wa a.ka a.va a.ca a'.wa a'.ka a'.va a'.ca a.wc a.kc a.vc a.cc a'.wc a'.kc a'.vc a'.cc s.ws.length s.ks.length s.vs.length s.cs.length t.ws.length t.ks.length t.vs.length t.cs.length w g1 g2 (hid HW) (hid HK) (hid HV) (hid HN)
        | true=>rw [h6] at HN;exact Sm04_p6 s.seg t.seg s.laid t.laid a.wa a.ka a.va a.ca a'.wa a'.ka a'.va a'.ca a.wc a.kc a.vc a.cc a'.wc a'.kc a'.vc a'.cc s.ws.length s.ks.length s.vs.length s.cs.length t.ws.length t.ks.length t.vs.length t.cs.length w g1 g2 (hid HW) (hid HK) (hid HV) (hid HN)
   · have g2:(s.laid==t.laid)=false:=by simpa using h2
     rw [decide_eq_false h2,Bool.false_and];exact Sm04_p1 s.seg t.seg s.laid t.laid a.wa a.ka a.va a.ca a'.wa a'.ka a'.va a'.ca a.wc a.kc a.vc a.cc a'.wc a'.kc a'.vc a'.cc s.ws.length s.ks.length s.vs.length s.cs.length t.ws.length t.ks.length t.vs.length t.cs.length w g1 g2
 · have g1:(s.seg==t.seg)=false:=by simpa using h1
   rw [decide_eq_false h1,Bool.false_and];exact Sm04_p0 s.seg t.seg s.laid t.laid a.wa a.ka a.va a.ca a'.wa a'.ka a'.va a'.ca a.wc a.kc a.vc a.cc a'.wc a'.kc a'.vc a'.cc s.ws.length s.ks.length s.vs.length s.cs.length t.ws.length t.ks.length t.vs.length t.cs.length w g1
theorem SmSl_p0 (sg sg2 ld ld2:Int) (wa ka va ca wa' ka' va' ca':Option Addr) (wc kc vc cc wc' kc' vc' cc' lw lk lv lc lw' lk' lv' lc':Nat) (w:World) (g1:(sg==sg2)=false):
    Calls Tryz.prog 74 #[.agg #[.int .i64 sg,.slice wa lw wc,.slice ka lk kc,.slice va lv vc,.slice ca lc cc,.int .u64 ld],.agg #[.int .i64 sg2,.slice wa' lw' wc',.slice ka' lk' kc',.slice va' lv' vc',.slice ca' lc' cc',.int .u64 ld2]] w (AnsB w (.bool false)):=by
 go_enter Tryz.func74,Tryz.ntmps74
 have hB0:Below w.heap.size w ((w.alloc (.cells #[.int .i64 sg,.slice wa lw wc,.slice ka lk kc,.slice va lv vc,.slice ca lc cc,.int .u64 ld] 29)).alloc (.cells #[.int .i64 sg2,.slice wa' lw' wc',.slice ka' lk' kc',.slice va' lv' vc',.slice ca' lc' cc',.int .u64 ld2] 29)):=xbel;go_wp2
 go_ret
 exact ⟨rfl,hB0⟩
theorem SmSl_p1 (sg sg2 ld ld2:Int) (wa ka va ca wa' ka' va' ca':Option Addr) (wc kc vc cc wc' kc' vc' cc' lw lk lv lc lw' lk' lv' lc':Nat) (w:World) (g1:(sg==sg2)=true) (g2:(ld==ld2)=false):
    Calls Tryz.prog 74 #[.agg #[.int .i64 sg,.slice wa lw wc,.slice ka lk kc,.slice va lv vc,.slice ca lc cc,.int .u64 ld],.agg #[.int .i64 sg2,.slice wa' lw' wc',.slice ka' lk' kc',.slice va' lv' vc',.slice ca' lc' cc',.int .u64 ld2]] w (AnsB w (.bool false)):=by
 go_enter Tryz.func74,Tryz.ntmps74
 have hB0:Below w.heap.size w ((w.alloc (.cells #[.int .i64 sg,.slice wa lw wc,.slice ka lk kc,.slice va lv vc,.slice ca lc cc,.int .u64 ld] 29)).alloc (.cells #[.int .i64 sg2,.slice wa' lw' wc',.slice ka' lk' kc',.slice va' lv' vc',.slice ca' lc' cc',.int .u64 ld2] 29)):=xbel;go_wp2
 go_ret
 exact ⟨rfl,hB0⟩
theorem SmSl_p2 (sg sg2 ld ld2:Int) (wa ka va ca wa' ka' va' ca':Option Addr) (wc kc vc cc wc' kc' vc' cc' lw lk lv lc lw' lk' lv' lc':Nat) (w:World) (g1:(sg==sg2)=true) (g2:(ld==ld2)=true) (HW:Hid (∀W,Below w.heap.size w W→Calls Tryz.prog 110 #[.slice wa lw wc,.slice wa' lw' wc'] W (AnsB W (.bool false)))):
    Calls Tryz.prog 74 #[.agg #[.int .i64 sg,.slice wa lw wc,.slice ka lk kc,.slice va lv vc,.slice ca lc cc,.int .u64 ld],.agg #[.int .i64 sg2,.slice wa' lw' wc',.slice ka' lk' kc',.slice va' lv' vc',.slice ca' lc' cc',.int .u64 ld2]] w (AnsB w (.bool false)):=by
 go_enter Tryz.func74,Tryz.ntmps74
 go_wp2_with fail
 refine (HW.out _ xbel).mono ?_;rintro e w1 ⟨rfl,hb1⟩;have hz_w1:=hb1.size;try simp only [World.size_alloc,World.size_setCell] at hz_w1
 have hh:=bc6 hb1 (au6 (al6 (b:=w.heap.size) xsi));obtain ⟨c_t0,c_t1,c_t2,c_t3,c_t4,c_t5⟩:=hh;have z_t:=blt hb1 (auz (alz (b:=w.heap.size) xsi));have hh:=bc6 hb1 (al6 (b:=w.heap.size+1) xsi);obtain ⟨c_o0,c_o1,c_o2,c_o3,c_o4,c_o5⟩:=hh;have z_o:=blt hb1 (alz (b:=w.heap.size+1) xsi);have hB1:Below w.heap.size w w1:=xbel;go_wp2
 go_ret
 exact ⟨rfl,hB1⟩
theorem SmSl_p3 (sg sg2 ld ld2:Int) (wa ka va ca wa' ka' va' ca':Option Addr) (wc kc vc cc wc' kc' vc' cc' lw lk lv lc lw' lk' lv' lc':Nat) (w:World) (g1:(sg==sg2)=true) (g2:(ld==ld2)=true) (HW:Hid (∀W,Below w.heap.size w W→Calls Tryz.prog 110 #[.slice wa lw wc,.slice wa' lw' wc'] W (AnsB W (.bool true)))) (HK:Hid (∀W,Below w.heap.size w W→Calls Tryz.prog 75 #[.slice ka lk kc,.slice ka' lk' kc'] W (AnsB W (.bool false)))):
    Calls Tryz.prog 74 #[.agg #[.int .i64 sg,.slice wa lw wc,.slice ka lk kc,.slice va lv vc,.slice ca lc cc,.int .u64 ld],.agg #[.int .i64 sg2,.slice wa' lw' wc',.slice ka' lk' kc',.slice va' lv' vc',.slice ca' lc' cc',.int .u64 ld2]] w (AnsB w (.bool false)):=by
 go_enter Tryz.func74,Tryz.ntmps74
 go_wp2_with fail
 refine (HW.out _ xbel).mono ?_;rintro e w1 ⟨rfl,hb1⟩;have hz_w1:=hb1.size;try simp only [World.size_alloc,World.size_setCell] at hz_w1
 have hh:=bc6 hb1 (au6 (al6 (b:=w.heap.size) xsi));obtain ⟨c_t0,c_t1,c_t2,c_t3,c_t4,c_t5⟩:=hh;have z_t:=blt hb1 (auz (alz (b:=w.heap.size) xsi));have hh:=bc6 hb1 (al6 (b:=w.heap.size+1) xsi);obtain ⟨c_o0,c_o1,c_o2,c_o3,c_o4,c_o5⟩:=hh;have z_o:=blt hb1 (alz (b:=w.heap.size+1) xsi);have hB1:Below w.heap.size w w1:=xbel;go_wp2_with fail
 refine (HK.out _ hB1).mono ?_;rintro e w2 ⟨rfl,hb2⟩;have hz_w2:=hb2.size;simp (disch:=omega) only [xcl hb2] at *;replace z_t:=blt hb2 z_t;replace z_o:=blt hb2 z_o;have hB2:Below w.heap.size w w2:=xbel;go_wp2
 go_ret
 exact ⟨rfl,hB2⟩
theorem SmSl_p4 (sg sg2 ld ld2:Int) (wa ka va ca wa' ka' va' ca':Option Addr) (wc kc vc cc wc' kc' vc' cc' lw lk lv lc lw' lk' lv' lc':Nat) (w:World) (g1:(sg==sg2)=true) (g2:(ld==ld2)=true) (HW:Hid (∀W,Below w.heap.size w W→Calls Tryz.prog 110 #[.slice wa lw wc,.slice wa' lw' wc'] W (AnsB W (.bool true)))) (HK:Hid (∀W,Below w.heap.size w W→Calls Tryz.prog 75 #[.slice ka lk kc,.slice ka' lk' kc'] W (AnsB W (.bool true)))) (HV:Hid (∀W,Below w.heap.size w W→Calls Tryz.prog 75 #[.slice va lv vc,.slice va' lv' vc'] W (AnsB W (.bool false)))):
    Calls Tryz.prog 74 #[.agg #[.int .i64 sg,.slice wa lw wc,.slice ka lk kc,.slice va lv vc,.slice ca lc cc,.int .u64 ld],.agg #[.int .i64 sg2,.slice wa' lw' wc',.slice ka' lk' kc',.slice va' lv' vc',.slice ca' lc' cc',.int .u64 ld2]] w (AnsB w (.bool false)):=by
 go_enter Tryz.func74,Tryz.ntmps74
 go_wp2_with fail
 refine (HW.out _ xbel).mono ?_;rintro e w1 ⟨rfl,hb1⟩;have hz_w1:=hb1.size;try simp only [World.size_alloc,World.size_setCell] at hz_w1
 have hh:=bc6 hb1 (au6 (al6 (b:=w.heap.size) xsi));obtain ⟨c_t0,c_t1,c_t2,c_t3,c_t4,c_t5⟩:=hh;have z_t:=blt hb1 (auz (alz (b:=w.heap.size) xsi));have hh:=bc6 hb1 (al6 (b:=w.heap.size+1) xsi);obtain ⟨c_o0,c_o1,c_o2,c_o3,c_o4,c_o5⟩:=hh;have z_o:=blt hb1 (alz (b:=w.heap.size+1) xsi);have hB1:Below w.heap.size w w1:=xbel;go_wp2_with fail
 refine (HK.out _ hB1).mono ?_;rintro e w2 ⟨rfl,hb2⟩;have hz_w2:=hb2.size;simp (disch:=omega) only [xcl hb2] at *;replace z_t:=blt hb2 z_t;replace z_o:=blt hb2 z_o;have hB2:Below w.heap.size w w2:=xbel;go_wp2_with fail
 refine (HV.out _ hB2).mono ?_;rintro e w3 ⟨rfl,hb3⟩;have hz_w3:=hb3.size;simp (disch:=omega) only [xcl hb3] at *;replace z_t:=blt hb3 z_t;replace z_o:=blt hb3 z_o;have hB3:Below w.heap.size w w3:=xbel;go_wp2
 go_ret
 exact ⟨rfl,hB3⟩
theorem SmSl_p5 (sg sg2 ld ld2:Int) (wa ka va ca wa' ka' va' ca':Option Addr) (wc kc vc cc wc' kc' vc' cc' lw lk lv lc lw' lk' lv' lc':Nat) (w:World) (g1:(sg==sg2)=true) (g2:(ld==ld2)=true) (HW:Hid (∀W,Below w.heap.size w W→Calls Tryz.prog 110 #[.slice wa lw wc,.slice wa' lw' wc'] W (AnsB W (.bool true)))) (HK:Hid (∀W,Below w.heap.size w W→Calls Tryz.prog 75 #[.slice ka lk kc,.slice ka' lk' kc'] W (AnsB W (.bool true)))) (HV:Hid (∀W,Below w.heap.size w W→Calls Tryz.prog 75 #[.slice va lv vc,.slice va' lv' vc'] W (AnsB W (.bool true)))) (HN:Hid (∀W,Below w.heap.size w W→Calls Tryz.prog 76 #[.slice ca lc cc,.slice ca' lc' cc'] W (AnsB W (.bool false)))):
    Calls Tryz.prog 74 #[.agg #[.int .i64 sg,.slice wa lw wc,.slice ka lk kc,.slice va lv vc,.slice ca lc cc,.int .u64 ld],.agg #[.int .i64 sg2,.slice wa' lw' wc',.slice ka' lk' kc',.slice va' lv' vc',.slice ca' lc' cc',.int .u64 ld2]] w (AnsB w (.bool false)):=by
 go_enter Tryz.func74,Tryz.ntmps74
 go_wp2_with fail
 refine (HW.out _ xbel).mono ?_;rintro e w1 ⟨rfl,hb1⟩;have hz_w1:=hb1.size;try simp only [World.size_alloc,World.size_setCell] at hz_w1
 have hh:=bc6 hb1 (au6 (al6 (b:=w.heap.size) xsi));obtain ⟨c_t0,c_t1,c_t2,c_t3,c_t4,c_t5⟩:=hh;have z_t:=blt hb1 (auz (alz (b:=w.heap.size) xsi));have hh:=bc6 hb1 (al6 (b:=w.heap.size+1) xsi);obtain ⟨c_o0,c_o1,c_o2,c_o3,c_o4,c_o5⟩:=hh;have z_o:=blt hb1 (alz (b:=w.heap.size+1) xsi);have hB1:Below w.heap.size w w1:=xbel;go_wp2_with fail
 refine (HK.out _ hB1).mono ?_;rintro e w2 ⟨rfl,hb2⟩;have hz_w2:=hb2.size;simp (disch:=omega) only [xcl hb2] at *;replace z_t:=blt hb2 z_t;replace z_o:=blt hb2 z_o;have hB2:Below w.heap.size w w2:=xbel;go_wp2_with fail
 refine (HV.out _ hB2).mono ?_;rintro e w3 ⟨rfl,hb3⟩;have hz_w3:=hb3.size;simp (disch:=omega) only [xcl hb3] at *;replace z_t:=blt hb3 z_t;replace z_o:=blt hb3 z_o;have hB3:Below w.heap.size w w3:=xbel;go_wp2_with fail
 refine (HN.out _ hB3).mono ?_;rintro e w4 ⟨rfl,hb4⟩;have hz_w4:=hb4.size;simp (disch:=omega) only [xcl hb4] at *;replace z_t:=blt hb4 z_t;replace z_o:=blt hb4 z_o;have hB4:Below w.heap.size w w4:=xbel;go_wp2
 go_ret
 exact ⟨rfl,hB4⟩
theorem SmSl_p6 (sg sg2 ld ld2:Int) (wa ka va ca wa' ka' va' ca':Option Addr) (wc kc vc cc wc' kc' vc' cc' lw lk lv lc lw' lk' lv' lc':Nat) (w:World) (g1:(sg==sg2)=true) (g2:(ld==ld2)=true) (HW:Hid (∀W,Below w.heap.size w W→Calls Tryz.prog 110 #[.slice wa lw wc,.slice wa' lw' wc'] W (AnsB W (.bool true)))) (HK:Hid (∀W,Below w.heap.size w W→Calls Tryz.prog 75 #[.slice ka lk kc,.slice ka' lk' kc'] W (AnsB W (.bool true)))) (HV:Hid (∀W,Below w.heap.size w W→Calls Tryz.prog 75 #[.slice va lv vc,.slice va' lv' vc'] W (AnsB W (.bool true)))) (HN:Hid (∀W,Below w.heap.size w W→Calls Tryz.prog 76 #[.slice ca lc cc,.slice ca' lc' cc'] W (AnsB W (.bool true)))):
    Calls Tryz.prog 74 #[.agg #[.int .i64 sg,.slice wa lw wc,.slice ka lk kc,.slice va lv vc,.slice ca lc cc,.int .u64 ld],.agg #[.int .i64 sg2,.slice wa' lw' wc',.slice ka' lk' kc',.slice va' lv' vc',.slice ca' lc' cc',.int .u64 ld2]] w (AnsB w (.bool true)):=by
 go_enter Tryz.func74,Tryz.ntmps74
 go_wp2_with fail
 refine (HW.out _ xbel).mono ?_;rintro e w1 ⟨rfl,hb1⟩;have hz_w1:=hb1.size;try simp only [World.size_alloc,World.size_setCell] at hz_w1
 have hh:=bc6 hb1 (au6 (al6 (b:=w.heap.size) xsi));obtain ⟨c_t0,c_t1,c_t2,c_t3,c_t4,c_t5⟩:=hh;have z_t:=blt hb1 (auz (alz (b:=w.heap.size) xsi));have hh:=bc6 hb1 (al6 (b:=w.heap.size+1) xsi);obtain ⟨c_o0,c_o1,c_o2,c_o3,c_o4,c_o5⟩:=hh;have z_o:=blt hb1 (alz (b:=w.heap.size+1) xsi);have hB1:Below w.heap.size w w1:=xbel;go_wp2_with fail
 refine (HK.out _ hB1).mono ?_;rintro e w2 ⟨rfl,hb2⟩;have hz_w2:=hb2.size;simp (disch:=omega) only [xcl hb2] at *;replace z_t:=blt hb2 z_t;replace z_o:=blt hb2 z_o;have hB2:Below w.heap.size w w2:=xbel;go_wp2_with fail
 refine (HV.out _ hB2).mono ?_;rintro e w3 ⟨rfl,hb3⟩;have hz_w3:=hb3.size;simp (disch:=omega) only [xcl hb3] at *;replace z_t:=blt hb3 z_t;replace z_o:=blt hb3 z_o;have hB3:Below w.heap.size w w3:=xbel;go_wp2_with fail
 refine (HN.out _ hB3).mono ?_;rintro e w4 ⟨rfl,hb4⟩;have hz_w4:=hb4.size;simp (disch:=omega) only [xcl hb4] at *;replace z_t:=blt hb4 z_t;replace z_o:=blt hb4 z_o;have hB4:Below w.heap.size w w4:=xbel;go_wp2
 go_ret
 exact ⟨rfl,hB4⟩
theorem SmSl_ok (s t:SlC) (a a':SlA) (w:World) (hin:SlIn w s a) (hin':SlIn w t a') (hl1:s.ws.length≤1000000000) (hl2:s.ks.length≤1000000000) (hl3:s.vs.length≤1000000000) (hl4:s.cs.length≤1000000000):
    Calls Tryz.prog 74 #[slV s a,slV t a'] w (AnsB w (.bool (sameB s t))):=by
 have HW:=fun (W:World) (hb:Below w.heap.size w W)=>occSame_ok a.wa a'.wa a.wc a'.wc s.ws t.ws W (hin.w.below hb) (hin'.w.below hb) hl1
 have HK:=fun (W:World) (hb:Below w.heap.size w W)=>ans_drewN (Equal_int64 a.ka a'.ka a.kc a'.kc s.ks t.ks W (hin.k.below hb) (hin'.k.below hb) hl2)
 have HV:=fun (W:World) (hb:Below w.heap.size w W)=>ans_drewN (Equal_int64 a.va a'.va a.vc a'.vc s.vs t.vs W (hin.v.below hb) (hin'.v.below hb) hl3)
 have HN:=fun (W:World) (hb:Below w.heap.size w W)=>ans_drewN (Equal_int a.ca a'.ca a.cc a'.cc s.cs t.cs W (hin.n.below hb) (hin'.n.below hb) hl4)
 unfold sameB;by_cases h1:s.seg=t.seg
 · have g1:(s.seg==t.seg)=true:=by simpa using h1
   rw [decide_eq_true h1,Bool.true_and];by_cases h2:s.laid=t.laid
   · have g2:(s.laid==t.laid)=true:=by simpa using h2
     rw [decide_eq_true h2,Bool.true_and];cases h3:decide (s.ws=t.ws) with
     | false=>rw [h3] at HW;exact SmSl_p2 s.seg t.seg s.laid t.laid a.wa a.ka a.va a.ca a'.wa a'.ka a'.va a'.ca a.wc a.kc a.vc a.cc a'.wc a'.kc a'.vc a'.cc s.ws.length s.ks.length s.vs.length s.cs.length t.ws.length t.ks.length t.vs.length t.cs.length w g1 g2 (hid HW)
     | true=>
      rw [h3] at HW;cases h4:decide (s.ks=t.ks) with
      | false=>rw [h4] at HK;exact SmSl_p3 s.seg t.seg s.laid t.laid a.wa a.ka a.va a.ca a'.wa a'.ka a'.va a'.ca a.wc a.kc a.vc a.cc a'.wc a'.kc a'.vc a'.cc s.ws.length s.ks.length s.vs.length s.cs.length t.ws.length t.ks.length t.vs.length t.cs.length w g1 g2 (hid HW) (hid HK)
      | true=>
       rw [h4] at HK;cases h5:decide (s.vs=t.vs) with
       | false=>rw [h5] at HV;exact SmSl_p4 s.seg t.seg s.laid t.laid a.wa a.ka a.va a.ca a'.wa a'.ka a'.va a'.ca a.wc a.kc a.vc a.cc a'.wc a'.kc a'.vc a'.cc s.ws.length s.ks.length s.vs.length s.cs.length t.ws.length t.ks.length t.vs.length t.cs.length w g1 g2 (hid HW) (hid HK) (hid HV)
       | true=>
        rw [h5] at HV;cases h6:decide (s.cs=t.cs) with
        | false=>rw [h6] at HN;exact SmSl_p5 s.seg t.seg s.laid t.laid a.wa a.ka a.va a.ca a'.wa a'.ka a'.va a'.ca a.wc a.kc a.vc a.cc a'.wc a'.kc a'.vc a'.cc s.ws.length s.ks.length s.vs.length s.cs.length t.ws.length t.ks.length t.vs.length t.cs.length w g1 g2 (hid HW) (hid HK) (hid HV) (hid HN)
        | true=>rw [h6] at HN;exact SmSl_p6 s.seg t.seg s.laid t.laid a.wa a.ka a.va a.ca a'.wa a'.ka a'.va a'.ca a.wc a.kc a.vc a.cc a'.wc a'.kc a'.vc a'.cc s.ws.length s.ks.length s.vs.length s.cs.length t.ws.length t.ks.length t.vs.length t.cs.length w g1 g2 (hid HW) (hid HK) (hid HV) (hid HN)
   · have g2:(s.laid==t.laid)=false:=by simpa using h2
     rw [decide_eq_false h2,Bool.false_and];exact SmSl_p1 s.seg t.seg s.laid t.laid a.wa a.ka a.va a.ca a'.wa a'.ka a'.va a'.ca a.wc a.kc a.vc a.cc a'.wc a'.kc a'.vc a'.cc s.ws.length s.ks.length s.vs.length s.cs.length t.ws.length t.ks.length t.vs.length t.cs.length w g1 g2
 · have g1:(s.seg==t.seg)=false:=by simpa using h1
   rw [decide_eq_false h1,Bool.false_and];exact SmSl_p0 s.seg t.seg s.laid t.laid a.wa a.ka a.va a.ca a'.wa a'.ka a'.va a'.ca a.wc a.kc a.vc a.cc a'.wc a'.kc a'.vc a'.cc s.ws.length s.ks.length s.vs.length s.cs.length t.ws.length t.ks.length t.vs.length t.cs.length w g1
end
end Go.Proofs.YtbedhbpgnfffmaaGreat

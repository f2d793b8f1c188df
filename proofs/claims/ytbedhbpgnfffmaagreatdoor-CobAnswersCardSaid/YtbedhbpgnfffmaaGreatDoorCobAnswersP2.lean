/- Merged: Range, Occ, InvIn, OccCnt, Tz, OccNx, VebPlain, Flat, IdxPlain, VebPos, PrsIt, Fits. -/
import Derived.Test.YtbedhbpgnfffmaaGreatDoorCobAnswersP1
import Derived.RangeFuncNested
import Derived.RangeFuncBound
import Derived.RangeFuncCalls
import Derived.RangeFuncLeaves
import Derived.Shelf.Abstract
import Derived.Shelf.RegionOpen
import Derived.OwnWalkIn
import Derived.TacticsInMore
import Derived.LoopNIn
import Derived.LoopIn
import Derived.Sort.LoopGhostIn
import Derived.OrdersIn
import Derived.Laws.Bits64b
import Derived.Lib.TrailingZeros
namespace Go.Proofs.YtbedhbpgnfffmaaGreatDoor
set_option maxRecDepth 100000
set_option maxHeartbeats 40000000
set_option linter.unusedVariables false
set_option linter.unusedSimpArgs false
section
open Go.RowKit
structure Calm (B:Nat) (W W':World):Prop where
 os:W'.os=W.os
 tape:W'.tape=W.tape
 output:W'.output=W.output
 size:W.heap.size<=W'.heap.size
 low:∀k,k<B->W'.heap[k]? =W.heap[k]?
 cells:∀(k:Nat) (o:Obj),W.heap[k]? =some o->o.isCells=true->W'.heap[k]? =some o
theorem Calm.refl (B:Nat) (W:World):Calm B W W:=⟨rfl,rfl,rfl,Nat.le_refl _,fun _ _=>rfl,fun _ _ h _=>h⟩
theorem Calm.trans {B:Nat} {X Y Z:World} (h:Calm B X Y) (k:Calm B Y Z):Calm B X Z:=
  ⟨k.os.trans h.os,k.tape.trans h.tape,k.output.trans h.output,Nat.le_trans h.size k.size,fun i hi=>(k.low i hi).trans (h.low i hi),fun i o hi ho=>k.cells i o (h.cells i o hi ho) ho⟩
theorem Calm.mono {B B':Nat} {X Y:World} (h:Calm B X Y) (hb:B'<=B):Calm B' X Y:=⟨h.os,h.tape,h.output,h.size,fun i hi=>h.low i xo,h.cells⟩
theorem Calm.putObj {B:Nat} {W:World} {l:Nat} {o:Obj} (o':Obj) (hB:B<=l) (hl:W.heap[l]? =some o) (ho:o.isCells=false):Calm B W (W.putObj l o'):=
  ⟨rfl,rfl,rfl,by simp [World.putObj],fun k hk=>World.putObj_heap_other xo,fun k o2 hk ho2=>by
   by_cases e:k=l
   . subst e;rw [hl] at hk;cases hk;rw [ho] at ho2;cases ho2
   . exact (World.putObj_heap_other e).trans hk⟩
theorem Calm.alloc {B:Nat} {W:World} (o:Obj) (hB:B<=W.heap.size):Calm B W (W.alloc o):=
  ⟨rfl,rfl,rfl,by simp,fun k hk=>Below.heap_alloc W o k xo,fun k o2 hk _=>(Below.heap_alloc W o k (Array.getElem?_eq_some_iff.1 hk).1).trans hk⟩
theorem Calm.drew {B:Nat} {W:World}:Calm B W W.drew:=⟨rfl,rfl,rfl,Nat.le_refl _,fun _ _=>rfl,fun _ _ h _=>h⟩
theorem Calm.cell {B:Nat} {W W':World} (h:Calm B W W') {a:Addr} {v:Value} (hc:W.cell? a=some v):W'.cell? a=some v:=by
 obtain ⟨o,ho,hoc⟩:=cells_of_cell hc;rw [World.cell?_of_block (w:=W) ((h.cells _ _ ho hoc).trans ho.symm)];exact hc
theorem Calm.frozen {B:Nat} {W W':World} (h:Calm B W W') {a:Addr} {v:Value} (hc:W.cell? a=some v) {x:Bool} (hf:W.frozen? a=x):W'.frozen? a=x:=by
 obtain ⟨o,ho,hoc⟩:=cells_of_cell hc;rw [World.frozen?_of_block (w:=W) ((h.cells _ _ ho hoc).trans ho.symm)];exact hf
theorem Calm.owns {B:Nat} {W W':World} (h:Calm B W W') {base:Nat} {e:TypeId} {size:Nat} {v:Value} {n:Nat} {xs:List Value} (ho:W.ownsRow base e size v n xs):W'.ownsRow base e size v n xs:=by
 obtain ⟨h1,h2⟩:=ho;refine ⟨h1,?_⟩;rcases h2 with h2 | ⟨g,cap,cur,hv,hg,hh,r⟩
 . exact .inl h2
 . exact .inr ⟨g,cap,cur,hv,hg,h.cells _ _ hh rfl,r⟩
theorem Calm.ints {B:Nat} {W W':World} (h:Calm B W W') {a:Option Addr} {xs:List Int} (hi:pF W a xs):pF W' a xs:=by
 intro i hl;obtain ⟨b,off,ha,hlt,hc⟩:=hi i hl;exact ⟨b,off,ha,Nat.lt_of_lt_of_le hlt h.size,fun j hj=>h.cell (hc j hj)⟩
theorem Calm.below {B n:Nat} {w W W':World} (h:Calm B W W') (hn:n<=B) (hb:Below n w W):Below n w W':=
  ⟨h.os.trans hb.os,h.tape.trans hb.tape,h.output.trans hb.output,Nat.le_trans hb.size h.size,fun k hk=>(h.low k xo).trans (hb.block k hk)⟩
theorem jC {W W':World} (h:Below W.heap.size W W'):KeepsOthers W W':=
  ⟨h.size,fun k o hk _=>(h.block k (Array.getElem?_eq_some_iff.1 hk).1).trans hk⟩
theorem JK (W:World) (n:Nat):KeepsOthers W (W.drewN n):=⟨Nat.le_refl _,fun _ _ h _=>h⟩
def Iter (P:Program) (gf:Nat) (lb:Array Value) (xs:List (Array Value)) (Kp:World->World->Prop) (w:World):Prop:=
  ∀ (l:Nat) (J Jx:Nat->World->Prop) (W:World),Below w.heap.size w W->
    (∀k W1 W2,J k W1->Below W1.heap.size W1 W2->J k W2)->(∀k W1 W2,Jx k W1->Below W1.heap.size W1 W2->Jx k W2)->
    (∀k W1,k<xs.length->J k W1->YieldAt Fence.wide 0 P l (xs.getD k #[]) W1 fun e W'=>
     (e= .returned (.bool true)/\J (k+1) W'/\Kp W1 W')\/(e= .returned (.bool false)/\Jx (k+1) W'))->
    J 0 W->
    CallsIn Fence.wide 0 P gf (#[.func (.yield l) #[] #[]]++lb) W fun e W'=>(∃v,e= .returned v)/\(J xs.length W'\/∃k,k<=xs.length/\Jx k W')
theorem Iter.later {P:Program} {gf:Nat} {lb:Array Value} {xs:List (Array Value)} {Kp:World->World->Prop} {w w':World} (h:Iter P gf lb xs Kp w) (hb:Below w.heap.size w w'):Iter P gf lb xs Kp w':=
  fun l J Jx W hW hJ hJx hY h0=>h l J Jx W (hb.trans (hW.mono hb.size)) hJ hJx hY h0
def adu (Kp:World->World->Prop) (I:Nat->World->Prop) (Ix:Code->World->Prop) (k:Nat) (W:World):Exit->Act->World->Prop
  | .normal,_,W'=>KeepsOthers W W'/\Kp W W'/\I (k+1) W'
  | .ret,_,W'=>KeepsOthers W W'/\Ix .ret W'
  | .exit id,_,W'=>KeepsOthers W W'/\Ix (.exit id) W'
  | .goto t,_,W'=>KeepsOthers W W'/\Ix (.goto t) W'
  | .panic _,_,_=>False
  | .outgrown,_,_=>False
theorem dM {P:Program} {f:FuncId} {fn:Func} {c:Code} {args:Array Value} {w:World} {R:Ending->World->Prop}
    (hf:P.funcs[f]? =some fn) (hb:fn.body=some c)
    (h:c.wp P (bodyPostM Fence.wide 0 P fn R) {tmps:=args++Array.replicate (fn.ntmps-args.size) undef,defers:=[]} w):Calls P f args w R:=
  callsIn_wide.1 (callsIn_of_wp_marks (n:=0) hf hb trivial (wpIn_wide.2 h))
theorem qp {P:Program} {fn:Func} {R:Ending->World->Prop} {t:Array Value} {w:World} {v:Value} (hr:(results fn t).run P w= .ok v w) (hR:R (.returned v) w):
    bodyPostM Fence.wide 0 P fn R .ret {tmps:=t,defers:=[]} w:=by
 exact ⟨v,hr,hR⟩
theorem jo {P:Program} {fn:Func} {R:Ending->World->Prop} {t:Array Value} {w:World} {D:Nat} {v:Value} (hK:w.heap[D]? =some (.deferred (some [])))
    (hr:(results fn t).run P (w.putObj D (.deferred none))= .ok v (w.putObj D (.deferred none))) (hR:R (.returned v) (w.putObj D (.deferred none))):
    bodyPostM Fence.wide 0 P fn R .ret {tmps:=t,defers:=[{target:= .collected D,args:= #[]}]} w:=
  ⟨by simp,.inl ⟨_,_,rfl,run_takeDeferred hK,v,hr,hR⟩⟩
abbrev NQ (l:Nat):Fence:=Fence.wide.inRound l
structure IG (P:Program) (l:Nat) (body:Code) (B:Nat) (Kp:World->World->Prop) (I:Nat->World->Prop) (Ix:Code->World->Prop) (k:Nat) (W:World) (a1:Act) (W1:World):Prop where
 keeps:KeepsOthers W W1
 kp:Kp W W1
 body:∀W2,Calm B W1 W2->body.wpIn (NQ l) 0 P (adu Kp I Ix k W2) a1 W2
structure XJ (P:Program) (l:Nat) (body:Code) (Kp:World->World->Prop) (I:Nat->World->Prop) (Ix:Code->World->Prop) (k:Nat) (W:World) (a1:Act) (W1:World):Prop where
 same:W1=W
 body:∀W2,I k W2->body.wpIn (NQ l) 0 P (adu Kp I Ix k W2) a1 W2
theorem qj {P:Program} {g:Operand} {ps:Array Tmp} {assign body:Code} {Q:Exit->Act->World->Prop} {a:Act} {w:World}
    {gf:Nat} {lb:Array Value} (hg:a.eval g= .func (.func gf) #[] lb) (eg:∀args w,(callFunc gf args).run P w= .ok (.enter gf args) w)
    {xs:List (Array Value)} {Kp:World->World->Prop} {w0:World} (hseq:Iter P gf lb xs Kp w0) (hb0:Below w0.heap.size w0 w)
    (hKt:∀ {A B C:World},Kp A B->Kp B C->Kp A C) (hKb:∀(W:World) (l:Nat) (o o':Obj),w.heap.size<=l->W.heap[l]? =some o->o.isCells=false->Kp W (W.putObj l o'))
    (hps:∀x ∈ xs,x.size=ps.size)
    (I:Nat->World->Prop) (Ix:Code->World->Prop) (hI:∀k W W',I k W->Calm w.heap.size W W'->I k W') (hIx:∀c W W',Ix c W->Calm w.heap.size W W'->Ix c W') (h0:I 0 w)
    (tZ:∀(l k:Nat) (W:World),w.heap.size<=l->k<xs.length->I k W->
      assign.wpIn (NQ l) 0 P (Exit.then (IG P l body w.heap.size Kp I Ix k W) (fun _ _ _=>False))
        {tmps:=(ps.zip (xs.getD k #[])).foldl (fun t (p,v)=>t.setIfInBounds p v) a.tmps,defers:=[]} W)
    (hdone:∀(D:Nat) (W:World),w.heap.size<=D->I xs.length W->W.heap[D]? =some (.deferred (some []))->Q .normal {a with defers:= {target:= .collected D,args:= #[]}::a.defers} W)
    (hstop:∀(D:Nat) (c:Code) (W:World),w.heap.size<=D->Ix c W->W.heap[D]? =some (.deferred (some []))->c.wp P Q {a with defers:= {target:= .collected D,args:= #[]}::a.defers} W):
    (Code.rangeFunc g ps assign body).wp P Q a w:=by
 refine wpIn_wide (n:=0).1 (wpIn_rangeFunc ?_);intro fn hfn;obtain ⟨rec,hrec⟩:∃rec:LoopState->Option Code->Loop,rec=fun st pe=> {state:=st,pending:=pe,fn,tmps:=a.tmps,params:=ps,assign,body,defers:=w.heap.size}:=⟨_,rfl⟩
 obtain ⟨W1,hW1⟩:∃W1,(w.alloc (.deferred (some []))).alloc (.loop (rec .ready none))=W1:=⟨_,rfl⟩
 have hL1:W1.heap[w.heap.size+1]? =some (.loop (rec .ready none)):=by
  rw [<-hW1];have:=World.alloc_heap_new (w.alloc (.deferred (some []))) (.loop (rec .ready none));rwa [World.size_alloc] at this
 have hK1:W1.heap[w.heap.size]? =some (.deferred (some [])):=by
  rw [<-hW1];exact (Below.heap_alloc _ _ _ ax).trans (World.alloc_heap_new w _)
 have hI1:I 0 W1:=by rw [<-hW1];exact hI _ _ _ h0 ((Calm.alloc _ (Nat.le_refl _)).trans (Calm.alloc _ ax))
 have hb1:Below w0.heap.size w0 W1:=by
  rw [<-hW1];exact hb0.trans ((((Below.refl _ w).alloc (Nat.le_refl _) _).alloc ax _).mono hb0.size)
 have DK:∀ {A C:World},w.heap.size<=A.heap.size->Below A.heap.size A C->Calm w.heap.size A C:=fun hs hb=>
  ⟨hb.os,hb.tape,hb.output,hb.size,fun k hk=>hb.block k xo,fun k o hk _=>(hb.block k (Array.getElem?_eq_some_iff.1 hk).1).trans hk⟩
 refine ⟨w.heap.size+1,[{target:= .collected w.heap.size,args:= #[]}],W1,{target:= .fn (.func gf) lb,args:= #[.func (.yield (w.heap.size+1)) #[] #[]]},W1,gf,
   #[.func (.yield (w.heap.size+1)) #[] #[]]++lb,W1,?_,?_,fun _ _=>trivial,?_,fun h=>(by cases h),?_⟩
 . rw [<-hW1,hrec];exact run_enterLoop_outer _ _ _ _ _
 . simp only [resolve,hg];simp [go_sem]
 . simp [invoke,go_sem,eg]
 . refine (hseq (w.heap.size+1)
     (fun k W=>I k W/\W.heap[w.heap.size+1]? =some (.loop (rec .ready none))/\W.heap[w.heap.size]? =some (.deferred (some [])))
     (fun _ W=>∃c,Ix c W/\W.heap[w.heap.size+1]? =some (.loop (rec .done (some c)))/\W.heap[w.heap.size]? =some (.deferred (some [])))
     W1 hb1 ?_ ?_ ?_ ⟨hI1,hL1,hK1⟩).mono ?_
   . rintro k A C ⟨h1,h2,h3⟩ hb;have l2:=(Array.getElem?_eq_some_iff.1 h2).1;exact ⟨hI _ _ _ h1 (DK xo hb),(hb.block _ l2).trans h2,(hb.block _ xo).trans h3⟩
   . rintro k A C ⟨c,h1,h2,h3⟩ hb;have l2:=(Array.getElem?_eq_some_iff.1 h2).1;exact ⟨c,hIx _ _ _ h1 (DK xo hb),(hb.block _ l2).trans h2,(hb.block _ xo).trans h3⟩
   . -- one round
     rintro k W hkl ⟨hi,hl,hk⟩;have hlt:w.heap.size+1<W.heap.size:=(Array.getElem?_eq_some_iff.1 hl).1;have hsz:(xs.getD k #[]).size=ps.size:=by
      rw [List.getD_eq_getElem?_getD,List.getElem?_eq_getElem hkl];exact hps _ (List.getElem_mem _)
     have hy:=run_yield (P:=P) (args:=xs.getD k #[]) hl (by rw [hrec];exact hsz);rw [hrec] at hy;refine ⟨fn,_,assign,body,hy,roundIn_of_wpIn trivial (wpIn_mono (tZ _ k W xo hkl hi) ?_)⟩;intro e a1 Wa hq;cases e with
     | normal=>
      obtain ⟨hks,hkpa,hbody⟩:=hq;have hl0:=hl;have hlt0:=hlt;replace hl:Wa.heap[w.heap.size+1]? =some (.loop (rec .ready none)):=hks.same _ _ hl0 (by rfl);replace hk:Wa.heap[w.heap.size]? =some (.deferred (some [])):=hks.same _ _ hk (by rfl);replace hlt:w.heap.size+1<Wa.heap.size:=(Array.getElem?_eq_some_iff.1 hl).1;refine ⟨_,run_beginRound hl (by rw [hrec]),?_⟩;have hl2:(Wa.putObj (w.heap.size+1) (.loop {rec .ready none with state:= .busy})).heap[w.heap.size+1]? =some (.loop {rec .ready none with state:= .busy}):=World.putObj_heap_same hlt;have hk2:(Wa.putObj (w.heap.size+1) (.loop {rec .ready none with state:= .busy})).heap[w.heap.size]? =some (.deferred (some [])):=(World.putObj_heap_other xo).trans hk;have hw2:Kp Wa (Wa.putObj (w.heap.size+1) (.loop {rec .ready none with state:= .busy})):=hKb _ _ _ _ xo hl rfl;have hi2:Calm w.heap.size Wa (Wa.putObj (w.heap.size+1) (.loop {rec .ready none with state:= .busy})):=Calm.putObj _ xo hl rfl;refine wpIn_mono (hbody _ hi2) ?_;have fin:∀(jump:Option Code) (W3:World),KeepsOthers (Wa.putObj (w.heap.size+1) (.loop {rec .ready none with state:= .busy})) W3->
          (Instr.endRound (w.heap.size+1) jump).run P W3= .ok (.bool jump.isNone) (W3.putObj (w.heap.size+1) (.loop (rec (if jump.isNone then .ready else .done) jump)))/\
          W3.heap[w.heap.size+1]? =some (.loop {rec .ready none with state:= .busy})/\
          (W3.putObj (w.heap.size+1) (.loop (rec (if jump.isNone then .ready else .done) jump))).heap[w.heap.size+1]? =some (.loop (rec (if jump.isNone then .ready else .done) jump))/\
          (W3.putObj (w.heap.size+1) (.loop (rec (if jump.isNone then .ready else .done) jump))).heap[w.heap.size]? =some (.deferred (some [])):=fun jump W3 hk3=>by
       have hl3:=hk3.same _ _ hl2 rfl;have:=run_endRound (P:=P) jump hl3;rw [hrec] at this ⊢;exact ⟨this,by rw [hrec] at hl3;exact hl3,World.putObj_heap_same (Array.getElem?_eq_some_iff.1 hl3).1,(World.putObj_heap_other xo).trans (hk3.same _ _ hk2 rfl)⟩
      rintro e a3 W3 hp;cases e with
      | normal=>
       obtain ⟨hk3,hkp3,hi3⟩:=hp;obtain ⟨hr,hl3,hl4,hk4⟩:=fin none W3 hk3;exact ⟨_,_,hr,.inl ⟨rfl,⟨hI _ _ _ hi3 (Calm.putObj _ xo hl3 rfl),hl4,hk4⟩,hKt (hKt (hKt hkpa hw2) hkp3) (hKb _ _ _ _ xo hl3 rfl)⟩⟩
      | ret=>
       obtain ⟨hk3,hi3⟩:=hp;obtain ⟨hr,hl3,hl4,hk4⟩:=fin (some .ret) W3 hk3;exact ⟨_,_,hr,.inr ⟨rfl,.ret,hIx _ _ _ hi3 (Calm.putObj _ xo hl3 rfl),hl4,hk4⟩⟩
      | exit id=>
       obtain ⟨hk3,hi3⟩:=hp;obtain ⟨hr,hl3,hl4,hk4⟩:=fin (some (.exit id)) W3 hk3;exact ⟨_,_,hr,.inr ⟨rfl,.exit id,hIx _ _ _ hi3 (Calm.putObj _ xo hl3 rfl),hl4,hk4⟩⟩
      | goto t=>
       obtain ⟨hk3,hi3⟩:=hp;obtain ⟨hr,hl3,hl4,hk4⟩:=fin (some (.goto t)) W3 hk3;exact ⟨_,_,hr,.inr ⟨rfl,.goto t,hIx _ _ _ hi3 (Calm.putObj _ xo hl3 rfl),hl4,hk4⟩⟩
      | panic ch=>exact hp.elim
      | outgrown=>exact hp.elim
     | ret=>exact hq.elim
     | exit id=>exact hq.elim
     | goto t=>exact hq.elim
     | panic ch=>exact hq.elim
     | outgrown=>exact hq.elim
   . -- behind the iterator
     rintro e W2 ⟨⟨v,rfl⟩,(⟨hi,hl,hk⟩ | ⟨k,_,c,hi,hl,hk⟩)⟩
     . exact ⟨none,_,by have:=run_endLoop (P:=P) hl (by rw [hrec];simp);rw [hrec] at this;exact this,hdone _ _ (Nat.le_refl _) (hI _ _ _ hi (Calm.putObj _ xo hl rfl)) ((World.putObj_heap_other xo).trans hk)⟩
     . exact ⟨some c,_,by have:=run_endLoop (P:=P) hl (by rw [hrec];simp);rw [hrec] at this;exact this,wpIn_wide.2 (hstop _ c _ (Nat.le_refl _) (hIx _ _ _ hi (Calm.putObj _ xo hl rfl)) ((World.putObj_heap_other xo).trans hk))⟩
theorem BG {P:Program} {g:Operand} {ps:Array Tmp} {assign body:Code} {Q:Exit->Act->World->Prop} {a:Act} {w:World}
    {gf:Nat} {lb:Array Value} (hg:a.eval g= .func (.func gf) #[] lb) (eg:∀args w,(callFunc gf args).run P w= .ok (.enter gf args) w)
    {xs:List (Array Value)} {Kp:World->World->Prop} {w0:World} (hseq:Iter P gf lb xs Kp w0) (hb0:Below w0.heap.size w0 w)
    (hKr:∀A:World,Kp A A) (hKt:∀ {A B C:World},Kp A B->Kp B C->Kp A C) (hKb:∀(W:World) (l:Nat) (o o':Obj),w.heap.size<=l->W.heap[l]? =some o->o.isCells=false->Kp W (W.putObj l o'))
    (hps:∀x ∈ xs,x.size=ps.size)
    (I:Nat->World->Prop) (Ix:Code->World->Prop) (hI:∀k W W',I k W->Calm w.heap.size W W'->I k W') (hIx:∀c W W',Ix c W->Calm w.heap.size W W'->Ix c W') (h0:I 0 w)
    (tZ:∀(l k:Nat) (W:World),w.heap.size<=l->k<xs.length->I k W->
      assign.wpIn (NQ l) 0 P (Exit.then (XJ P l body Kp I Ix k W) (fun _ _ _=>False))
        {tmps:=(ps.zip (xs.getD k #[])).foldl (fun t (p,v)=>t.setIfInBounds p v) a.tmps,defers:=[]} W)
    (hdone:∀(D:Nat) (W:World),w.heap.size<=D->I xs.length W->W.heap[D]? =some (.deferred (some []))->Q .normal {a with defers:= {target:= .collected D,args:= #[]}::a.defers} W)
    (hstop:∀(D:Nat) (c:Code) (W:World),w.heap.size<=D->Ix c W->W.heap[D]? =some (.deferred (some []))->c.wp P Q {a with defers:= {target:= .collected D,args:= #[]}::a.defers} W):
    (Code.rangeFunc g ps assign body).wp P Q a w:=by
 refine qj hg eg hseq hb0 hKt hKb hps I Ix hI hIx h0 (fun l k W hl hk hi=> ?_) hdone hstop;refine wpIn_mono (tZ l k W hl hk hi) ?_;intro e a1 W1 h;cases e with
 | normal=>
  obtain ⟨rfl,hb⟩:=h;exact ⟨KeepsOthers.refl _,hKr _,fun W2 hc=>hb W2 (hI _ _ _ hi hc)⟩
 | ret=>exact h.elim
 | exit id=>exact h.elim
 | goto t=>exact h.elim
 | panic ch=>exact h.elim
 | outgrown=>exact h.elim
end
section
open Go.RowKit Go.Shelf
attribute [local go_sem] Oper.semAt_some
theorem oL (wa:Option Addr) (wc:Nat) (ws:List Int) (hu:fB ws) (n:Nat) (hn:n<=65536) (hl:ws.length<=9223372036854775807) (w:World) (hw:aQ .u64 w wa ws):
    Calls Tryz.prog 110 #[.slice wa ws.length wc,.int .i64 n] w fun e w'=>e= .returned (.int .i64 (if j_ ws n=true then 0 else 8))/\w=w':=by
 by_cases c1:ws.length=(n+63)/64
 . have hi:=QQ hu c1;have e1:((ws.length:Int) != ((n:Int)+64-1)/64)=false:=by simp;omega
   by_cases c2:n%64=0
   . have e:j_ ws n=true:=hi.2 (.inl c2);rw [if_pos e];have hr:(n:Int)%64=0:=xo;have hd:((n:Int)+64-1)/64=(ws.length:Int):=xo;generalize ws.length=m at *;clear hi e c1;go_enter Tryz.func110,Tryz.ntmps110
     go_wp2
     go_ret
     exact ⟨rfl,rfl⟩
   . obtain ⟨b,off,x,rfl,hx,hc,-⟩:=hw.get (i:=ws.length-1) xo;have hg:=hu.get (ws.length-1);rw [hx.out] at hi hg;obtain ⟨r,hr⟩:∃r,n%64=r:=⟨_,rfl⟩
     rw [hr] at hi c2;have hrI:(n:Int)%64=(r:Int):=xo;have YU:r<64:=xo;have hr0:0<r:=xo;have hd:((n:Int)+64-1)/64=(ws.length:Int):=xo;have hm0:0<ws.length:=xo;obtain ⟨q,hq⟩:∃q,x/2^r=q:=⟨_,rfl⟩
     rw [hq] at hi;by_cases c3:q=0
     . have e:j_ ws n=true:=hi.2 (.inr c3);rw [if_pos e];subst c3;generalize ws.length=m at *;obtain ⟨m',rfl⟩:∃m',m=m'+1:=⟨m-1,by omega⟩
       rw [Nat.add_sub_cancel] at hc;clear hi e c1 hu hw hx;go_enter Tryz.func110,Tryz.ntmps110
       go_wp2
       go_ret
       exact ⟨rfl,rfl⟩
     . have e:¬j_ ws n=true:=fun h=>by rcases hi.1 h with h|h<;>omega
       rw [if_neg e];have hq2:(q != 0)=true:=by simpa using c3
       generalize ws.length=m at *;obtain ⟨m',rfl⟩:∃m',m=m'+1:=⟨m-1,by omega⟩
       rw [Nat.add_sub_cancel] at hc;clear hi e c1 hu hw hx;go_enter Tryz.func110,Tryz.ntmps110
       go_wp2
       go_ret
       exact ⟨rfl,rfl⟩
 . have e:¬j_ ws n=true:=by simp [j_,c1]
   rw [if_neg e];have hd:((ws.length:Int) != ((n:Int)+64-1)/64)=true:=by simp;omega
   generalize ws.length=m at *;clear e;go_enter Tryz.func110,Tryz.ntmps110
   go_wp2
   go_ret
   exact ⟨rfl,rfl⟩
theorem Ld (wa:Option Addr) (wc:Nat) (ws:List Int) (hu:fB ws) (n:Nat) (hn:n<=65536) (hl:ws.length<=9223372036854775807) (hmay:j_ ws n=true) (w:World) (hw:aQ .u64 w wa ws):
    Calls Tryz.prog 102 #[.slice wa ws.length wc,.int .i64 n,.bool true] w fun e w'=>e= .returned (.int .i64 0)/\w=w':=by
 have CK:=hid (fun w hw=>oL wa wc ws hu n hn hl w hw);rw [if_pos hmay] at CK;have HW:=hid hw;generalize ws.length=m at *;clear hw hmay;go_enter Tryz.func102,Tryz.ntmps102
 go_wp2_with (go_at_call 110;refine (CK.out _ HW.out).mono ?_;rintro e w' ⟨rfl,rfl⟩)
 go_ret
 exact ⟨rfl,rfl⟩
theorem acb (wa:Option Addr) (wc:Nat) (ws:List Int) (hu:fB ws) (a b k:Nat) (hk:k<ws.length) (ha:a<64*k+64) (hb:64*k<b) (hbb:b<=65536) (w:World) (hw:aQ .u64 w wa ws) (b1 b2 b3:Nat)
    (c1:w.cell? ⟨b1,0,none⟩=some (.slice wa ws.length wc)) (c2:w.cell? ⟨b2,0,none⟩=some (.int .i64 a)) (c3:w.cell? ⟨b3,0,none⟩=some (.int .i64 b)):
    Calls Tryz.prog 177 #[.int .i64 k,.pointer (some ⟨b1,0,none⟩),.pointer (some ⟨b2,0,none⟩),.pointer (some ⟨b3,0,none⟩)] w fun e w'=>e= .returned (.int .u64 (cutV ws a b k))/\w=w':=by
 have hg:=hu.get k;have hA:=Hz hu a k;obtain ⟨bb,off,x,rfl,hx,hc,-⟩:=hw.get hk;have hV:cutV ws a b k=if b<64*k+64 then z_ (AQ ws a k) (64*k+64-b) else AQ ws a k:=rfl
 have hAd:AQ ws a k=if 64*k<a then wQ x (a-64*k) else x:=by unfold AQ;rw [hx.out]
 rw [hx.out] at hg;obtain ⟨y,hy⟩:∃y,AQ ws a k=y:=⟨_,rfl⟩
 obtain ⟨z,hz⟩:∃z,cutV ws a b k=z:=⟨_,rfl⟩
 rw [hy] at hA hV hAd;rw [hz] at hV ⊢;generalize ws.length=m at *;have HX:=hid hx;clear hx hw hu hy hz;by_cases q1:64*k<a
 . rw [if_pos q1] at hAd;obtain ⟨lo,hlo⟩:∃lo,a-64*k=lo:=⟨_,rfl⟩
   have afS:(a:Int)-(k:Int)*64=(lo:Int):=xo;have ahm:lo<64:=xo;have hlo0:0<lo:=xo;rw [hlo] at hAd;have hbd:=J6 hg.1 lo;rw [<-hAd] at hbd;have hyw:IntKind.u64.wrap (x/2^lo*2^lo)=y:=by rw [hAd] at hA ⊢;unfold wQ at hA ⊢;rw [IntKind.wrap_u64];omega
   by_cases q2:b<64*k+64
   . rw [if_pos q2] at hV;obtain ⟨hi,hhi⟩:∃hi,64*k+64-b=hi:=⟨_,rfl⟩
     have abR:((k:Int)+1)*64-(b:Int)=(hi:Int):=xo;have ad5:hi<64:=xo;have hhi0:0<hi:=xo;rw [hhi] at hV;have hzw:IntKind.u64.wrap (y*2^hi)/2^hi=z:=by rw [hV,IntKind.wrap_u64];rfl
     clear hAd hV hbd hlo hhi;go_enter Tryz.func177,Tryz.ntmps177
     go_wp2
     go_ret
     exact ⟨by rw [<-hzw];rfl,rfl⟩
   . rw [if_neg q2] at hV;have abR:((k:Int)+1)*64-(b:Int)<=0:=xo;clear hAd hbd hlo;subst hV;go_enter Tryz.func177,Tryz.ntmps177
     go_wp2
     go_ret
     exact ⟨rfl,rfl⟩
 . rw [if_neg q1] at hAd;subst hAd;have afS:(a:Int)-(k:Int)*64<=0:=xo;by_cases q2:b<64*k+64
   . rw [if_pos q2] at hV;obtain ⟨hi,hhi⟩:∃hi,64*k+64-b=hi:=⟨_,rfl⟩
     have abR:((k:Int)+1)*64-(b:Int)=(hi:Int):=xo;have ad5:hi<64:=xo;have hhi0:0<hi:=xo;rw [hhi] at hV;have hzw:IntKind.u64.wrap (y*2^hi)/2^hi=z:=by rw [hV,IntKind.wrap_u64];rfl
     clear hV hhi;go_enter Tryz.func177,Tryz.ntmps177
     go_wp2
     go_ret
     exact ⟨by rw [<-hzw];rfl,rfl⟩
   . rw [if_neg q2] at hV;have abR:((k:Int)+1)*64-(b:Int)<=0:=xo;subst hV;go_enter Tryz.func177,Tryz.ntmps177
     go_wp2
     go_ret
     exact ⟨rfl,rfl⟩
def EF (S:Nat->Prop) (W W':World):Prop:=∀k,S k->W'.heap[k]? =W.heap[k]?
theorem EF.cell {S:Nat->Prop} {W W':World} (h:EF S W W') {a:Addr} {v:Value} (ha:S a.block) (hc:W.cell? a=some v):W'.cell? a=some v:=by
 rw [World.cell?_of_block (w:=W) (h _ ha)];exact hc
theorem EF.row {S:Nat->Prop} {W W':World} (h:EF S W W') {k:IntKind} {a:Option Addr} {xs:List Int} (ha:∀x,a=some x->0<xs.length->S x.block) (hr:aQ k W a xs):aQ k W' a xs:=by
 intro i hi;obtain ⟨b,off,rfl,hlt,hc⟩:=hr i hi;have hb:S b:=ha ⟨b,off,none⟩ rfl xo;refine ⟨b,off,rfl,?_,fun j hj=>h.cell (a:=⟨b,off+j,none⟩) hb (hc j hj)⟩;exact World.block_lt_of_cell? _ _ (h.cell (a:=⟨b,off+i,none⟩) hb (hc i hi))
theorem uF (wa:Option Addr) (wc:Nat) (ws:List Int) (hu:fB ws) (a b:Nat) (hab:a<=b) (hbb:b<=65536) (hl:b<=64*ws.length) (hl2:ws.length<=9223372036854775807) (S:Nat->Prop) (b1 b2 b3:Nat) (s1:S b1) (s2:S b2) (s3:S b3) (sw:∀x,wa=some x->0<ws.length->S x.block) (w:World) (hw:aQ .u64 w wa ws)
    (c1:w.cell? ⟨b1,0,none⟩=some (.slice wa ws.length wc)) (c2:w.cell? ⟨b2,0,none⟩=some (.int .i64 a)) (c3:w.cell? ⟨b3,0,none⟩=some (.int .i64 b)):
    Iter Tryz.prog 176 #[.pointer (some ⟨b1,0,none⟩),.pointer (some ⟨b2,0,none⟩),.pointer (some ⟨b3,0,none⟩)] (og ws a b) (EF S) w:=by
 intro l J Jx W hW hJ hJx hY h0;have d1:=(hW.cell (World.block_lt_of_cell? _ _ c1)).trans c1;have d2:=(hW.cell (World.block_lt_of_cell? _ _ c2)).trans c2;have d3:=(hW.cell (World.block_lt_of_cell? _ _ c3)).trans c3;have hw':=hw.below hW;have HY:=hid hY;have HW:=hid hw';have HC:=hid (fun k hk ha hb W hw c1 c2 c3=>acb wa wc ws hu a b k hk ha hb hbb W hw b1 b2 b3 c1 c2 c3);have SW:=hid sw;have HL:=hid hl;obtain ⟨m,hm⟩:∃m,(b+63)/64-a/64=m:=⟨_,rfl⟩
 have HP:=hid (fun k (hk:k<m)=>tV ws (a:=a) (b:=b) (k:=k) xo);have Ap:=hid ((oC ws a b).trans hm);obtain ⟨q,hq⟩:∃q,a/64=q:=⟨_,rfl⟩
 have VY:(a:Int)/64=(q:Int):=xo;rw [hq] at HP hm;have hqm:q+m<=2048:=xo;have HM:=hid (And.intro hm hq);obtain ⟨M,hML⟩:∃M,ws.length=M:=⟨_,rfl⟩
 rw [hML] at d1 HC HL hl2;clear hY hJ hJx c1 c2 c3 hw hw' sw hm hq hl hu hML;refine callsIn_of_wp Tryz.func176 rfl trivial ?_ rfl;simp only [Tryz.ntmps176,List.size_toArray,List.length_cons,List.length_nil,Nat.reduceAdd,Nat.reduceSub,Array.replicate_succ,Array.replicate_zero,List.push_toArray,List.append_toArray,List.nil_append,List.cons_append];gi_wp2
 gi_loopg [6] m (fun g iv wr=>∃k p:Nat,k+g=m/\Hid (p=q+k)/\p<=2048/\iv= .int .i64 (p:Int)/\J k wr/\wr.cell? ⟨b1,0,none⟩=some (.slice wa M wc)/\wr.cell? ⟨b2,0,none⟩=some (.int .i64 a)/\wr.cell? ⟨b3,0,none⟩=some (.int .i64 b)/\Hid (aQ .u64 wr wa ws))
 case atStart=>exact ⟨0,q,by omega,hid rfl,by omega,rfl,h0,d1,d2,d3,HW⟩
 case round=>
  obtain ⟨k,p,hk,HP2,hp2,rfl,Y9,e1,e2,e3,HR⟩:=hrel;by_cases hlt:k<m
  . obtain ⟨fn,tmps,assign,body,hy,hR⟩:=HY.out k wr (by rw [Ap.out];exact hlt) Y9;rw [HP.out k hlt,<-HP2.out] at hy;have hqb:64*p<b:=by have:=HM.out;have:=HP2.out;omega
    have hcut:=HC.out p (by have:=HL.out;omega) (by have:=HM.out;have:=HP2.out;omega) hqb wr HR.out e1 e2 e3;have HCU:=hid hcut;have VX:((64*p:Nat):Int)=(p:Int)*64:=xo;have afK:(p:Int)*64<(b:Int):=xo;obtain ⟨x,hx⟩:∃x,cutV ws a b p=x:=⟨_,rfl⟩
    rw [hx,VX] at hy;rw [hx] at HCU;have HK:=hid hk;clear hcut hx Y9 VX hk;gi_wp2_with fail
    refine ⟨trivial,rfl,(callsIn_wide.2 HCU.out).mono ?_⟩;rintro e w' ⟨rfl,rfl⟩;gi_wp2
    refine ⟨rfl,hR.mono ?_⟩;rintro e W3 (⟨rfl,hJ3,hk3⟩ | ⟨rfl,hJx3⟩)
    . have g1:=hk3.cell (a:=⟨b1,0,none⟩) s1 e1;have g2:=hk3.cell (a:=⟨b2,0,none⟩) s2 e2;have g3:=hk3.cell (a:=⟨b3,0,none⟩) s3 e3;have HR3:=hid (hk3.row SW.out HR.out);have AY:=hid hJ3;clear hk3 hJ3 e1 e2 e3 HCU;gi_wp2
      gi_roundg (gk-1)
      case measure=>have:=HK.out;omega
      case rel=>exact ⟨k+1,p+1,by have:=HK.out;omega,hid (by have:=HP2.out;omega),by have:=HM.out;have:=HP2.out;omega,by go_num,AY.out,g1,g2,g3,HR3⟩
    . have AY:=hid hJx3;clear hJx3;gi_wp2
      exact bodyPost_ret (results_none rfl _ _ _) rfl ⟨⟨_,rfl⟩,.inr ⟨k+1,by rw [Ap.out];omega,AY.out⟩⟩
  . have V_:k=m:=xo;have hqb:b<=64*p:=by have:=HM.out;have:=HP2.out;omega
    have afK:(b:Int)<=(p:Int)*64:=xo;have HJ:=hid Y9;clear Y9;gi_wp2
    refine bodyPost_end (results_none rfl _ _ _) rfl ⟨⟨_,rfl⟩,.inl ?_⟩;rw [Ap.out,<-V_];exact HJ.out
theorem CS (wa:Option Addr) (n wc:Nat) (a b:Int) (w:World):
    Calls Tryz.prog 103 #[.slice wa n wc,.int .i64 a,.int .i64 b] w fun e w'=>e= .returned (.func (.func 176) #[] #[.pointer (some ⟨w.heap.size,0,none⟩),.pointer (some ⟨w.heap.size+1,0,none⟩),.pointer (some ⟨w.heap.size+2,0,none⟩)])/\
      w'=((w.alloc (.cells #[.slice wa n wc] 24)).alloc (.cells #[.int .i64 a] 3)).alloc (.cells #[.int .i64 b] 3):=by
 go_enter Tryz.func103,Tryz.ntmps103
 go_wp2
 go_ret
 exact ⟨rfl,rfl⟩
end
section
open Go.RowKit
section
variable {F:Fence} {dp:Nat} {P:Program} {ops:Array Oper} {Q:Exit->Act->World->Prop}
def rC (ops:Array Oper) (L:Array Bool):Prop:=∀(j:Nat) (p:Oper),ops[j]? =some p->L.getD j false=true->∀e ∈ p.after,Region.binds .any e=true->L.getD e.on false=true
theorem rC.set {L:Array Bool} {i:Nat} {o:Oper} (h:rC ops L) (hi:i<L.size) (ho:ops[i]? =some o) (hall:∀e ∈ o.after,Region.binds .any e=true->L.getD e.on false=true):rC ops (L.setIfInBounds i true):=by
 have keep:∀k,L.getD k false=true->(L.setIfInBounds i true).getD k false=true:=by
  intro k hk;by_cases e:k=i
  . subst e;exact qm hi
  . rw [dF e];exact hk
 intro j p hp hj e he hb;by_cases ej:j=i
 . subst ej;obtain rfl:p=o:=Option.some.inj (hp.symm.trans ho);exact keep _ (hall e he hb)
 . rw [dF ej] at hj;exact keep _ (h j p hp hj e he hb)
def abt (acc:List Nat) (o:Oper):Nat:=o.after.toList.foldl (fun m e=>if Region.binds .any e then m ||| (2^e.on ||| acc.getD e.on 0) else m) 0
def oD:List Oper->List Nat->List Nat
  | [],acc=>acc
  | o::r,acc=>oD r (acc++[abt acc o])
theorem VI (acc:List Nat):∀(es:List Edge) (m j:Nat),(es.foldl (fun m e=>if Region.binds .any e then m ||| (2^e.on ||| acc.getD e.on 0) else m) m).testBit j=true->
    m.testBit j=true\/∃e ∈ es,Region.binds .any e=true/\(j=e.on\/(acc.getD e.on 0).testBit j=true):=by
 intro es;induction es with
 | nil=>intro m j h;exact .inl h
 | cons e r ih=>
  intro m j h;rw [List.foldl_cons] at h;rcases ih _ j h with h1 | ⟨e',he',hb,h1⟩
  . by_cases hb:Region.binds .any e=true
    . rw [if_pos hb,Nat.testBit_or,Nat.testBit_or,Bool.or_eq_true,Bool.or_eq_true] at h1;rcases h1 with h1|h1|h1
      . exact .inl h1
      . refine .inr ⟨e,by simp,hb,.inl ?_⟩;rw [Nat.testBit_two_pow,decide_eq_true_eq] at h1;exact h1.symm
      . exact .inr ⟨e,by simp,hb,.inr h1⟩
    . rw [if_neg hb] at h1;exact .inl h1
  . exact .inr ⟨e',by simp [he'],hb,h1⟩
def aaT (l:List Oper) (L:Array Bool) (i m:Nat):Prop:=∀o,l[i]? =some o->(∀e ∈ o.after,Region.binds .any e=true->L.getD e.on false=true)->∀j,m.testBit j=true->L.getD j false=true
theorem qX {l:List Oper} {L:Array Bool} (hcl:rC l.toArray L):∀(r:List Oper) (acc:List Nat) (k:Nat),acc.length=k->(∀j,r[j]? =l[k+j]?)->(∀i,i<k->aaT l L i (acc.getD i 0))->∀i,aaT l L i ((oD r acc).getD i 0):=by
 intro r;induction r with
 | nil=>
  intro acc k hk hr hg i;by_cases h:i<k
  . exact hg i h
  . intro o ho _ j hj;rw [oD,List.getD_eq_getElem?_getD,List.getElem?_eq_none xo] at hj;simp at hj
 | cons o r ih=>
  intro acc k hk hr hg;rw [oD];refine ih _ (k+1) (by simp [hk]) (fun j=>by have:=hr (j+1);rw [List.getElem?_cons_succ] at this;rw [this];congr 1;omega) ?_;intro i hi;by_cases h:i<k
  . rw [List.getD_eq_getElem?_getD,List.getElem?_append_left xo,<-List.getD_eq_getElem?_getD];exact hg i h
  . have hik:i=k:=xo;subst hik;rw [List.getD_eq_getElem?_getD,List.getElem?_append_right xo];intro o' ho' hall j hj;have ho:l[i]? =some o:=by have:=hr 0;simpa using this.symm
    obtain rfl:o'=o:=Option.some.inj (ho'.symm.trans ho);simp only [hk,Nat.sub_self,List.getElem?_cons_zero,Option.getD_some] at hj;rcases VI acc _ _ _ hj with h0 | ⟨e,he,hb,h1⟩
    . simp at h0
    . have hl:=hall e (by simpa using he) hb;rcases h1 with rfl|h1
      . exact hl
      . by_cases hek:e.on<i
        . have hlen:i<l.length:=(List.getElem?_eq_some_iff.1 ho).1;have hoe:l[e.on]? =some (l[e.on]'xo):=List.getElem?_eq_getElem xo;exact hg e.on hek _ hoe (fun e2 he2 hb2=>hcl e.on _ (by rw [List.getElem?_toArray];exact hoe) hl e2 he2 hb2) j h1
        . rw [List.getD_eq_getElem?_getD,List.getElem?_eq_none xo] at h1;simp at h1
def aau (l:List Oper) (n:Nat):Bool:=
  (List.range l.length).all fun i=>decide (i<n)||(decide ((oD l []).getD i 0%2^i=2^i-1)&&match l[i]? with|some o=>o.after.all (fun e=> !Region.binds .any e||decide (e.on<i))|none=>true)
theorem IW (I:Array Bool->Act->World->Prop)
    (hac:∀(i:Nat) (o:Oper),ops[i]? =some o->∀e ∈ o.after,Region.binds .any e=true->e.on<i)
    (step:∀(L:Array Bool) (a:Act) (w:World) (i:Nat) (o:Oper),L.size=ops.size->ops[i]? =some o->L.getD i false=false->
      (∀e ∈ o.after,Region.binds .any e=true->L.getD e.on false=true)->rC ops L->I L a w->wpOpIn F dp P ops Q i (I (L.setIfInBounds i true)) a w)
    (done:∀(L:Array Bool) (a:Act) (w:World),L.size=ops.size->(∀i,i<ops.size->L.getD i false=true)->I L a w->Q .normal a w):
    ∀(f:Nat) (L:Array Bool) (a:Act) (w:World),L.size=ops.size->leftOf L ops.size<=f->rC ops L->I L a w->wpAnyIn F dp P .any ops Q f L a w:=by
 have qx:∀(L:Array Bool),L.size=ops.size->Region.ready .any ops L=[]->∀i,i<ops.size->L.getD i false=true:=by
  intro L hs hr i;induction i using Nat.strongRecOn with
  | ind i ih=>
   intro hi;cases hc:L.getD i false with
   | true=>rfl
   | false=>
    have hm:i ∈ Region.ready .any ops L:=by
     refine mem_ready.2 ⟨?_,ops[i],Array.getElem?_eq_some_iff.2 ⟨hi,rfl⟩,fun e he hb=> ?_⟩
     . have h1:i<L.size:=xo;simp [h1] at hc ⊢;exact hc
     . have:=hac i ops[i] (Array.getElem?_eq_some_iff.2 ⟨hi,rfl⟩) e he hb;exact ih e.on this xo
    rw [hr] at hm;cases hm
 intro f;induction f with
 | zero=>
  intro L a w hs hl hcl hI;have hall:=uM (L:=L) ops.size xo;refine ⟨?_,done L a w hs hall hI⟩;rw [List.eq_nil_iff_forall_not_mem];intro i hi;obtain ⟨h1,o,ho,_⟩:=mem_ready.1 hi;have hlt:=(Array.getElem?_eq_some_iff.1 ho).1;have h2:=hall i hlt;have h3:i<L.size:=xo;simp [h3] at h1 h2;rw [h1] at h2;cases h2
 | succ f ih=>
  intro L a w hs hl hcl hI;refine ⟨fun hr=>done L a w hs (qx L hs hr) hI,fun i hi=> ?_⟩;obtain ⟨h1,o,ho,hall⟩:=mem_ready.1 hi;have hlt:=(Array.getElem?_eq_some_iff.1 ho).1;have h3:i<L.size:=xo;have h4:L.getD i false=false:=by simp [h3] at h1 ⊢;exact h1
  refine wpOpIn_mono (fun a' w' hI'=>ih _ a' w' (by simpa using hs) ?_ (hcl.set h3 ho hall) hI') (step L a w i o hs ho h4 hall hcl hI);have:=xh h3 h4 ops.size hlt;omega
def aaM (F:Fence) (dp:Nat) (P:Program) (ops:Array Oper) (Q:Exit->Act->World->Prop) (D:List Nat) (t0:Array Value) (n:Nat) (ds:List Deferred) (J:World->Prop) (Ext:World->World->Prop) (G:Nat->Value->World->Prop) (k:Nat) (o:Oper):Prop:=
  ∀ (u:Nat->Value) (a:Act) (w:World),(∀t,t<n->a.tmps.getD t undef=wO D u t0 t)->J w->
    (∀(j:Nat) (p:Oper),(o.after.any fun e=>Region.binds .any e&&e.on==j)=true->ops[j]? =some p->G j (valOf u p) w)->
    ∀K:Act->World->Prop,(∀v w',(o.dst=none->v=undef)->J w'->G k v w'->Ext w w'->K (a.put o.dst v) w')->if Region.wanted o (yielded ops a.tmps) then o.wpIn F dp P a w K Q else (∀f,o.about P w a.eval=some f->F.fn f)/\K (a.put o.dst undef) w
def DV (F:Fence) (dp:Nat) (P:Program) (ops:Array Oper) (Q:Exit->Act->World->Prop) (D:List Nat) (t0:Array Value) (n:Nat) (ds:List Deferred) (J:World->Prop) (Ext:World->World->Prop) (G:Nat->Value->World->Prop):Nat->List Oper->Prop
  | _,[]=>True
  | k,o::rest=>aaM F dp P ops Q D t0 n ds J Ext G k o/\DV F dp P ops Q D t0 n ds J Ext G (k+1) rest
theorem DV.at {D:List Nat} {t0:Array Value} {n:Nat} {ds:List Deferred} {J:World->Prop} {Ext:World->World->Prop} {G:Nat->Value->World->Prop}:∀ {l:List Oper} {k:Nat},DV F dp P ops Q D t0 n ds J Ext G k l->∀ {i:Nat} {o:Oper},l[i]? =some o->aaM F dp P ops Q D t0 n ds J Ext G (k+i) o
  | [],_,_,i,o,ho=>by simp at ho
  | x::rest,k,h,0,o,ho=>by simp at ho;subst ho;exact h.1
  | x::rest,k,h,i+1,o,ho=>by
   have:=DV.at h.2 (i:=i) (o:=o) (by simpa using ho);rwa [Nat.add_assoc,Nat.add_comm 1 i] at this
theorem BH {l:List Oper} {i:Nat} {o:Oper} {a:Act} {w:World} (ho:l[i]? =some o) (h:wpListIn F dp P l.toArray Q (l.drop i) a w):wpOpIn F dp P l.toArray Q i (wpListIn F dp P l.toArray Q (l.drop (i+1))) a w:=by
 have hi:=(List.getElem?_eq_some_iff.1 ho).1;have hd:l.drop i=o::l.drop (i+1):=by
  rw [List.drop_eq_getElem_cons hi];congr 1
  exact (List.getElem?_eq_some_iff.1 ho).2
 rw [hd] at h;unfold wpOpIn;simp only [List.getElem?_toArray,ho];exact h
def Po (l:List Oper) (n:Nat):Bool:=
  (dstsOf l).Nodup&&(dstsOf l).all (fun d=>decide (d<n)) &&
  (List.range l.length).all fun i=>match l[i]? with|some o=>o.after.all fun e=> !Region.binds .any e||decide (e.on<i)|none=>true
theorem gX {id:Nat} {l:List Oper} {t0:Array Value} {ds:List Deferred} {w0:World} {N:Nat} (n:Nat) (hm:P.follows .mixedOrders=true) (hn:t0.size=N) (hB:Po (l.take n) N=true) (hT:aau l n=true) (hle:n<=l.length)
    (J:World->Prop) (Ext:World->World->Prop) (G:Nat->Value->World->Prop) (hst:∀k x w w',Ext w w'->G k x w->G k x w') (hJ:J w0.drew)
    (hop:DV F dp P l.toArray Q (dstsOf (l.take n)) t0 N ds J Ext G 0 (l.take n))
    (hdone:∀(u:Nat->Value) (w:World),J w->(∀(k:Nat) (o:Oper),(l.take n)[k]? =some o->G k (valOf u o) w)->wpListIn F dp P l.toArray Q (l.drop n) {tmps:=aX (dstsOf (l.take n)) u t0,defers:=ds} w):
    (Code.region id l.toArray true).wpIn F dp P Q {tmps:=t0,defers:=ds} w0:=by
 subst hn;simp only [Po,Bool.and_eq_true,List.all_eq_true,decide_eq_true_eq] at hB;obtain ⟨⟨hnd,hlt⟩,hac⟩:=hB;simp only [aau,List.all_eq_true,List.mem_range,Bool.or_eq_true,decide_eq_true_eq] at hT;have htk:∀ {k:Nat} {o:Oper},(l.take n)[k]? =some o↔k<n/\l[k]? =some o:=by
  intro k o;rw [List.getElem?_take];by_cases h:k<n
  . rw [if_pos h];exact ⟨fun h1=>⟨h,h1⟩,fun h1=>h1.2⟩
  . rw [if_neg h];exact ⟨fun h1=>(by cases h1),fun h1=>absurd h1.1 h⟩
 refine wpIn_region_any hm (IW (F:=F) (dp:=dp) (ops:=l.toArray)
   (fun L a w=>((∀i,n<=i->L.getD i false=false)/\∃u:Nat->Value,a= {tmps:=aX (dstsOf (l.take n)) u t0,defers:=ds}/\J w/\∀(k:Nat) (o:Oper),(l.take n)[k]? =some o->L.getD k false=true->G k (valOf u o) w) \/
     (∃m,n<=m/\m<=l.length/\(∀i,i<m->L.getD i false=true)/\(∀i,m<=i->L.getD i false=false)/\wpListIn F dp P l.toArray Q (l.drop m) a w))
   ?_ ?_ ?_ _ _ _ _ ax (su _ _) (fun j p hp hj=>by simp [Array.getD] at hj) (.inl ⟨fun i _=>by rw [List.size_toArray];simp [Array.getD],fun t=>t0.getD t undef,by rw [kS],hJ,fun k o _ h=> ?_⟩))
 . intro i o ho e he hb;have hi:i<l.length:=(Array.getElem?_eq_some_iff.1 ho).1;rw [List.getElem?_toArray] at ho;by_cases hin:i<n
   . have h1:(l.take n)[i]? =some o:=htk.2 ⟨hin,ho⟩;have:=hac i (List.mem_range.2 (List.getElem?_eq_some_iff.1 h1).1);rw [h1] at this;have h2:=Array.all_eq_true_iff_forall_mem.1 this e he;rw [hb] at h2;simpa using h2
   . have h1:=hT i hi;rcases h1 with h1|h1
     . omega
     . rw [ho] at h1;simp only [Bool.and_eq_true] at h1;have h2:=Array.all_eq_true_iff_forall_mem.1 h1.2 e he;rw [hb] at h2;simpa using h2
 . rintro L a w i o hs ho hi hall hcl hI;rw [List.getElem?_toArray] at ho;have hil:i<l.length:=(List.getElem?_eq_some_iff.1 ho).1;have hilt:i<L.size:=by rw [hs];simpa using hil
   have ahead:n<=i->∀j,j<i->L.getD j false=true:=by
    intro hin j hj;have h1:=hT i hil;rcases h1 with h1|h1
    . omega
    . simp only [Bool.and_eq_true,decide_eq_true_eq] at h1;have hbit:((oD l []).getD i 0).testBit j=true:=by
       have h2:=congrArg (fun m=>Nat.testBit m j) h1.1;simp only [Nat.testBit_mod_two_pow,Nat.testBit_two_pow_sub_one,decide_eq_true hj,Bool.true_and] at h2;exact h2
      exact qX hcl l [] 0 rfl (fun j=>by rw [Nat.zero_add]) (fun i hi=>by omega) i o ho hall j hbit
   have later:∀(m:Nat),n<=m->m=i->(∀j,m<=j->L.getD j false=false)->(∀j,j<m->L.getD j false=true)->wpListIn F dp P l.toArray Q (l.drop m) a w->
       wpOpIn F dp P l.toArray Q i (fun a' w'=>((∀k,n<=k->(L.setIfInBounds i true).getD k false=false)/\∃u:Nat->Value,a'= {tmps:=aX (dstsOf (l.take n)) u t0,defers:=ds}/\J w'/\∀(k:Nat) (o:Oper),(l.take n)[k]? =some o->(L.setIfInBounds i true).getD k false=true->G k (valOf u o) w') \/
         (∃m,n<=m/\m<=l.length/\(∀k,k<m->(L.setIfInBounds i true).getD k false=true)/\(∀k,m<=k->(L.setIfInBounds i true).getD k false=false)/\wpListIn F dp P l.toArray Q (l.drop m) a' w')) a w:=by
    rintro m hnm rfl hno hyes hw;refine wpOpIn_mono (fun a' w' h=> .inr ⟨m+1,by omega,by omega,fun k hk=> ?_,fun k hk=> ?_,h⟩) (BH ho hw)
    . by_cases e:k=m
      . subst e;exact qm hilt
      . rw [dF e];exact hyes k xo
    . rw [dF xo];exact hno k xo
   rcases hI with ⟨hno,u,rfl,hJw,hG⟩ | ⟨m,hnm,hml,hyes,hno,hw⟩
   . by_cases hin:i<n
     . have nz:(l.take n)[i]? =some o:=htk.2 ⟨hin,ho⟩;have hok:=hop.at nz;rw [Nat.zero_add] at hok;unfold wpOpIn;simp only [List.getElem?_toArray,ho];refine hok u {tmps:=aX (dstsOf (l.take n)) u t0,defers:=ds} w (fun t ht=>iU ht) hJw (fun j p hj hp=> ?_) _ (fun v w' hv hJ' hG' hE=> ?_)
       . rw [List.getElem?_toArray] at hp;obtain ⟨e,he,hbe⟩:=Array.any_eq_true.1 hj;simp only [Bool.and_eq_true,beq_iff_eq] at hbe;have hl:=hall _ (Array.getElem_mem he) hbe.1;rw [hbe.2] at hl;have hjn:j<n:=by
          by_cases h:j<n
          . exact h
          . rw [hno j xo] at hl;cases hl
         exact hG j p (htk.2 ⟨hjn,hp⟩) hl
       . refine Or.inl ⟨fun k hk=>by rw [dF xo];exact hno k hk,?_⟩;cases hd:o.dst with
         | none=>
          refine ⟨u,rfl,hJ',fun k p hp hk=> ?_⟩;by_cases e:k=i
          . subst e;obtain rfl:p=o:=Option.some.inj (hp.symm.trans nz);have:valOf u p=undef:=by simp [valOf,hd]
            rw [this,<-hv hd];exact hG'
          . rw [dF e] at hk;exact hst _ _ _ _ hE (hG k p hp hk)
         | some d=>
          have hdm:(dstsOf (l.take n)).contains d=true:=by
           simp only [List.contains_iff_mem];exact List.mem_filterMap.2 ⟨o,List.mem_of_getElem? nz,hd⟩
          refine ⟨fun t=>if t=d then v else u t,by simp only [Act.put,ng hdm],hJ',fun k p hp hk=> ?_⟩;by_cases e:k=i
          . subst e;obtain rfl:p=o:=Option.some.inj (hp.symm.trans nz);simpa [valOf,hd] using hG'
          . rw [dF e] at hk;have hne:=qy hnd nz hp (fun h=>e h.symm) hd;have:valOf (fun t=>if t=d then v else u t) p=valOf u p:=by
             unfold valOf;cases hpd:p.dst with
             | none=>rfl
             | some d'=>exact if_neg (fun h=>hne (by rw [hpd,h]))
            rw [this];exact hst _ _ _ _ hE (hG k p hp hk)
     . have hin':n=i:=by
         by_cases e:n=i
         . exact e
         . have:=ahead xo n xo;rw [hno n (Nat.le_refl _)] at this;cases this
       refine later n (Nat.le_refl _) hin' hno (fun j hj=>ahead xo j xo) (hdone u w hJw fun k p hp=>hG k p hp (ahead xo k ?_));have:=(htk.1 hp).1;omega
   . have him:m<=i:=by
       by_cases h:m<=i
       . exact h
       . have:=hyes i xo;rw [hi] at this;cases this
     have Qd:m=i:=by
      by_cases e:m=i
      . exact e
      . have:=ahead xo m xo;rw [hno m (Nat.le_refl _)] at this;cases this
     exact later m hnm Qd hno hyes hw
 . rintro L a w hs hall hI;rw [List.size_toArray] at hall;rcases hI with ⟨hno,u,rfl,hJw,hG⟩ | ⟨m,hnm,hml,hyes,hno,hw⟩
   . have hnl:n=l.length:=by
       by_cases e:n=l.length
       . exact e
       . have:=hall n xo;rw [hno n (Nat.le_refl _)] at this;cases this
     have hq:=hdone u w hJw fun k p hp=>hG k p hp (hall k (by have:=(htk.1 hp).1;omega))
     have hd:l.drop n=[]:=by rw [hnl];exact List.drop_length
     rw [hd] at hq;exact hq
   . have Ha:m=l.length:=by
       by_cases e:m=l.length
       . exact e
       . have:=hall m xo;rw [hno m (Nat.le_refl _)] at this;cases this
     rw [Ha,List.drop_length] at hw;exact hw
 . rw [List.size_toArray] at h;simp [Array.getD] at h
end
theorem gY {ops:Array Oper} {tmps:Array Value} {o:Oper} {j t:Nat} {b:Bool} (hg:o.guard=some (j,b)) (hd:(ops[j]?).bind (·.dst)=some t) (h:tmps.getD t undef= .bool b):Region.wanted o (yielded ops tmps)=true:=by
 have h2:tmps[t]? =some (.bool b):=by
  cases hx:tmps[t]? with
  | none=>rw [Array.getD_eq_getD_getElem?,hx] at h;cases h
  | some v=>rw [Array.getD_eq_getD_getElem?,hx] at h;simp at h;rw [h]
 simp [Region.wanted,hg,yielded,hd,h2]
theorem iL {ops:Array Oper} {tmps:Array Value} {o:Oper} {j t:Nat} {b:Bool} (hg:o.guard=some (j,b)) (hd:(ops[j]?).bind (·.dst)=some t) (h:tmps.getD t undef= .bool (!b)):Region.wanted o (yielded ops tmps)=false:=by
 have h2:tmps[t]? =some (.bool (!b)):=by
  cases hx:tmps[t]? with
  | none=>rw [Array.getD_eq_getD_getElem?,hx] at h;cases h
  | some v=>rw [Array.getD_eq_getD_getElem?,hx] at h;simp at h;rw [h]
 simp [Region.wanted,hg,yielded,hd,h2]
theorem bg {ops:Array Oper} {tmps:Array Value} {o:Oper} (hg:o.guard=none):Region.wanted o (yielded ops tmps)=true:=by simp [Region.wanted,hg]
end
section
open Go.RowKit Go.Shelf
attribute [local go_sem] Oper.semAt_some
def aC (w:World) (v:Value) (e:Ending) (w':World):Prop:=e= .returned v/\Below w.heap.size w w'
structure aao (ws:List Int) (a b bo B:Nat) (w:World) (k:Nat) (W:World):Prop where
 box:W.cell? ⟨bo,0,none⟩=some (.int .i64 (Eu ws a b k))
 fz:W.frozen? ⟨bo,0,none⟩=false
 bel:Below B w W
theorem aao.calm {ws:List Int} {a b bo B M:Nat} {w:World} {k:Nat} {W W':World} (h:aao ws a b bo B w k W) (hc:Calm M W W') (hB:B<=M):aao ws a b bo B w k W':=
  ⟨hc.cell h.box,hc.frozen h.box h.fz,hc.below hB h.bel⟩
theorem LC (wa:Option Addr) (wc:Nat) (ws:List Int) (hu:fB ws) (n a b:Nat) (hn:n<=65536) (hl:ws.length<=9223372036854775807) (hmay:j_ ws n=true) (hab:a<=b) (hbn:b<=n) (w:World) (hw:aQ .u64 w wa ws):
    Calls Tryz.prog 54 #[.slice wa ws.length wc,.int .i64 n,.int .i64 a,.int .i64 b] w (aC w (.tuple #[.int .i64 (dD ws a b),.int .i64 0])):=by
 have AK:=hid (fun w hw=>Ld wa wc ws hu n hn hl hmay w hw);have hlen:n<=64*ws.length:=by
  simp only [j_,Bool.and_eq_true,decide_eq_true_eq] at hmay;omega
 have IT:=hid (fun S b1 b2 b3 s1 s2 s3 sw w hw c1 c2 c3=>uF wa wc ws hu a b hab xo xo hl S b1 b2 b3 s1 s2 s3 sw w hw c1 c2 c3);have HW:=hid hw;have HC:=hid (WP hu hab);have QE:=hid (fun x (h:wa=some x) (h0:0<ws.length)=>(show x.block<w.heap.size from by
  obtain ⟨bb,off,x',hx,-,-,hlt⟩:=hw.get h0;rw [hx] at h;cases h;exact hlt))
 obtain ⟨m,hm⟩:∃m,(b+63)/64-a/64=m:=⟨_,rfl⟩
 have HP:=hid (fun k (hk:k<m)=>tV ws (a:=a) (b:=b) (k:=k) xo);have Ap:=hid ((oC ws a b).trans hm);have HV:=hid (fun k (hk:k<m)=>Hy hu (a:=a) (b:=b) (k:=a/64+k) xo);have HLE:=hid (Zz (ws:=ws) a b);have HS:=hid (FB ws a b);have hmb:m<=1024:=xo;rw [hm] at HC;obtain ⟨M,hM⟩:∃M,ws.length=M:=⟨_,rfl⟩
 have HM:=hid hM;rw [hM] at hlen hl AK IT QE ⊢;clear hw hmay hM hu hm;refine dM Tryz.func54 rfl ?_;simp only [Tryz.ntmps54,List.size_toArray,List.length_cons,List.length_nil,Nat.reduceAdd,Nat.reduceSub,Array.replicate_succ,Array.replicate_zero,List.push_toArray,List.append_toArray,List.nil_append,List.cons_append];go_wp2_with fail
 refine (AK.out _ (HW.out.below (br.alloc (Nat.le_refl _) _))).mono ?_;rintro e w' ⟨rfl,rfl⟩;go_wp2_with fail
 refine (CS wa M wc a b _).mono ?_;rintro e w2 ⟨rfl,rfl⟩;go_wp2
 refine BG (xs:=og ws a b) (Kp:=EF (fun k=>k≠w.heap.size/\k<w.heap.size+4)) rfl (enters_of Tryz.func176 xk rfl)
   (IT.out (fun k=>k≠w.heap.size/\k<w.heap.size+4) (w.heap.size+1) (w.heap.size+1+1) (w.heap.size+1+2) xo xo xo ?sw _ ?hw ?c1 ?c2 ?c3) br (fun _ _ _=>rfl) (fun h k=>fun i hi=>(k i hi).trans (h i hi)) ?kb ?ps
   (aao ws a b w.heap.size w.heap.size w) (fun _ _=>False) ?hI (fun _ _ _ h _=>h) ?h0 ?round ?done (fun _ _ _ _ h _=>h.elim)
 case sw=>intro x hx h0;have:=QE.out x hx h0;omega
 case hw=>exact HW.out.below aH
 case c1=>(exact dL)
 case c2=>(exact dL)
 case c3=>(exact dL)
 case kb=>
  intro W l o o' hl _ _ k hk;simp at hl;exact World.putObj_heap_other xo
 case ps=>
  intro x hx;simp only [og,List.mem_map] at hx;obtain ⟨k,_,rfl⟩:=hx;rfl
 case hI=>
  intro k W W' h hc;exact h.calm hc (by simp;omega)
 case h0=>
  exact ⟨by rw [Fz];(exact dL),by (exact dL),by (exact aH)⟩
 case round=>
  intro l k W hl hk hi;rw [Ap.out] at hk;rw [HP.out k hk];have hv:=HV.out k hk;have h1:=HLE.out k;have h2:=GH (cutV ws a b (a/64+k));have h3:=HS.out k;have O1:=hid (fun W=>Qz (cutV ws a b (a/64+k)) hv.1 hv.2 W);generalize cutV ws a b (a/64+k)=x at *;generalize wC x=px at *;gi_wp2
  refine ⟨rfl,?_⟩;intro W2 hi2;have hcb:=hi2.box;have hfz:=hi2.fz;generalize Eu ws a b k=s at *;have H3:=hid h3;clear h3;gi_wp2
  refine gX 4 xk (N:=42) rfl xk xk au (fun w'=>w'=W2.drew) (Ext 29) (rO [.is (.int .i64 s),.is (.int .u64 x),.is (.int .i64 px),.is (.int .i64 (s+px))]) (iV _) rfl ?steps ?fin
  case steps=>
   refine ⟨?o0,?o1,?o2,?o3,trivial⟩<;>intro u a w' ev hJ hd K hK
   case o0=>
    have e1:tg a 8= .pointer (some ⟨w.heap.size,0,none⟩):=ev 8 au;have HK:=hid hK;subst hJ;clear hK ev hd;rw [if_pos (bg rfl)];go_simp;exact HK.out _ _ aS rfl rfl (Ext.refl _ _)
   case o1=>
    have e1:tg a 12= .int .u64 x:=ev 12 au;have HK:=hid hK;subst hJ;clear hK ev hd;rw [if_pos (bg rfl)];go_simp;exact HK.out _ _ aS rfl rfl (Ext.refl _ _)
   case o2=>
    have e1:tg a 38= .int .u64 x:=(ev 38 au).trans (hd 1 _ xk rfl);have HK:=hid hK;subst hJ;clear hK ev hd;rw [if_pos (bg rfl)];go_simp;refine ⟨trivial,rfl,(callsIn_wide.2 (O1.out _)).mono ?_⟩;rintro e w'' ⟨rfl,rfl⟩;exact HK.out _ _ aS rfl rfl (Ext.refl _ _)
   case o3=>
    have e1:tg a 37= .int .i64 s:=(ev 37 au).trans (hd 0 _ xk rfl);have e2:tg a 39= .int .i64 px:=(ev 39 au).trans (hd 2 _ xk rfl);have HK:=hid hK;have hwr:IntKind.i64.wrap ((s:Int)+(px:Int))=(s:Int)+(px:Int):=IntWalk.i64_in _ xo;subst hJ;clear hK ev hd;rw [if_pos (bg rfl)];go_simp;exact HK.out _ _ aS rfl rfl (Ext.refl _ _)
  case fin=>
   intro u w2 hJ hG;have h3:u 40= .int .i64 (s+px):=hG 3 _ rfl;subst hJ;clear hG;simp only [aX,kR,dstsOf,List.take_succ_cons,List.take_zero,List.filterMap_cons,List.filterMap_nil,List.contains_cons,List.contains_nil,Nat.reduceBEq,Bool.or_false,Bool.false_or,Bool.or_true,Bool.true_or,if_true,if_false,Bool.false_eq_true,Nat.reduceAdd,Nat.zero_add,List.drop_succ_cons,List.drop_zero,h3];gi_wp2
   have e:((Eu ws a b (k+1):Nat):Int)=(s:Int)+(px:Int):=by rw [H3.out];push_cast;rfl
   refine ⟨(KeepsOthers.setCell W2 ⟨w.heap.size,0,none⟩ (.int .i64 ((s:Int)+px))).trans (JK _ 1),fun i hi=>Below.heap_setCell W2 ⟨w.heap.size,0,none⟩ _ _ hi.1,⟨?_,?_,?_⟩⟩
   . rw [e];exact World.cell?_setCell_same _ _ _ hcb
   . rw [World.frozen?_drew,World.frozen?_setCell];exact hfz
   . exact (hi2.bel.setCell (Nat.le_refl _) _).drew
 case done=>
  intro D W hD hi hK;have hcb:=hi.box;have hfz:=hi.fz;rw [Ap.out,HC.out] at hcb;generalize dD ws a b=s at *;go_wp2
  simp at hD;have hK2:(W.setCell ⟨w.heap.size,0,none⟩ (.int .i64 s)).heap[D]? =some (.deferred (some [])):=(Below.heap_setCell _ _ _ _ (by show D≠w.heap.size;omega)).trans hK;have hcalm:Calm (w.heap.size+1) (W.setCell ⟨w.heap.size,0,none⟩ (.int .i64 s)) ((W.setCell ⟨w.heap.size,0,none⟩ (.int .i64 s)).putObj D (.deferred none)):=Calm.putObj _ xo hK2 rfl;exact jo hK2 (aF rfl rfl (bJ Tryz.underlying3 rfl (hcalm.cell (World.cell?_setCell_same _ _ _ hcb)))) ⟨rfl,hcalm.below xo (hi.bel.setCell (Nat.le_refl _) _)⟩
end
section
open Go.RowKit
def TabAt (w:World):Prop:=∀j,j<64->w.cell? ⟨0,j,none⟩=some (.int .u8 (Lib.deBruijn64tab.getD j 0))
theorem TabAt.below {w w':World} (h:TabAt w) (hb:Below w.heap.size w w'):TabAt w':=fun j hj=>(hb.cell (World.block_lt_of_cell? _ _ (h j hj))).trans (h j hj)
theorem tz64_core (x k idx:Nat) (w:World) (hx0:((x:Int)==0)=false)
    (key:IntKind.u64.wrap (bits BinOp.and IntKind.u64 (x:Int) (IntKind.u64.wrap (-(x:Int)))*285870213051353865)/288230376151711744=(idx:Int))
    (hi:idx<64) (hk:k<64) (hcell:w.cell? ⟨0,idx,none⟩=some (.int .u8 k)):
    Calls Tryz.prog 111 #[.int .u64 x] w fun e w'=>e= .returned (.int .i64 k)/\w=w':=by
 go_enter Tryz.func111,Tryz.ntmps111
 go_wp2_with (simp only [key])
 go_ret
 exact ⟨rfl,rfl⟩
theorem tz64_key (x a:Nat) (hx:x<18446744073709551616) (hx0:x≠0) (hlow:x &&& (18446744073709551616-x)=a):
    IntKind.u64.wrap (bits BinOp.and IntKind.u64 (x:Int) (IntKind.u64.wrap (-(x:Int)))*285870213051353865)/288230376151711744=((a*285870213051353865%18446744073709551616/288230376151711744:Nat):Int):=by
 have e1:IntKind.u64.wrap (-(x:Int))=((18446744073709551616-x:Nat):Int):=by rw [IntKind.wrap_u64];omega
 rw [e1,bits_and_u64_nat x _ hx xo,hlow,IntKind.wrap_u64];omega
def zL (x:Int):Nat:=Lib.ctz 64 x.toNat
theorem aat (x:Int) (h0:0<=x) (h1:x<18446744073709551616) (hx:x≠0) (w:World) (hT:TabAt w):
    Calls Tryz.prog 111 #[.int .u64 x] w fun e w'=>e= .returned (.int .i64 (zL x))/\w=w':=by
 obtain ⟨n,rfl⟩:∃n:Nat,x=n:=⟨x.toNat,by omega⟩
 have hn0:n≠0:=xo;obtain ⟨hlow,hk⟩:=Lib.lowest_bit 64 n hn0 xo;obtain ⟨hi,htab⟩:=Lib.deBruijn64_at _ hk;have hcell:=hT _ hi;rw [htab] at hcell;rw [zL,Int.toNat_natCast];exact tz64_core n _ _ w (by simp;omega) (tz64_key n _ xo hn0 hlow) hi hk hcell
theorem A7 {x:Int} (h0:0<=x) (h1:x<18446744073709551616) (hx:x≠0):zL x<64/\je x (zL x)=true/\∀j,j<zL x->je x j=false:=by
 obtain ⟨n,rfl⟩:∃n:Nat,x=n:=⟨x.toNat,by omega⟩
 have hn0:n≠0:=xo;obtain ⟨m,hm,hk⟩:=Lib.ctzFrom_spec 64 n xo xo;have e:zL (n:Int)=Lib.ctzFrom 64 n:=by rw [zL,Int.toNat_natCast,Lib.ctz,if_neg hn0]
 rw [e];generalize Lib.ctzFrom 64 n=c at *;refine ⟨hk,?_,fun j hj=> ?_⟩
 . rw [fD,hm,Nat.mul_comm,Nat.testBit_mul_two_pow];simp
 . rw [fD,hm,Nat.mul_comm,Nat.testBit_mul_two_pow];simp;omega
end
section
open Go.RowKit Go.Shelf
attribute [local go_sem] Oper.semAt_some
def nx (ws:List Int) (a n:Nat):Option Nat:=(List.range' a (n-a)).find? (bG ws)
theorem GM {ws:List Int} {a n i:Nat}:nx ws a n=some i↔a<=i/\i<n/\bG ws i=true/\∀j,a<=j->j<i->bG ws j=false:=by
 rw [nx,List.find?_eq_some_iff_getElem];constructor
 . rintro ⟨h1,k,hk,h2,h3⟩;rw [List.getElem_range'] at h2;rw [List.length_range'] at hk;refine ⟨by omega,by omega,h1,fun j j1 j2=> ?_⟩;have:=h3 (j-a) xo;rw [List.getElem_range'] at this;rw [show a+1*(j-a)=j by omega] at this;simpa using this
 . rintro ⟨h1,h2,h3,h4⟩;refine ⟨h3,i-a,by rw [List.length_range'];omega,by rw [List.getElem_range'];omega,fun j hj=> ?_⟩;rw [List.getElem_range'];simpa using h4 (a+1*j) xo xo
theorem GN {ws:List Int} {a n:Nat}:nx ws a n=none↔∀j,a<=j->j<n->bG ws j=false:=by
 rw [nx,List.find?_eq_none];constructor
 . intro h j h1 h2;simpa using h j (List.mem_range'_1.2 ⟨h1,by omega⟩)
 . intro h j hj;have:=List.mem_range'_1.1 hj;simpa using h j this.1 xo
structure NxI (ws:List Int) (a n b0 b1 B:Nat) (w:World) (k:Nat) (W:World):Prop where
 free:∀j,a<=j->j<64*(a/64+k)->j<n->bG ws j=false
 box0:W.cell? ⟨b0,0,none⟩=some (.int .i64 0)
 box1:W.cell? ⟨b1,0,none⟩=some (.int .i64 0)
 fz0:W.frozen? ⟨b0,0,none⟩=false
 fz1:W.frozen? ⟨b1,0,none⟩=false
 bel:Below B w W
theorem NxI.calm {ws:List Int} {a n b0 b1 B M:Nat} {w:World} {k:Nat} {W W':World} (h:NxI ws a n b0 b1 B w k W) (hc:Calm M W W') (hB:B<=M):NxI ws a n b0 b1 B w k W':=
  ⟨h.free,hc.cell h.box0,hc.cell h.box1,hc.frozen h.box0 h.fz0,hc.frozen h.box1 h.fz1,hc.below hB h.bel⟩
structure NxX (ws:List Int) (a n b0 b1 B:Nat) (w:World) (c:Code) (W:World):Prop where
 code:c= .ret
 hit:∃i,nx ws a n=some i/\W.cell? ⟨b0,0,none⟩=some (.int .i64 i)
 box1:W.cell? ⟨b1,0,none⟩=some (.int .i64 0)
 bel:Below B w W
theorem NxX.calm {ws:List Int} {a n b0 b1 B M:Nat} {w:World} {c:Code} {W W':World} (h:NxX ws a n b0 b1 B w c W) (hc:Calm M W W') (hB:B<=M):NxX ws a n b0 b1 B w c W':=
  ⟨h.code,h.hit.imp fun i hi=>⟨hi.1,hc.cell hi.2⟩,hc.cell h.box1,hc.below hB h.bel⟩
theorem abq {ws:List Int} {a n k:Nat} (hu:fB ws) (hk:k<(n+63)/64-a/64) (hf:∀j,a<=j->j<64*(a/64+k)->j<n->bG ws j=false) (h0:0<=cutV ws a n (a/64+k)) (h1:cutV ws a n (a/64+k)<18446744073709551616) (hx:cutV ws a n (a/64+k)≠0):
    nx ws a n=some (64*(a/64+k)+zL (cutV ws a n (a/64+k))):=by
 obtain ⟨t1,t2,t3⟩:=A7 h0 h1 hx;rw [sJ hu xo t1] at t2;simp only [JQ,Bool.and_eq_true,decide_eq_true_eq] at t2;obtain ⟨t2,t4,t5⟩:=t2;refine GM.2 ⟨t4,t5,t2,fun j j1 j2=> ?_⟩;by_cases hj:j<64*(a/64+k)
 . exact hf j j1 hj xo
 . have:=t3 (j-64*(a/64+k)) xo;rw [sJ hu xo xo,show 64*(a/64+k)+(j-64*(a/64+k))=j by omega,JQ] at this;rw [decide_eq_true j1,decide_eq_true (by omega:j<n)] at this;simpa using this
theorem Yx {ws:List Int} {a n k:Nat} (hu:fB ws) (hk:k<(n+63)/64-a/64) (hf:∀j,a<=j->j<64*(a/64+k)->j<n->bG ws j=false) (hx:cutV ws a n (a/64+k)=0):
    ∀j,a<=j->j<64*(a/64+(k+1))->j<n->bG ws j=false:=by
 intro j j1 j2 j3;by_cases hj:j<64*(a/64+k)
 . exact hf j j1 hj j3
 . have:=sJ hu (a:=a) (b:=n) (k:=a/64+k) (j:=j-64*(a/64+k)) xo xo;rw [hx,qc,show 64*(a/64+k)+(j-64*(a/64+k))=j by omega,JQ,decide_eq_true j1,decide_eq_true j3] at this;simpa using this.symm
theorem aad (wa:Option Addr) (wc:Nat) (ws:List Int) (hu:fB ws) (n a:Nat) (hn:n<=65536) (hl:ws.length<=9223372036854775807) (hmay:j_ ws n=true) (han:a<=n) (w:World) (hw:aQ .u64 w wa ws) (hT:TabAt w):
    Calls Tryz.prog 178 #[.slice wa ws.length wc,.int .i64 n,.int .i64 a] w (aC w (.tuple #[.int .i64 ((nx ws a n).getD 0:Nat),.int .i64 (if (nx ws a n).isSome then 0 else 6)])):=by
 have AK:=hid (fun w hw=>Ld wa wc ws hu n hn hl hmay w hw);have hlen:n<=64*ws.length:=by
  simp only [j_,Bool.and_eq_true,decide_eq_true_eq] at hmay;omega
 have IT:=hid (fun S b1 b2 b3 s1 s2 s3 sw w hw c1 c2 c3=>uF wa wc ws hu a n han hn xo hl S b1 b2 b3 s1 s2 s3 sw w hw c1 c2 c3);have HW:=hid hw;have HT:=hid hT;have QE:=hid (fun x (h:wa=some x) (h0:0<ws.length)=>(show x.block<w.heap.size from by
  obtain ⟨bb,off,x',hx,-,-,hlt⟩:=hw.get h0;rw [hx] at h;cases h;exact hlt))
 obtain ⟨m,hm⟩:∃m,(n+63)/64-a/64=m:=⟨_,rfl⟩
 have HP:=hid (fun k (hk:k<m)=>tV ws (a:=a) (b:=n) (k:=k) xo);have Ap:=hid ((oC ws a n).trans hm);have HV:=hid (fun k (hk:k<m)=>Hy hu (a:=a) (b:=n) (k:=a/64+k) xo);have HIT:=hid (fun k (hk:k<m) hf h0 h1 hx=>abq (ws:=ws) (a:=a) (n:=n) (k:=k) hu xo hf h0 h1 hx);have MIS:=hid (fun k (hk:k<m) hf hx=>Yx (ws:=ws) (a:=a) (n:=n) (k:=k) hu xo hf hx);have NON:=hid (fun (hf:∀j,a<=j->j<64*(a/64+m)->j<n->bG ws j=false)=>(GN (ws:=ws) (a:=a) (n:=n)).2 fun j j1 j2=>hf j j1 xo j2);have hmb:m<=1024:=xo;have hqb:a/64+m<=1024:=xo;obtain ⟨M,hM⟩:∃M,ws.length=M:=⟨_,rfl⟩
 rw [hM] at hlen hl AK IT QE ⊢;clear hw hmay hM hu hm hT;refine dM Tryz.func178 rfl ?_;simp only [Tryz.ntmps178,List.size_toArray,List.length_cons,List.length_nil,Nat.reduceAdd,Nat.reduceSub,Array.replicate_succ,Array.replicate_zero,List.push_toArray,List.append_toArray,List.nil_append,List.cons_append];obtain ⟨V,hV⟩:∃V:Int,(((nx ws a n).getD 0:Nat):Int)=V:=⟨_,rfl⟩
 obtain ⟨E,hE⟩:∃E:Int,(if (nx ws a n).isSome then (0:Int) else 6)=E:=⟨_,rfl⟩
 rw [hV,hE];have YES:=hid (fun i (h:nx ws a n=some i)=>(show V=i/\E=0 by rw [<-hV,<-hE,h];exact ⟨rfl,rfl⟩));have NO:=hid (fun (h:nx ws a n=none)=>(show V=0/\E=6 by rw [<-hV,<-hE,h];exact ⟨rfl,rfl⟩));clear hV hE;have g1:decide ((0:Int)<=a)=true:=by simp
 have g2:decide ((a:Int)<=n)=true:=by simp;omega
 go_wp2_with fail
 refine (AK.out _ (HW.out.below ((br.alloc (Nat.le_refl _) _).alloc ax _))).mono ?_;rintro e w' ⟨rfl,rfl⟩;go_wp2_with fail
 refine (CS wa M wc a n _).mono ?_;rintro e w2 ⟨rfl,rfl⟩;go_wp2
 refine BG (xs:=og ws a n) (Kp:=EF (fun k=>k≠w.heap.size/\k≠w.heap.size+1/\k<w.heap.size+5)) rfl (enters_of Tryz.func176 xk rfl)
   (IT.out (fun k=>k≠w.heap.size/\k≠w.heap.size+1/\k<w.heap.size+5) (w.heap.size+1+1) (w.heap.size+1+1+1) (w.heap.size+1+1+2) xo xo xo ?sw _ ?hw ?c1 ?c2 ?c3) br (fun _ _ _=>rfl) (fun h k=>fun i hi=>(k i hi).trans (h i hi)) ?kb ?ps
   (NxI ws a n w.heap.size (w.heap.size+1) w.heap.size w) (NxX ws a n w.heap.size (w.heap.size+1) w.heap.size w) ?hI ?hX ?h0 ?round ?done ?stop
 case sw=>intro x hx h0;have:=QE.out x hx h0;omega
 case hw=>exact HW.out.below aH
 case c1=>(exact dL)
 case c2=>(exact dL)
 case c3=>(exact dL)
 case kb=>
  intro W l o o' hl _ _ k hk;simp at hl;exact World.putObj_heap_other xo
 case ps=>
  intro x hx;simp only [og,List.mem_map] at hx;obtain ⟨k,_,rfl⟩:=hx;rfl
 case hI=>
  intro k W W' h hc;exact h.calm hc (by simp;omega)
 case hX=>
  intro k W W' h hc;exact h.calm hc (by simp;omega)
 case h0=>
  exact ⟨fun j j1 j2=>by omega,by (exact dL),by (exact dL),by (exact dL),by (exact dL),by (exact aH)⟩
 case round=>
  intro l k W hl hk hi;rw [Ap.out] at hk;rw [HP.out k hk];have hv:=HV.out k hk;have HI:=hid (fun hf=>HIT.out k hk hf hv.1 hv.2);have MI:=hid (fun hf=>MIS.out k hk hf);have T1:=hid (fun (hx:cutV ws a n (a/64+k)≠0) W hT=>aat _ hv.1 hv.2 hx W hT);have T2:=hid (fun (hx:cutV ws a n (a/64+k)≠0)=>(A7 hv.1 hv.2 hx).1);generalize cutV ws a n (a/64+k)=x at *;gi_wp2
  refine ⟨rfl,?_⟩;intro W2 hi2;have hb0:=hi2.box0;have hb1:=hi2.box1;have hf0:=hi2.fz0;have hf1:=hi2.fz1;have HFR:=hid hi2.free;have ru:=hid hi2.bel;have hkq:a/64+k<=1024:=xo;by_cases hx:x=0
  . subst hx;have MM:=hid (MI.out HFR.out rfl);clear hi hi2 HI MI T1 T2;gi_wp2
    exact ⟨KeepsOthers.refl _,fun _ _=>rfl,⟨MM.out,hb0,hb1,hf0,hf1,ru.out⟩⟩
  . have hx2:(x != 0)=true:=by simpa using hx
    have HH:=hid (HI.out HFR.out hx);have TT:=hid (T1.out hx W2 (HT.out.below ru.out));have T3:=T2.out hx;generalize zL x=t at *;have HE:Hid (((64*(a/64+k)+t:Nat):Int)=64*((a:Int)/64+k)+t):=hid (by push_cast;rfl);clear hi hi2 HI MI T1 T2 hx;gi_wp2_with fail
    refine ⟨trivial,rfl,(callsIn_wide.2 TT.out).mono ?_⟩;rintro e w' ⟨rfl,rfl⟩;gi_wp2
    refine ⟨(KeepsOthers.setCell W2 ⟨w.heap.size,0,none⟩ _).trans (KeepsOthers.setCell _ ⟨w.heap.size+1,0,none⟩ _),⟨rfl,⟨_,HH.out,?_⟩,?_,?_⟩⟩
    . rw [HE.out,World.cell?_setCell_other _ _ _ _ (by intro e;simp at e)];exact World.cell?_setCell_same _ _ _ hb0
    . exact World.cell?_setCell_same _ _ _ (by rw [World.cell?_setCell_other _ _ _ _ (by intro e;simp at e)];exact hb1)
    . exact (ru.out.setCell dG _).setCell dG _
 case done=>
  intro D W hD hi hK;have hb0:=hi.box0;have hb1:=hi.box1;have hf0:=hi.fz0;have hf1:=hi.fz1;have hfr:=hi.free;have hbl:=hi.bel;rw [Ap.out] at hfr;obtain ⟨rfl,rfl⟩:=NO.out (NON.out hfr);simp at hD;have ru:=hid hbl;clear hi hfr hbl YES NO NON HIT MIS HV HP;go_wp2
  have hK2:((W.setCell ⟨w.heap.size,0,none⟩ (.int .i64 0)).setCell ⟨w.heap.size+1,0,none⟩ (.int .i64 6)).heap[D]? =some (.deferred (some [])):=((Below.heap_setCell _ _ _ _ (by show D≠w.heap.size+1;omega)).trans (Below.heap_setCell _ _ _ _ (by show D≠w.heap.size;omega))).trans hK;have hcalm:Calm (w.heap.size+2) ((W.setCell ⟨w.heap.size,0,none⟩ (.int .i64 0)).setCell ⟨w.heap.size+1,0,none⟩ (.int .i64 6)) (((W.setCell ⟨w.heap.size,0,none⟩ (.int .i64 0)).setCell ⟨w.heap.size+1,0,none⟩ (.int .i64 6)).putObj D (.deferred none)):=Calm.putObj _ xo hK2 rfl;have c0:((W.setCell ⟨w.heap.size,0,none⟩ (.int .i64 0)).setCell ⟨w.heap.size+1,0,none⟩ (.int .i64 6)).cell? ⟨w.heap.size,0,none⟩=some (.int .i64 0):=by
   rw [World.cell?_setCell_other _ _ _ _ (by intro e;simp at e)];exact World.cell?_setCell_same _ _ _ hb0
  have c1:((W.setCell ⟨w.heap.size,0,none⟩ (.int .i64 0)).setCell ⟨w.heap.size+1,0,none⟩ (.int .i64 6)).cell? ⟨w.heap.size+1,0,none⟩=some (.int .i64 6):=World.cell?_setCell_same _ _ _ (by rw [World.cell?_setCell_other _ _ _ _ (by intro e;simp at e)];exact hb1);exact jo hK2 (kP rfl rfl rfl (bJ Tryz.underlying3 rfl (hcalm.cell c0)) (bJ Tryz.underlying38 rfl (hcalm.cell c1))) ⟨rfl,hcalm.below xo ((ru.out.setCell dG _).setCell dG _)⟩
 case stop=>
  intro D c W hD hX hK;obtain ⟨rfl,⟨i,hnx,hc0⟩,hc1,hbel⟩:=hX;obtain ⟨rfl,rfl⟩:=YES.out i hnx;simp at hD;have hcalm:Calm (w.heap.size+2) W (W.putObj D (.deferred none)):=Calm.putObj _ xo hK rfl;clear YES NO NON HIT MIS HV HP;go_wp2
  exact jo hK (kP rfl rfl rfl (bJ Tryz.underlying3 rfl (hcalm.cell hc0)) (bJ Tryz.underlying38 rfl (hcalm.cell hc1))) ⟨rfl,hcalm.below xo hbel⟩
end
section
def lay (L r:Nat):List Nat:=
  if h:L<=1 then [r] else lay (L/2) r++(List.range (2^(L/2))).flatMap fun i=>lay (L-L/2) (r*2^(L/2)+i)
termination_by L
decreasing_by all_goals omega
theorem Bl (r:Nat):lay 1 r=[r]:=by rw [lay];simp
theorem xW {L:Nat} (h:2<=L) (r:Nat):lay L r=lay (L/2) r++(List.range (2^(L/2))).flatMap fun i=>lay (L-L/2) (r*2^(L/2)+i):=by
 rw [lay];simp [show ¬L<=1 by omega]
theorem oM {α : Type} (f:Nat->List α) (c:Nat) (hf:∀i,(f i).length=c):∀n,((List.range n).flatMap f).length=n*c:=by
 intro n;induction n with
 | zero=>simp
 | succ n ih=>rw [List.range_succ,List.flatMap_append,List.length_append,ih];simp [hf];rw [Nat.add_mul];simp
theorem NK:∀(m L r:Nat),L<=m->1<=L->(lay L r).length=2^L-1:=by
 intro m;induction m with
 | zero=>intro L r h1 h2;omega
 | succ m ih=>
  intro L r h1 h2;by_cases h:L=1
  . subst h;simp [Bl]
  . rw [xW xo,List.length_append,ih _ _ xo xo,oM _ (2^(L-L/2)-1) (fun i=>ih _ _ xo xo)];have e:2^L=2^(L/2)*2^(L-L/2):=by rw [<-Nat.pow_add];congr 1;omega
    have p1:=Nat.two_pow_pos (L/2);have p2:=Nat.two_pow_pos (L-L/2);rw [e,Nat.mul_sub];have:2^(L/2)*1<=2^(L/2)*2^(L-L/2):=Nat.mul_le_mul_left _ p2;omega
theorem fG {L:Nat} (r:Nat) (h:1<=L):(lay L r).length=2^L-1:=NK L L r (Nat.le_refl _) h
theorem G5:∀(m L r:Nat),L<=m->1<=L->∀x ∈ lay L r,r<=x/\x<(r+1)*2^(L-1):=by
 intro m;induction m with
 | zero=>intro L r h1 h2;omega
 | succ m ih=>
  intro L r h1 h2 x hx;by_cases h:L=1
  . subst h;simp [Bl] at hx;subst hx;simp
  . rw [xW xo,List.mem_append,List.mem_flatMap] at hx;rcases hx with hx | ⟨i,hi,hx⟩
    . obtain ⟨a,b⟩:=ih _ _ xo xo x hx;refine ⟨a,Nat.lt_of_lt_of_le b (Nat.mul_le_mul_left _ (Nat.pow_le_pow_right xo xo))⟩
    . rw [List.mem_range] at hi;obtain ⟨a,b⟩:=ih _ _ xo xo x hx;have p1:=Nat.two_pow_pos (L/2);constructor
      . have:=Nat.mul_le_mul_left r p1;omega
      . have e:2^(L-1)=2^(L/2)*2^(L-L/2-1):=by rw [<-Nat.pow_add];congr 1;omega
        rw [e,<-Nat.mul_assoc];refine Nat.lt_of_lt_of_le b (Nat.mul_le_mul_right _ ?_);rw [Nat.add_mul];omega
def jU (n:Nat) (l:List Nat):Nat->List Int
  | 0=>List.replicate n 0
  | k+1=>(jU n l k).set (l.getD k 0-1) (k:Int)
theorem jd (n:Nat) (l:List Nat):∀k,(jU n l k).length=n
  | 0=>by simp [jU]
  | k+1=>by simp [jU,jd n l k]
def GI (L:Nat):List Int:=jU (2^L-1) (lay L 1) (2^L-1)
theorem Dc {L k:Nat} (h:1<=L) (hk:k<2^L-1):1<=(lay L 1).getD k 0/\(lay L 1).getD k 0<=2^L-1:=by
 have hl:=fG 1 h;have hm:(lay L 1).getD k 0 ∈ lay L 1:=by
  rw [List.getD_eq_getElem?_getD,List.getElem?_eq_getElem xo,Option.getD_some];exact List.getElem_mem _
 obtain ⟨a,b⟩:=G5 L L 1 (Nat.le_refl _) h _ hm;have e:(1+1)*2^(L-1)=2^L:=by rw [show L=L-1+1 by omega,Nat.pow_succ];simp [Nat.mul_comm]
 omega
end
section
open Go.RowKit
def flat3 (a b c:Nat->Int) (M:Nat):List Int:=(List.range (M*3)).map fun k=>if k%3=0 then a (k/3) else if k%3=1 then b (k/3) else c (k/3)
def Ec (a:Nat->Int) (i:Nat) (v:Int):Nat->Int:=fun j=>if j=i then v else a j
variable {a b c a' b' c':Nat->Int} {M i:Nat} {v:Int}
theorem dE:(flat3 a b c M).length=M*3:=by simp [flat3]
theorem iH {k:Nat} (h:k<M*3):(flat3 a b c M).getD k 0=if k%3=0 then a (k/3) else if k%3=1 then b (k/3) else c (k/3):=by
 simp [flat3,List.getD_eq_getElem?_getD,h]
theorem yj (h:i<M):(flat3 a b c M).getD (i*3) 0=a i:=by
 rw [iH xo,if_pos xo,Nat.mul_div_cancel _ au]
theorem yh (h:i<M):(flat3 a b c M).getD (i*3+1) 0=b i:=by
 rw [iH xo,if_neg xo,if_pos xo,show (i*3+1)/3=i by omega]
theorem Hu (h:i<M):(flat3 a b c M).getD (i*3+2) 0=c i:=by
 rw [iH xo,if_neg xo,if_neg xo,show (i*3+2)/3=i by omega]
theorem oG {xs ys:List Int} (hl:xs.length=ys.length) (h:∀k,k<xs.length->xs.getD k 0=ys.getD k 0):xs=ys:=by
 refine List.ext_getElem hl fun k h1 h2=> ?_
 have:=h k h1;simpa [List.getD_eq_getElem?_getD,h1,h2] using this
theorem uB {xs:List Int} {j k:Nat} {v:Int} (hk:k<xs.length):(xs.set j v).getD k 0=if j=k then v else xs.getD k 0:=by
 simp only [List.getD_eq_getElem?_getD,List.getElem?_set];by_cases e:j=k
 . subst e;simp [hk]
 . simp [e]
theorem uT (ha:∀i,i<M->a i=a' i) (hb:∀i,i<M->b i=b' i) (hc:∀i,i<M->c i=c' i):flat3 a b c M=flat3 a' b' c' M:=by
 refine oG (by rw [dE,dE]) fun k hk=> ?_
 rw [dE] at hk;rw [iH hk,iH hk,ha _ xo,hb _ xo,hc _ xo]
theorem xw (h:i<M):(flat3 a b c M).set (i*3) v=flat3 (Ec a i v) b c M:=by
 refine oG (by rw [List.length_set,dE,dE]) fun k hk=> ?_
 rw [List.length_set] at hk;rw [uB hk];rw [dE] at hk;rw [iH hk,iH hk];unfold Ec;by_cases h0:k%3=0
 . by_cases h1:i*3=k
   . rw [if_pos h1,if_pos h0,if_pos xo]
   . rw [if_neg h1,if_pos h0,if_pos h0,if_neg xo]
 . rw [if_neg (by omega:¬i*3=k),if_neg h0,if_neg h0]
theorem xu (h:i<M):(flat3 a b c M).set (i*3+1) v=flat3 a (Ec b i v) c M:=by
 refine oG (by rw [List.length_set,dE,dE]) fun k hk=> ?_
 rw [List.length_set] at hk;rw [uB hk];rw [dE] at hk;rw [iH hk,iH hk];unfold Ec;by_cases h0:k%3=1
 . by_cases h1:i*3+1=k
   . rw [if_pos h1,if_neg xo,if_pos h0,if_pos xo]
   . rw [if_neg h1,if_neg xo,if_pos h0,if_neg xo,if_pos h0,if_neg xo]
 . rw [if_neg (by omega:¬i*3+1=k),if_neg h0,if_neg h0]
theorem Ol (h:i<M):(flat3 a b c M).set (i*3+2) v=flat3 a b (Ec c i v) M:=by
 refine oG (by rw [List.length_set,dE,dE]) fun k hk=> ?_
 rw [List.length_set] at hk;rw [uB hk];rw [dE] at hk;rw [iH hk,iH hk];unfold Ec;by_cases h0:k%3=0
 . rw [if_neg (by omega:¬i*3+2=k),if_pos h0,if_pos h0]
 . by_cases h2:k%3=1
   . rw [if_neg (by omega:¬i*3+2=k),if_neg h0,if_pos h2,if_neg h0,if_pos h2]
   . rw [if_neg h0,if_neg h2,if_neg h0,if_neg h2];by_cases h1:i*3+2=k
     . rw [if_pos h1,if_pos xo]
     . rw [if_neg h1,if_neg xo]
theorem bM {k:IntKind} {w:World} {B g n cap s:Nat} {e:TypeId} {xs:List Int} (h:w.ownsRow B e s (.slice (some ⟨g,0,none⟩) n cap) n (xs.map (Value.int k))) {j:Nat} (hj:j<xs.length):
    w.cell? ⟨g,j,none⟩=some (.int k (xs.getD j 0))/\w.frozen? ⟨g,j,none⟩=false:=by
 have hl:xs.length=n*s:=by have:=h.1;simpa using this
 refine ⟨?_,h.frozenAt j⟩;rw [h.cellAt j xo,List.getElem?_map,List.getElem?_eq_getElem hj];simp [List.getD_eq_getElem?_getD,hj]
theorem dX {k:IntKind} {w:World} {B g n cap s:Nat} {e:TypeId} {xs:List Int} (h:w.ownsRow B e s (.slice (some ⟨g,0,none⟩) n cap) n (xs.map (Value.int k))) (j:Nat) (y:Int):
    (w.setCell ⟨g,j,none⟩ (.int k y)).ownsRow B e s (.slice (some ⟨g,0,none⟩) n cap) n ((xs.set j y).map (Value.int k)):=by
 have:=(h.stored j (.int k y)).1;rw [List.map_set];exact this
theorem NF (n:Nat):(madeCells #[Value.int .i64 0,.int .i64 0,.int .i64 0] (n*3)).toList=(flat3 (fun _=>0) (fun _=>0) (fun _=>0) n).map (Value.int .i64):=by
 refine List.ext_getElem (by simp [madeCells,flat3]) fun k h1 h2=> ?_
 have h3:k%3=0\/k%3=1\/k%3=2:=xo;rcases h3 with h3|h3|h3<;>simp [madeCells,flat3,h3]
end
section
open Go.RowKit
theorem S_ (n:Nat) (l:List Nat):∀k i,0<=(jU n l k).getD i 0/\((jU n l k).getD i 0=0\/(jU n l k).getD i 0<k):=by
 intro k;induction k with
 | zero=>intro i;simp [jU,List.getD_eq_getElem?_getD,List.getElem?_replicate];split<;>simp
 | succ k ih=>
  intro i;have h:=ih i;by_cases hi:i<(jU n l k).length
  . rw [jU,uB hi];split
    . omega
    . omega
  . have:(jU n l (k+1)).getD i 0=0:=by
      rw [List.getD_eq_getElem?_getD,List.getElem?_eq_none (by rw [jd] at *;omega)];rfl
    omega
theorem w_ (L:Nat):(GI L).length=2^L-1:=by rw [GI,jd]
theorem abo {L:Nat} (h:1<=L) (i:Nat):0<=(GI L).getD i 0/\(GI L).getD i 0<((2^L-1:Nat):Int):=by
 have h1:=S_ (2^L-1) (lay L 1) (2^L-1) i;have h2:2^1<=2^L:=Nat.pow_le_pow_right xo h;rw [GI];omega
def n_ (L n:Nat):Int:=if n=0 then 0 else (GI L).getD (n-1) 0
def fU (L:Nat) (ms:List Int) (n:Nat):Int:=if n=0 then 0 else ms.getD (n_ L n).toNat 0
def upTo (f:Nat->Int) (k:Nat):Nat->Int:=fun n=>if n<=k then f n else 0
theorem yO (f:Nat->Int) (k:Nat) (v:Int) (h:v=f (k+1)):Ec (upTo f k) (k+1) v=upTo f (k+1):=by
 funext n
 unfold Ec upTo;by_cases e:n=k+1
 . subst e;simp [h]
 . simp [e];by_cases h2:n<=k
   . rw [if_pos h2,if_pos xo]
   . rw [if_neg h2,if_neg xo]
theorem yG {f:Nat->Int} (h:f 0=0):upTo f 0=fun _=>0:=by
 funext n
 unfold upTo;split
 . rename_i h2;rw [show n=0 by omega,h]
 . rfl
theorem Vm (L:Nat):n_ L 0=0:=rfl
theorem I5 (L:Nat) (ms:List Int):fU L ms 0=0:=rfl
theorem abp {L:Nat} (h:1<=L) (n:Nat):0<=n_ L n/\n_ L n<((2^L-1:Nat):Int):=by
 unfold n_;have h2:2^1<=2^L:=Nat.pow_le_pow_right xo h;split
 . omega
 . exact abo h _
def ownB (m c:Int):Bool:=decide (0<=c)&&decide (c<=65536)&&(decide (c≠0)||decide (m=0))
def TG (am bm bc:Int):Int:=if 0<bc then bm else am
def OH (ac bc:Int):Int:=if 0<bc then ac+bc else ac
def JL (m c am ac bm bc:Int):Bool:=decide (ac<=c)&&decide (bc<=c)&&(decide (m=TG am bm bc)&&decide (c=OH ac bc))&& !(decide (0<ac)&&decide (0<bc)&&decide (bm<=am))
def xX (m c am ac bm bc:Int):Bool:=decide (0<=ac)&&decide (0<=bc)&&decide (ac<=c)&&decide (bc=c-ac)&&(decide (m=TG am bm bc)&&decide (c=OH ac bc))&&(decide (ac=0)||decide (bc=0)||decide (am<bm))
theorem VQ {m c am ac bm bc:Int} (ha:ownB am ac=true) (hb:ownB bm bc=true):JL m c am ac bm bc=xX m c am ac bm bc:=by
 simp only [ownB,Bool.and_eq_true,Bool.or_eq_true,decide_eq_true_eq] at ha hb;rw [Bool.eq_iff_iff];simp only [JL,xX,TG,OH,Bool.and_eq_true,Bool.or_eq_true,decide_eq_true_eq,Bool.not_eq_true',Bool.and_eq_false_iff,decide_eq_false_iff_not];obtain ⟨⟨a1,a2⟩,a3⟩:=ha;obtain ⟨⟨b1,b2⟩,b3⟩:=hb;by_cases h:0<bc
 . simp only [h,if_true,decide_eq_true_eq];constructor
   . rintro ⟨⟨⟨h1,h2⟩,h3,h4⟩,h5⟩;exact ⟨⟨⟨⟨⟨a1,b1⟩,h1⟩,by omega⟩,h3,h4⟩,by rcases h5 with (h5|h5)|h5<;>first|omega|exact absurd trivial h5⟩
   . rintro ⟨⟨⟨⟨⟨h0,h1⟩,h2⟩,h3⟩,h4,h5⟩,h6⟩;exact ⟨⟨⟨h2,by omega⟩,h4,h5⟩,by rcases h6 with (h6|h6)|h6<;>omega⟩
 . simp only [h,if_false,decide_eq_true_eq];constructor
   . rintro ⟨⟨⟨h1,h2⟩,h3,h4⟩,h5⟩;exact ⟨⟨⟨⟨⟨a1,b1⟩,h1⟩,by omega⟩,h3,h4⟩,by omega⟩
   . rintro ⟨⟨⟨⟨⟨h0,h1⟩,h2⟩,h3⟩,h4,h5⟩,h6⟩;exact ⟨⟨⟨h2,by omega⟩,h4,h5⟩,.inl (.inr fun h=>h)⟩
def JF (L:Nat) (ms cs:List Int) (n:Nat):Bool:=ownB (fU L ms n) (fU L cs n)&&(decide (2^L-1<2*n)||xX (fU L ms n) (fU L cs n) (fU L ms (2*n)) (fU L cs (2*n)) (fU L ms (2*n+1)) (fU L cs (2*n+1)))
def Dh (l:Int) (ms cs:List Int):Prop:=1<=l/\l<=14/\ms.length=2^l.toNat-1/\cs.length=2^l.toNat-1
instance (l:Int) (ms cs:List Int):Decidable (Dh l ms cs):=by unfold Dh;infer_instance
def jm (p:Nat->Bool) (n k:Nat):Bool:=(List.range k).all fun i=>p (n+i)
theorem mG {p:Nat->Bool} {n k:Nat}:jm p n k=true↔∀m,n<=m->m<n+k->p m=true:=by
 unfold jm;simp only [List.all_eq_true,List.mem_range];constructor
 . intro h m h1 h2;have:=h (m-n) xo;rwa [show n+(m-n)=m by omega] at this
 . intro h i hi;exact h _ xo xo
theorem Aj {p:Nat->Bool} {n k m:Nat} (h1:n<=m) (h2:m<n+k) (h:p m=false):jm p n k=false:=by
 by_cases hh:jm p n k=true
 . rw [mG.1 hh m h1 h2] at h;cases h
 . simpa using hh
def oO (l:Int) (ms cs:List Int):Bool:=decide (Dh l ms cs)&&jm (JF l.toNat ms cs) 1 (2^l.toNat-1)
def P9 (l:Int) (ms cs:List Int):Int:=if oO l ms cs=true then 0 else 8
def ZU (l:Int) (ms cs:List Int) (n:Int):Int:=if oO l ms cs=true then (if 1<=n/\n<2^l.toNat then 0 else 2) else 8
def atM (l:Int) (ms cs:List Int) (n:Int):Int:=if ZU l ms cs n=0 then fU l.toNat ms n.toNat else 0
def atC (l:Int) (ms cs:List Int) (n:Int):Int:=if ZU l ms cs n=0 then fU l.toNat cs n.toNat else 0
end
section
def pos (L d j:Nat):Nat:=
  if h:L<=1 then 0 else
   if d<L/2 then pos (L/2) d j
   else 2^(L/2)-1+j/2^(d-L/2)*(2^(L-L/2)-1)+pos (L-L/2) (d-L/2) (j%2^(d-L/2))
termination_by L
decreasing_by all_goals omega
theorem Gz (d j:Nat):pos 1 d j=0:=by rw [pos];simp
theorem Gy {L d:Nat} (j:Nat) (h:2<=L) (hd:d<L/2):pos L d j=pos (L/2) d j:=by
 rw [pos];simp [show ¬L<=1 by omega,hd]
theorem GG {L d:Nat} (j:Nat) (h:2<=L) (hd:¬d<L/2):pos L d j=2^(L/2)-1+j/2^(d-L/2)*(2^(L-L/2)-1)+pos (L-L/2) (d-L/2) (j%2^(d-L/2)):=by
 rw [pos];simp [show ¬L<=1 by omega,hd]
theorem JZ (f:Nat->List Nat) (c:Nat) (hf:∀i,(f i).length=c) (i p n:Nat) (hi:i<n) (hp:p<c):((List.range n).flatMap f).getD (i*c+p) 0=(f i).getD p 0:=by
 induction n with
 | zero=>omega
 | succ n ih=>
  rw [List.range_succ,List.flatMap_append];have hl:=oM f c hf n;by_cases e:i=n
  . subst e;rw [List.getD_eq_getElem?_getD,List.getElem?_append_right xo,hl,Nat.add_sub_cancel_left];simp
  . have hin:i<n:=xo;have h1:i*c+p<n*c:=by
     have:(i+1)*c<=n*c:=Nat.mul_le_mul_right _ hin;rw [Nat.add_mul,Nat.one_mul] at this;omega
    rw [List.getD_eq_getElem?_getD,List.getElem?_append_left xo,<-List.getD_eq_getElem?_getD];exact ih hin
theorem Vf (L:Nat):2^L=2^(L/2)*2^(L-L/2):=by rw [<-Nat.pow_add];congr 1;omega
theorem EM (L:Nat):2^L-1=2^(L/2)-1+2^(L/2)*(2^(L-L/2)-1):=by
 have p1:=Nat.two_pow_pos (L/2);have p2:2^(L/2)*1<=2^(L/2)*2^(L-L/2):=Nat.mul_le_mul_left _ (Nat.two_pow_pos _);rw [Vf L,Nat.mul_sub,Nat.mul_one];omega
theorem JI:∀(m L d j r:Nat),L<=m->1<=L->d<L->j<2^d->pos L d j<2^L-1/\(lay L r).getD (pos L d j) 0=r*2^d+j:=by
 intro m;induction m with
 | zero=>intro L d j r h1 h2;omega
 | succ m ih=>
  intro L d j r h1 h2 h3 h4;by_cases h:L=1
  . subst h;obtain rfl:d=0:=xo;obtain rfl:j=0:=by simpa using h4
    rw [Gz,Bl];simp
  . have hlen:=fG (L:=L/2) r xo;have hs:=EM L;by_cases hd:d<L/2
    . obtain ⟨i1,i2⟩:=ih (L/2) d j r xo xo hd h4;rw [Gy j xo hd,xW xo];refine ⟨by omega,?_⟩;rw [List.getD_eq_getElem?_getD,List.getElem?_append_left xo,<-List.getD_eq_getElem?_getD];exact i2
    . have hq:j/2^(d-L/2)<2^(L/2):=by
        rw [Nat.div_lt_iff_lt_mul (Nat.two_pow_pos _),<-Nat.pow_add,show L/2+(d-L/2)=d by omega];exact h4
      obtain ⟨i1,i2⟩:=ih (L-L/2) (d-L/2) (j%2^(d-L/2)) (r*2^(L/2)+j/2^(d-L/2)) xo xo xo (Nat.mod_lt _ (Nat.two_pow_pos _));rw [GG j xo hd,xW xo];constructor
      . have:(j/2^(d-L/2)+1)*(2^(L-L/2)-1)<=2^(L/2)*(2^(L-L/2)-1):=Nat.mul_le_mul_right _ hq;rw [Nat.add_mul,Nat.one_mul] at this;omega
      . rw [List.getD_eq_getElem?_getD,List.getElem?_append_right xo,<-List.getD_eq_getElem?_getD,hlen];rw [show 2^(L/2)-1+j/2^(d-L/2)*(2^(L-L/2)-1)+pos (L-L/2) (d-L/2) (j%2^(d-L/2))-(2^(L/2)-1)=j/2^(d-L/2)*(2^(L-L/2)-1)+pos (L-L/2) (d-L/2) (j%2^(d-L/2)) by omega];rw [JZ _ (2^(L-L/2)-1) (fun i=>fG _ xo) _ _ _ hq i1,i2];have e1:2^d=2^(L/2)*2^(d-L/2):=by rw [<-Nat.pow_add];congr 1;omega
        have e2:=Nat.div_add_mod j (2^(d-L/2));rw [e1,Nat.add_mul,Nat.mul_assoc,Nat.add_assoc,Nat.mul_comm (j/2^(d-L/2)),e2]
theorem Vh:∀(m L p:Nat),L<=m->1<=L->p<2^L-1->∃d j,d<L/\j<2^d/\pos L d j=p:=by
 intro m;induction m with
 | zero=>intro L p h1 h2;omega
 | succ m ih=>
  intro L p h1 h2 h3;by_cases h:L=1
  . subst h;exact ⟨0,0,by omega,by simp,by rw [Gz];simp at h3;omega⟩
  . have hs:=EM L;by_cases hp:p<2^(L/2)-1
    . obtain ⟨d,j,k1,k2,k3⟩:=ih (L/2) p xo xo hp;exact ⟨d,j,by omega,k2,by rw [Gy j xo k1];exact k3⟩
    . have hc:1<=2^(L-L/2)-1:=by
        have:2^1<=2^(L-L/2):=Nat.pow_le_pow_right xo xo;omega
      obtain ⟨q,hq⟩:∃q,q=p-(2^(L/2)-1):=⟨_,rfl⟩
      have afI:q<2^(L/2)*(2^(L-L/2)-1):=xo;obtain ⟨d,j,k1,k2,k3⟩:=ih (L-L/2) (q%(2^(L-L/2)-1)) xo xo (Nat.mod_lt _ xo);have hi:q/(2^(L-L/2)-1)<2^(L/2):=by rw [Nat.div_lt_iff_lt_mul xo];exact afI
      refine ⟨L/2+d,q/(2^(L-L/2)-1)*2^d+j,by omega,?_,?_⟩
      . rw [Nat.pow_add];have:(q/(2^(L-L/2)-1)+1)*2^d<=2^(L/2)*2^d:=Nat.mul_le_mul_right _ hi;rw [Nat.add_mul,Nat.one_mul] at this;omega
      . rw [GG _ xo xo,show L/2+d-L/2=d by omega];have e1:(q/(2^(L-L/2)-1)*2^d+j)/2^d=q/(2^(L-L/2)-1):=by
         rw [Nat.add_comm,Nat.add_mul_div_right _ _ (Nat.two_pow_pos d),Nat.div_eq_of_lt k2,Nat.zero_add]
        have e2:(q/(2^(L-L/2)-1)*2^d+j)%2^d=j:=by
         rw [Nat.add_comm,Nat.add_mul_mod_self_right,Nat.mod_eq_of_lt k2]
        rw [e1,e2,k3];have e3:=Nat.div_add_mod q (2^(L-L/2)-1);rw [Nat.mul_comm] at e3;omega
theorem GR {n:Nat} (h:1<=n):2^n.log2<=n/\n-2^n.log2<2^n.log2:=by
 have h1:2^n.log2<=n:=(Nat.le_log2 xo).1 (Nat.le_refl _);have h2:n<2^(n.log2+1):=(Nat.log2_lt xo).1 (Nat.lt_succ_self _);rw [Nat.pow_succ] at h2;exact ⟨h1,by omega⟩
theorem YK {d j:Nat} (h:j<2^d):(2^d+j).log2=d:=by
 have h1:1<=2^d:=Nat.two_pow_pos d;have h2:(2^d+j).log2<d+1:=(Nat.log2_lt xo).2 (by rw [Nat.pow_succ];omega);have h3:d<=(2^d+j).log2:=(Nat.le_log2 xo).2 xo;omega
def oJ (L n:Nat):Nat:=pos L n.log2 (n-2^n.log2)
theorem kK {L n:Nat} (h1:1<=L) (hn:1<=n) (h:n<2^L):oJ L n<2^L-1/\(lay L 1).getD (oJ L n) 0=n:=by
 obtain ⟨d1,d2⟩:=GR hn;obtain ⟨a,b⟩:=JI L L n.log2 (n-2^n.log2) 1 (Nat.le_refl _) h1 (xg hn h) d2;exact ⟨a,by rw [oJ,b];omega⟩
theorem uN {L p:Nat} (h1:1<=L) (hp:p<2^L-1):oJ L ((lay L 1).getD p 0)=p:=by
 obtain ⟨d,j,k1,k2,k3⟩:=Vh L L p (Nat.le_refl _) h1 hp;obtain ⟨a,b⟩:=JI L L d j 1 (Nat.le_refl _) h1 k1 k2;rw [k3,Nat.one_mul] at b;rw [b,oJ,YK k2,Nat.add_sub_cancel_left,k3]
theorem Om {N:Nat} {l:List Nat} (hin:∀k,k<N->1<=l.getD k 0/\l.getD k 0<=N) (hinj:∀k p,k<N->p<N->l.getD k 0=l.getD p 0->k=p) (p:Nat) (hp:p<N):
    ∀k,k<=N->p<k->(jU N l k).getD (l.getD p 0-1) 0=(p:Int):=by
 intro k;induction k with
 | zero=>intro _ h;omega
 | succ k ih=>
  intro hk h;obtain ⟨a1,a2⟩:=hin p hp;obtain ⟨b1,b2⟩:=hin k xo;rw [jU,List.getD_eq_getElem?_getD,List.getElem?_set];by_cases e:k=p
  . subst e;rw [if_pos rfl,if_pos (by rw [jd];omega)];rfl
  . have hne:l.getD k 0-1≠l.getD p 0-1:=fun h2=>e (hinj k p xo hp xo)
    rw [if_neg hne,<-List.getD_eq_getElem?_getD];exact ih xo xo
theorem vP {L n:Nat} (h1:1<=L) (hn:1<=n) (h:n<2^L):(GI L).getD (n-1) 0=(oJ L n:Nat):=by
 obtain ⟨a,b⟩:=kK h1 hn h;have:=Om (N:=2^L-1) (l:=lay L 1) (fun k hk=>Dc h1 hk) (fun k p hk hp e=>by rw [<-uN h1 hk,<-uN h1 hp,e]) (oJ L n) a (2^L-1) (Nat.le_refl _) a;rw [b] at this;exact this
end
section
open Go.RowKit Go.Shelf
attribute [local go_sem] Oper.semAt_some
theorem zf {ws:List Int} {a b:Nat} (h:a<=b):dD ws a (b+1)=dD ws a b+if bG ws b=true then 1 else 0:=by
 rw [<-gu,<-gu,yQ h,List.length_append];split<;>rfl
theorem sK {ws:List Int} {a b c:Nat} (h:b<=c):dD ws a b<=dD ws a c:=by
 induction c with
 | zero=>rw [show b=0 by omega];exact Nat.le_refl _
 | succ c ih=>
  by_cases e:b=c+1
  . rw [e];exact Nat.le_refl _
  . by_cases h2:a<=c
    . rw [zf h2];have:=ih xo;omega
    . rw [zg xo];omega
theorem cO (c:aW) (a b:Nat):(b_ c a b).length=dD c.ws a b:=by rw [b_,List.length_map,gu]
theorem CE {c:aW} {a b:Nat} (h:a<=b):b_ c a (b+1)=b_ c a b++if bG c.ws b=true then [(c.ks.getD b 0,c.vs.getD b 0)] else []:=by
 unfold b_;rw [yQ h,List.map_append];split<;>rfl
theorem Rn {c:aW} {a b d:Nat} (h1:a<=b) (h2:b<=d):∃r,b_ c a d=b_ c a b++r:=by
 induction d with
 | zero=>exact ⟨[],by rw [show b=0 by omega,List.append_nil]⟩
 | succ d ih=>
  by_cases e:b=d+1
  . exact ⟨[],by rw [e,List.append_nil]⟩
  . obtain ⟨r,hr⟩:=ih xo;rw [CE xo,hr,List.append_assoc];exact ⟨_,rfl⟩
def qw (l:List (Int×Int)):List (Array Value):=l.map fun p=> #[.agg #[.int .i64 p.1,.int .i64 p.2]]
theorem wM (l:List (Int×Int)):(qw l).length=l.length:=by simp [qw]
theorem RH {c:aW} {a b d:Nat} (h1:a<=b) (h2:b+1<=d) (hb:bG c.ws b=true):(qw (b_ c a d)).getD (dD c.ws a b) #[]= #[.agg #[.int .i64 (c.ks.getD b 0),.int .i64 (c.vs.getD b 0)]]:=by
 obtain ⟨r,hr⟩:=Rn (c:=c) (show a<=b+1 by omega) h2;rw [hr,CE h1,if_pos hb,qw,List.map_append,List.map_append,List.getD_eq_getElem?_getD,List.append_assoc,List.getElem?_append_right (by rw [List.length_map,cO];exact Nat.le_refl _)];rw [List.length_map,cO,Nat.sub_self];rfl
theorem iw {W W':World} (h:∃q,W'=W.drewN q) {p:Addr} {v:Value} (hc:W.cell? p=some v):W'.cell? p=some v:=by
 obtain ⟨q,rfl⟩:=h;exact hc
theorem adF (wa:Option Addr) (lw wc:Nat) (ws:List Int) (hu:fB ws) (i:Nat) (wF:ws.length=lw) (hi:i/64<lw) (hi2:i<=1000000000000) (b:Nat) (w:World) (hw:aQ .u64 w wa ws) (c1:w.cell? ⟨b,1,none⟩=some (.slice wa lw wc)):
    Calls Tryz.prog 215 #[.pointer (some ⟨b,0,none⟩),.int .i64 i] w fun e w'=>e= .returned (.bool (bG ws i))/\w=w':=by
 obtain ⟨bb,off,x,rfl,hx,hc,-⟩:=hw.get (i:=i/64) xo;have hg:=hu.get (i/64);rw [hx.out] at hg;have hb:bG ws i=je x (i%64):=by rw [bG,hx.out]
 have hand:=yu hg.1 hg.2 (i%64);obtain ⟨q,hq⟩:∃q,i/64=q:=⟨_,rfl⟩
 obtain ⟨r,hr⟩:∃r,i%64=r:=⟨_,rfl⟩
 have VY:(i:Int)/64=(q:Int):=xo;have hrI:(i:Int)%64=(r:Int):=xo;have YU:r<64:=xo;rw [hr] at hand hb;rw [hq] at hc hi;rw [hb];generalize je x r=bt at *;clear hx hb hw hu hq hr wF;cases bt with
 | true=>
  rw [if_pos rfl] at hand;go_enter Tryz.func215,Tryz.ntmps215
  go_wp2
  go_ret
  exact ⟨rfl,rfl⟩
 | false=>
  rw [if_neg au] at hand;go_enter Tryz.func215,Tryz.ntmps215
  go_wp2
  go_ret
  exact ⟨rfl,rfl⟩
structure Ak (W:World) (b1 b2 b3:Nat) (c:aW) (a:jJ) (lo hi:Nat):Prop where
 lo:W.cell? ⟨b1,0,none⟩=some (.int .i64 lo)
 hi:W.cell? ⟨b2,0,none⟩=some (.int .i64 hi)
 c0:W.cell? ⟨b3,0,none⟩=some (.int .i64 c.ai)
 c1:W.cell? ⟨b3,1,none⟩=some (.slice a.wa c.ws.length a.wc)
 c2:W.cell? ⟨b3,2,none⟩=some (.slice a.ka c.ks.length a.kc)
 c3:W.cell? ⟨b3,3,none⟩=some (.slice a.va c.vs.length a.vc)
 c4:W.cell? ⟨b3,4,none⟩=some (.slice a.ca c.cs.length a.cc)
 c5:W.cell? ⟨b3,5,none⟩=some (.int .u64 c.laid)
theorem Ak.below {W W':World} {b1 b2 b3:Nat} {c:aW} {a:jJ} {lo hi:Nat} (h:Ak W b1 b2 b3 c a lo hi) (hb:Below W.heap.size W W'):Ak W' b1 b2 b3 c a lo hi:=
  have t {p v} (hc:W.cell? p=some v):W'.cell? p=some v:=(hb.cell (World.block_lt_of_cell? _ _ hc)).trans hc
  ⟨t h.lo,t h.hi,t h.c0,t h.c1,t h.c2,t h.c3,t h.c4,t h.c5⟩
theorem Ak.kept {S:Nat->Prop} {W W':World} {b1 b2 b3:Nat} {c:aW} {a:jJ} {lo hi:Nat} (h:Ak W b1 b2 b3 c a lo hi) (hk:EF S W W') (s1:S b1) (s2:S b2) (s3:S b3):Ak W' b1 b2 b3 c a lo hi:=
  ⟨hk.cell (a:=⟨b1,0,none⟩) s1 h.lo,hk.cell (a:=⟨b2,0,none⟩) s2 h.hi,hk.cell (a:=⟨b3,0,none⟩) s3 h.c0,hk.cell (a:=⟨b3,1,none⟩) s3 h.c1,hk.cell (a:=⟨b3,2,none⟩) s3 h.c2,hk.cell (a:=⟨b3,3,none⟩) s3 h.c3,hk.cell (a:=⟨b3,4,none⟩) s3 h.c4,hk.cell (a:=⟨b3,5,none⟩) s3 h.c5⟩
structure SlS (S:Nat->Prop) (c:aW) (a:jJ):Prop where
 w:∀x,a.wa=some x->0<c.ws.length->S x.block
 k:∀x,a.ka=some x->0<c.ks.length->S x.block
 v:∀x,a.va=some x->0<c.vs.length->S x.block
theorem Jy (c:aW) (a:jJ) (hu:fB c.ws) (lo hi:Nat) (hlh:lo<=hi) (hkn:hi<=c.ks.length) (hvn:c.vs.length=c.ks.length) (hwn:c.ks.length<=64*c.ws.length) (hn:c.ks.length<=65536) (S:Nat->Prop) (b1 b2 b3:Nat) (s1:S b1) (s2:S b2) (s3:S b3) (hS:SlS S c a)
    (w:World) (hw:aQ .u64 w a.wa c.ws) (hk:aQ .i64 w a.ka c.ks) (hv:aQ .i64 w a.va c.vs) (hbx:Ak w b1 b2 b3 c a lo hi):
    Iter Tryz.prog 214 #[.pointer (some ⟨b1,0,none⟩),.pointer (some ⟨b2,0,none⟩),.pointer (some ⟨b3,0,none⟩)] (qw (b_ c lo hi)) (EF S) w:=by
 intro l J Jx W hW hJ hJx hY h0;have HY:=hid hY;have HJ:=hid hJ;have F7:=hid (hbx.below hW);have HW:=hid (hw.below hW);have HK:=hid (hk.below hW);have HV:=hid (hv.below hW);have HS:=hid hS;have Ap:=hid ((wM _).trans (cO c lo hi));have HPA:=hid (fun b (h1:lo<=b) (h2:b+1<=hi) hb=>RH (c:=c) h1 h2 hb);have HCS:=hid (fun b (h1:lo<=b)=>zf (ws:=c.ws) h1);have HCM:=hid (fun b (h1:b<=hi)=>sK (ws:=c.ws) (a:=lo) h1);have HC0:=hid (zg (ws:=c.ws) (Nat.le_refl lo));clear hY hJ hJx hw hk hv hS hbx;refine callsIn_of_wp Tryz.func214 rfl trivial ?_ rfl;simp only [Tryz.ntmps214,List.size_toArray,List.length_cons,List.length_nil,Nat.reduceAdd,Nat.reduceSub,Array.replicate_succ,Array.replicate_zero,List.push_toArray,List.append_toArray,List.nil_append,List.cons_append];have q1:=F7.out.lo;gi_wp2
 gi_loopg [5] (hi-lo) (fun g iv wr=>∃i:Nat,i+g=hi/\lo<=i/\iv= .int .i64 i/\Hid (J (dD c.ws lo i) wr)/\Hid (Ak wr b1 b2 b3 c a lo hi)/\Hid (aQ .u64 wr a.wa c.ws)/\Hid (aQ .i64 wr a.ka c.ks)/\Hid (aQ .i64 wr a.va c.vs))
 case atStart=>exact ⟨lo,by omega,Nat.le_refl _,rfl,hid (by rw [HC0.out];exact h0),F7,HW,HK,HV⟩
 case round=>
  obtain ⟨i,hi',hli,rfl,QG,HB,HRW,HRK,HRV⟩:=hrel;by_cases hlt:i<hi
  . obtain ⟨bw,ow,x,hae,-,cw,zw⟩:=HRW.out.get (i:=i/64) xo;obtain ⟨bk,ok,kx,hke,hkx,ck,zk⟩:=HRK.out.get (i:=i) xo;obtain ⟨bv,ov,vx,hve,hvx,cv,zv⟩:=HRV.out.get (i:=i) xo;have hpa:=HPA.out i hli xo;rw [hkx.out,hvx.out] at hpa;have hcs:=HCS.out i hli;obtain ⟨k,hk⟩:∃k,dD c.ws lo i=k:=⟨_,rfl⟩
    obtain ⟨m,hm⟩:∃m,dD c.ws lo hi=m:=⟨_,rfl⟩
    have V_:bG c.ws i=true->k<m:=by
     intro hb;have h1:=HCM.out (i+1) xo;rw [hcs,if_pos hb] at h1;omega
    rw [hk] at QG hpa hcs;have aeA:=hid (Ap.out.trans hm);have hiw:i/64<c.ws.length:=xo;obtain ⟨bt,hbt⟩:∃bt,bG c.ws i=bt:=⟨_,rfl⟩
    have We:=fun W' (hw:aQ .u64 W' a.wa c.ws) b (h1:W'.cell? ⟨b,1,none⟩=some (.slice a.wa c.ws.length a.wc))=>adF a.wa c.ws.length a.wc c.ws hu i rfl hiw xo b W' hw h1
    rw [hbt] at We hpa hcs V_;have HIO:=hid We;have HB0:=HB.out;obtain ⟨q1,q2,c0,c1,c2,c3,c4,c5⟩:=HB0;have HNW:=hid hiw;obtain ⟨ai,ws,ks,vs,cs,laid⟩:=c;obtain ⟨wa,ka,va,ca,wc,kc,vc,cc⟩:=a;dsimp only at *;subst hae hke hve;obtain ⟨n,hnn⟩:∃n,ks.length=n:=⟨_,rfl⟩
    have c3':=c3;rw [hvn,hnn] at c3';have c2':=c2;rw [hnn] at c2';have hin:i<n:=xo;have HI2:=hid hi';have HKM:=hid V_;have aeJ:=hid hcs;have agR:=hid (HRW.out.alloc (.cells #[.int .i64 ai,.slice (some ⟨bw,ow,none⟩) ws.length wc,.slice (some ⟨bk,ok,none⟩) ks.length kc,.slice (some ⟨bv,ov,none⟩) vs.length vc,.slice ca cs.length cc,.int .u64 laid] 177));clear hk hm hcs V_;gi_wp2
    have Uc:Below wr.heap.size wr (wr.alloc (.cells #[.int .i64 ai,.slice (some ⟨bw,ow,none⟩) ws.length wc,.slice (some ⟨bk,ok,none⟩) n kc,.slice (some ⟨bv,ov,none⟩) n vc,.slice ca cs.length cc,.int .u64 laid] 177)):=br.alloc (Nat.le_refl _) _;have c1q:(wr.alloc (.cells #[.int .i64 ai,.slice (some ⟨bw,ow,none⟩) ws.length wc,.slice (some ⟨bk,ok,none⟩) n kc,.slice (some ⟨bv,ov,none⟩) n vc,.slice ca cs.length cc,.int .u64 laid] 177)).cell? ⟨wr.heap.size,1,none⟩=some (.slice (some ⟨bw,ow,none⟩) ws.length wc):=iP;generalize (wr.alloc (.cells #[.int .i64 ai,.slice (some ⟨bw,ow,none⟩) ws.length wc,.slice (some ⟨bk,ok,none⟩) n kc,.slice (some ⟨bv,ov,none⟩) n vc,.slice ca cs.length cc,.int .u64 laid] 177))=wq at *;replace c2:=(Uc.cell (World.block_lt_of_cell? _ _ c2')).trans c2';replace c3:=(Uc.cell (World.block_lt_of_cell? _ _ c3')).trans c3';replace ck:=(Uc.cell (World.block_lt_of_cell? _ _ ck)).trans ck;replace cv:=(Uc.cell (World.block_lt_of_cell? _ _ cv)).trans cv;have ru:=hid Uc;have HIS:=hid (fun w' (hJ:∃q,w'=wq.drewN q)=>HIO.out w' (by obtain ⟨q,rfl⟩:=hJ;exact (HRW.out.below ru.out).drewN q) wr.heap.size (iw hJ c1q));clear Uc c0 c5 c4 c1 q1 q2 c2' c3' We cw agR;cases bt with
    | true=>
     refine gX 15 xk (N:=33) rfl xk xk au (fun w'=>∃q,w'=wq.drewN q) (Ext 29) (rO [.is (.int .i64 i),.is (.bool true),.is (.bool true),.is (.func (.yield l) #[] #[]),.is (.pointer (some ⟨b3,2,none⟩)),.is (.slice (some ⟨bk,ok,none⟩) n kc),.is (.int .i64 i),.is (.pointer (some ⟨bk,ok+i,none⟩)),.is (.int .i64 kx),.is (.pointer (some ⟨b3,3,none⟩)),.is (.slice (some ⟨bv,ov,none⟩) n vc),.is (.int .i64 i),.is (.pointer (some ⟨bv,ov+i,none⟩)),.is (.int .i64 vx),.is (.agg #[.int .i64 kx,.int .i64 vx])]) (iV _) ⟨1,rfl⟩ ?steps ?fin
     case steps=>
      refine ⟨?o0,?o1,?o2,?o3,?o4,?o5,?o6,?o7,?o8,?o9,?o10,?o11,?o12,?o13,?o14,trivial⟩<;>intro u a w' ev hJ hd K hK
      case o0=>
       rw [if_pos (bg rfl)];have e5:tg a 5= .int .i64 i:=ev 5 au;have HK:=hid hK;clear hK ev hd;go_simp;exact HK.out _ _ aS hJ rfl (Ext.refl _ _)
      case o1=>
       rw [if_pos (bg rfl)];have e6:tg a 6= .pointer (some ⟨wr.heap.size,0,none⟩):=ev 6 au;have e15:tg a 15= .int .i64 i:=(ev 15 au).trans (hd 0 _ xk rfl);have HK:=hid hK;have HI:=hid (HIS.out w' hJ);have HJ:=hid hJ;clear hK ev hd hJ;go_simp;refine ⟨trivial,rfl,(callsIn_wide.2 HI.out).mono ?_⟩;rintro e w'' ⟨rfl,rfl⟩;exact HK.out _ _ aS HJ.out rfl (Ext.refl _ _)
      case o2=>
       rw [if_pos (bg rfl)];have e16:tg a 16= .bool true:=(ev 16 au).trans (hd 1 _ xk rfl);have HK:=hid hK;clear hK ev hd;go_simp;exact HK.out _ _ aS hJ rfl (Ext.refl _ _)
      case o3=>
       have eg:a.tmps.getD 17 undef= .bool true:=(ev 17 au).trans (hd 2 _ xk rfl);rw [if_pos (gY (j:=2) (t:=17) (b:=true) rfl xk eg)];have e0:tg a 0= .func (.yield l) #[] #[]:=ev 0 au;have HK:=hid hK;clear hK ev hd eg;go_simp;exact HK.out _ _ aS hJ rfl (Ext.refl _ _)
      case o4=>
       have eg:a.tmps.getD 17 undef= .bool true:=(ev 17 au).trans (hd 2 _ xk rfl);rw [if_pos (gY (j:=2) (t:=17) (b:=true) rfl xk eg)];have e3:tg a 3= .pointer (some ⟨b3,0,none⟩):=ev 3 au;have HK:=hid hK;clear hK ev hd eg;go_simp;exact HK.out _ _ aS hJ rfl (Ext.refl _ _)
      case o5=>
       have eg:a.tmps.getD 17 undef= .bool true:=(ev 17 au).trans (hd 2 _ xk rfl);rw [if_pos (gY (j:=2) (t:=17) (b:=true) rfl xk eg)];have e19:tg a 19= .pointer (some ⟨b3,2,none⟩):=(ev 19 au).trans (hd 4 _ xk rfl);have g0:=(iw hJ c2)
       have HK:=hid hK;clear hK ev hd eg;go_simp;exact HK.out _ _ aS hJ rfl (Ext.refl _ _)
      case o6=>
       have eg:a.tmps.getD 17 undef= .bool true:=(ev 17 au).trans (hd 2 _ xk rfl);rw [if_pos (gY (j:=2) (t:=17) (b:=true) rfl xk eg)];have e5:tg a 5= .int .i64 i:=ev 5 au;have HK:=hid hK;clear hK ev hd eg;go_simp;exact HK.out _ _ aS hJ rfl (Ext.refl _ _)
      case o7=>
       have eg:a.tmps.getD 17 undef= .bool true:=(ev 17 au).trans (hd 2 _ xk rfl);rw [if_pos (gY (j:=2) (t:=17) (b:=true) rfl xk eg)];have e20:tg a 20= .slice (some ⟨bk,ok,none⟩) n kc:=(ev 20 au).trans (hd 5 _ xk rfl);have e21:tg a 21= .int .i64 i:=(ev 21 au).trans (hd 6 _ xk rfl);have HK:=hid hK;clear hK ev hd eg;go_simp;exact HK.out _ _ aS hJ rfl (Ext.refl _ _)
      case o8=>
       have eg:a.tmps.getD 17 undef= .bool true:=(ev 17 au).trans (hd 2 _ xk rfl);rw [if_pos (gY (j:=2) (t:=17) (b:=true) rfl xk eg)];have e22:tg a 22= .pointer (some ⟨bk,ok+i,none⟩):=(ev 22 au).trans (hd 7 _ xk rfl);have g0:=(iw hJ ck)
       have HK:=hid hK;clear hK ev hd eg;go_simp;exact HK.out _ _ aS hJ rfl (Ext.refl _ _)
      case o9=>
       have eg:a.tmps.getD 17 undef= .bool true:=(ev 17 au).trans (hd 2 _ xk rfl);rw [if_pos (gY (j:=2) (t:=17) (b:=true) rfl xk eg)];have e3:tg a 3= .pointer (some ⟨b3,0,none⟩):=ev 3 au;have HK:=hid hK;clear hK ev hd eg;go_simp;exact HK.out _ _ aS hJ rfl (Ext.refl _ _)
      case o10=>
       have eg:a.tmps.getD 17 undef= .bool true:=(ev 17 au).trans (hd 2 _ xk rfl);rw [if_pos (gY (j:=2) (t:=17) (b:=true) rfl xk eg)];have e24:tg a 24= .pointer (some ⟨b3,3,none⟩):=(ev 24 au).trans (hd 9 _ xk rfl);have g0:=(iw hJ c3)
       have HK:=hid hK;clear hK ev hd eg;go_simp;exact HK.out _ _ aS hJ rfl (Ext.refl _ _)
      case o11=>
       have eg:a.tmps.getD 17 undef= .bool true:=(ev 17 au).trans (hd 2 _ xk rfl);rw [if_pos (gY (j:=2) (t:=17) (b:=true) rfl xk eg)];have e5:tg a 5= .int .i64 i:=ev 5 au;have HK:=hid hK;clear hK ev hd eg;go_simp;exact HK.out _ _ aS hJ rfl (Ext.refl _ _)
      case o12=>
       have eg:a.tmps.getD 17 undef= .bool true:=(ev 17 au).trans (hd 2 _ xk rfl);rw [if_pos (gY (j:=2) (t:=17) (b:=true) rfl xk eg)];have e25:tg a 25= .slice (some ⟨bv,ov,none⟩) n vc:=(ev 25 au).trans (hd 10 _ xk rfl);have e26:tg a 26= .int .i64 i:=(ev 26 au).trans (hd 11 _ xk rfl);have HK:=hid hK;clear hK ev hd eg;go_simp;exact HK.out _ _ aS hJ rfl (Ext.refl _ _)
      case o13=>
       have eg:a.tmps.getD 17 undef= .bool true:=(ev 17 au).trans (hd 2 _ xk rfl);rw [if_pos (gY (j:=2) (t:=17) (b:=true) rfl xk eg)];have e27:tg a 27= .pointer (some ⟨bv,ov+i,none⟩):=(ev 27 au).trans (hd 12 _ xk rfl);have g0:=(iw hJ cv)
       have HK:=hid hK;clear hK ev hd eg;go_simp;exact HK.out _ _ aS hJ rfl (Ext.refl _ _)
      case o14=>
       have eg:a.tmps.getD 17 undef= .bool true:=(ev 17 au).trans (hd 2 _ xk rfl);rw [if_pos (gY (j:=2) (t:=17) (b:=true) rfl xk eg)];have e23:tg a 23= .int .i64 kx:=(ev 23 au).trans (hd 8 _ xk rfl);have e28:tg a 28= .int .i64 vx:=(ev 28 au).trans (hd 13 _ xk rfl);have f23:a.tmps[23]?.getD undef= .int .i64 kx:=by rw [<-Array.getD_eq_getD_getElem?];exact e23
       have f28:a.tmps[28]?.getD undef= .int .i64 vx:=by rw [<-Array.getD_eq_getD_getElem?];exact e28
       have HK:=hid hK;clear hK ev hd eg;go_simp;exact HK.out _ _ aS hJ rfl (Ext.refl _ _)
     case fin=>
      intro u w3 hJ hG;have h17:u 17= .bool true:=hG 2 _ rfl;have h18:u 18= .func (.yield l) #[] #[]:=hG 3 _ rfl;have h29:u 29= .agg #[.int .i64 kx,.int .i64 vx]:=hG 14 _ rfl;have Ei:Below wr.heap.size wr w3:=by obtain ⟨q,rfl⟩:=hJ;exact below_drewN ru.out q
      have IQ:=hid Ei;have V_:=HKM.out rfl;obtain ⟨fn,tmps,assign,body,hy,hR⟩:=HY.out k w3 (by rw [aeA.out];exact V_) (HJ.out _ _ _ QG.out Ei);rw [hpa rfl] at hy;clear hG c2 c3 ck cv hJ hpa Ei;simp only [aX,kR,dstsOf,List.take_succ_cons,List.take_zero,List.filterMap_cons,List.filterMap_nil,List.contains_cons,List.contains_nil,Nat.reduceBEq,Bool.or_false,Bool.false_or,Bool.or_true,Bool.true_or,if_true,if_false,Bool.false_eq_true,Nat.reduceAdd,Nat.zero_add,List.drop_succ_cons,List.drop_zero,h17,h18,h29];gi_wp2
      refine ⟨rfl,hR.mono ?_⟩;rintro e W3 (⟨rfl,hJ3,hk3⟩ | ⟨rfl,hJx3⟩)
      . have HB3:=hid ((HB.out.below IQ.out).kept hk3 s1 s2 s3);have HW3:=hid (hk3.row HS.out.w (HRW.out.below IQ.out));have HK3:=hid (hk3.row HS.out.k (HRK.out.below IQ.out));have HV3:=hid (hk3.row HS.out.v (HRV.out.below IQ.out));have AY:=hid hJ3;clear hJ3 hk3 hy hR;gi_wp2
        gi_roundg (gk-1)
        case measure=>have:=HI2.out;omega
        case rel=>
         refine ⟨i+1,by have:=HI2.out;omega,by omega,by go_num,hid ?_,HB3,HW3,HK3,HV3⟩;have e9:=aeJ.out;simp only [if_true] at e9;rw [e9];exact AY.out
      . have AY:=hid hJx3;clear hJx3 hy hR;gi_wp2
        exact bodyPost_ret (results_none rfl _ _ _) rfl ⟨⟨_,rfl⟩,.inr ⟨k+1,by rw [aeA.out];omega,AY.out⟩⟩
    | false=>
     refine gX 15 xk (N:=33) rfl xk xk au (fun w'=>∃q,w'=wq.drewN q) (Ext 29) (rO [.is (.int .i64 i),.is (.bool false),.is (.bool false),.is undef,.is undef,.is undef,.is undef,.is undef,.is undef,.is undef,.is undef,.is undef,.is undef,.is undef,.is undef]) (iV _) ⟨1,rfl⟩ ?steps ?fin
     case steps=>
      refine ⟨?o0,?o1,?o2,?o3,?o4,?o5,?o6,?o7,?o8,?o9,?o10,?o11,?o12,?o13,?o14,trivial⟩<;>intro u a w' ev hJ hd K hK
      case o0=>
       rw [if_pos (bg rfl)];have e5:tg a 5= .int .i64 i:=ev 5 au;have HK:=hid hK;clear hK ev hd;go_simp;exact HK.out _ _ aS hJ rfl (Ext.refl _ _)
      case o1=>
       rw [if_pos (bg rfl)];have e6:tg a 6= .pointer (some ⟨wr.heap.size,0,none⟩):=ev 6 au;have e15:tg a 15= .int .i64 i:=(ev 15 au).trans (hd 0 _ xk rfl);have HK:=hid hK;have HI:=hid (HIS.out w' hJ);have HJ:=hid hJ;clear hK ev hd hJ;go_simp;refine ⟨trivial,rfl,(callsIn_wide.2 HI.out).mono ?_⟩;rintro e w'' ⟨rfl,rfl⟩;exact HK.out _ _ aS HJ.out rfl (Ext.refl _ _)
      case o2=>
       rw [if_pos (bg rfl)];have e16:tg a 16= .bool false:=(ev 16 au).trans (hd 1 _ xk rfl);have HK:=hid hK;clear hK ev hd;go_simp;exact HK.out _ _ aS hJ rfl (Ext.refl _ _)
      case o3=>
       have eg:a.tmps.getD 17 undef= .bool false:=(ev 17 au).trans (hd 2 _ xk rfl);rw [if_neg (by rw [iL (j:=2) (t:=17) (b:=true) rfl xk eg];decide)];exact ⟨fun _ _=>trivial,hK _ _ aS hJ rfl (Ext.refl _ _)⟩
      case o4=>
       have eg:a.tmps.getD 17 undef= .bool false:=(ev 17 au).trans (hd 2 _ xk rfl);rw [if_neg (by rw [iL (j:=2) (t:=17) (b:=true) rfl xk eg];decide)];exact ⟨fun _ _=>trivial,hK _ _ aS hJ rfl (Ext.refl _ _)⟩
      case o5=>
       have eg:a.tmps.getD 17 undef= .bool false:=(ev 17 au).trans (hd 2 _ xk rfl);rw [if_neg (by rw [iL (j:=2) (t:=17) (b:=true) rfl xk eg];decide)];exact ⟨fun _ _=>trivial,hK _ _ aS hJ rfl (Ext.refl _ _)⟩
      case o6=>
       have eg:a.tmps.getD 17 undef= .bool false:=(ev 17 au).trans (hd 2 _ xk rfl);rw [if_neg (by rw [iL (j:=2) (t:=17) (b:=true) rfl xk eg];decide)];exact ⟨fun _ _=>trivial,hK _ _ aS hJ rfl (Ext.refl _ _)⟩
      case o7=>
       have eg:a.tmps.getD 17 undef= .bool false:=(ev 17 au).trans (hd 2 _ xk rfl);rw [if_neg (by rw [iL (j:=2) (t:=17) (b:=true) rfl xk eg];decide)];exact ⟨fun _ _=>trivial,hK _ _ aS hJ rfl (Ext.refl _ _)⟩
      case o8=>
       have eg:a.tmps.getD 17 undef= .bool false:=(ev 17 au).trans (hd 2 _ xk rfl);rw [if_neg (by rw [iL (j:=2) (t:=17) (b:=true) rfl xk eg];decide)];exact ⟨fun _ _=>trivial,hK _ _ aS hJ rfl (Ext.refl _ _)⟩
      case o9=>
       have eg:a.tmps.getD 17 undef= .bool false:=(ev 17 au).trans (hd 2 _ xk rfl);rw [if_neg (by rw [iL (j:=2) (t:=17) (b:=true) rfl xk eg];decide)];exact ⟨fun _ _=>trivial,hK _ _ aS hJ rfl (Ext.refl _ _)⟩
      case o10=>
       have eg:a.tmps.getD 17 undef= .bool false:=(ev 17 au).trans (hd 2 _ xk rfl);rw [if_neg (by rw [iL (j:=2) (t:=17) (b:=true) rfl xk eg];decide)];exact ⟨fun _ _=>trivial,hK _ _ aS hJ rfl (Ext.refl _ _)⟩
      case o11=>
       have eg:a.tmps.getD 17 undef= .bool false:=(ev 17 au).trans (hd 2 _ xk rfl);rw [if_neg (by rw [iL (j:=2) (t:=17) (b:=true) rfl xk eg];decide)];exact ⟨fun _ _=>trivial,hK _ _ aS hJ rfl (Ext.refl _ _)⟩
      case o12=>
       have eg:a.tmps.getD 17 undef= .bool false:=(ev 17 au).trans (hd 2 _ xk rfl);rw [if_neg (by rw [iL (j:=2) (t:=17) (b:=true) rfl xk eg];decide)];exact ⟨fun _ _=>trivial,hK _ _ aS hJ rfl (Ext.refl _ _)⟩
      case o13=>
       have eg:a.tmps.getD 17 undef= .bool false:=(ev 17 au).trans (hd 2 _ xk rfl);rw [if_neg (by rw [iL (j:=2) (t:=17) (b:=true) rfl xk eg];decide)];exact ⟨fun _ _=>trivial,hK _ _ aS hJ rfl (Ext.refl _ _)⟩
      case o14=>
       have eg:a.tmps.getD 17 undef= .bool false:=(ev 17 au).trans (hd 2 _ xk rfl);rw [if_neg (by rw [iL (j:=2) (t:=17) (b:=true) rfl xk eg];decide)];exact ⟨fun _ _=>trivial,hK _ _ aS hJ rfl (Ext.refl _ _)⟩
     case fin=>
      intro u w3 hJ hG;have h17:u 17= .bool false:=hG 2 _ rfl;have h18:u 18=undef:=hG 3 _ rfl;have h29:u 29=undef:=hG 14 _ rfl;have Ei:Below wr.heap.size wr w3:=by obtain ⟨q,rfl⟩:=hJ;exact below_drewN ru.out q
      have IQ:=hid Ei;clear hG c2 c3 ck cv hJ hpa Ei;simp only [aX,kR,dstsOf,List.take_succ_cons,List.take_zero,List.filterMap_cons,List.filterMap_nil,List.contains_cons,List.contains_nil,Nat.reduceBEq,Bool.or_false,Bool.false_or,Bool.or_true,Bool.true_or,if_true,if_false,Bool.false_eq_true,Nat.reduceAdd,Nat.zero_add,List.drop_succ_cons,List.drop_zero,h17,h18,h29];gi_wp2
      refine ⟨fun _ h=>(by cases h),?_⟩;gi_wp2
      gi_roundg (gk-1)
      case measure=>have:=HI2.out;omega
      case rel=>
       refine ⟨i+1,by have:=HI2.out;omega,by omega,by go_num,hid ?_,hid (HB.out.below IQ.out),hid (HRW.out.below IQ.out),hid (HRK.out.below IQ.out),hid (HRV.out.below IQ.out)⟩;have e9:=aeJ.out;simp only [Bool.false_eq_true,if_false,Nat.add_zero] at e9;rw [e9];exact HJ.out _ _ _ QG.out IQ.out
  . have hih:hi=i:=xo;subst hih;have q1:=HB.out.hi;have HJ1:=QG.out;gi_wp2
    refine bodyPost_end (results_none rfl _ _ _) rfl ⟨⟨_,rfl⟩,.inl ?_⟩;rw [Ap.out];exact QG.out
end
section
open Go.RowKit
theorem Bv (ai many:Int) (w:World):
    Calls Tryz.prog 167 #[.int .i64 ai,.int .i64 many] w fun e w'=>e= .returned (.bool (rM ai many))/\w=w':=by
 by_cases c1:4<=ai
 . by_cases c2:ai<=64
   . have PW:=hid yx;obtain ⟨b1,hb1⟩:∃b,wB ai=b:=⟨_,rfl⟩
     cases b1 with
     | false=>
      have e:rM ai many=false:=by simp [rM,hb1]
      rw [e];clear e;go_enter Tryz.func167,Tryz.ntmps167
      go_wp2_with (go_at_call 209;refine (PW.out _ xo _).mono ?_;rintro e w' ⟨rfl,rfl⟩;rw [hb1])
      go_ret
      exact ⟨rfl,rfl⟩
     | true =>
      by_cases c4:ai<=many
      . by_cases c5:many<=65536
        . obtain ⟨r,hr⟩:∃r,many%ai=r:=⟨_,rfl⟩
          obtain ⟨q,hq⟩:∃q,many/ai=q:=⟨_,rfl⟩
          have hq2:q<=65536:=by rw [<-hq];exact Int.le_trans (Int.ediv_le_self _ xo) c5
          have hq0:0<=q:=by rw [<-hq];exact Int.ediv_nonneg xo xo
          have ht1:many.tmod ai=r:=by rw [Int.tmod_eq_emod_of_nonneg xo];exact hr
          have ht2:many.tdiv ai=q:=by rw [Int.tdiv_eq_ediv_of_nonneg xo];exact hq
          have hs0:(ai==0)=false:=by simp;omega
          by_cases c6:r=0
          . have e:rM ai many=wB q:=by simp [rM,hb1,hr,hq,c1,c2,c4,c5,c6]
            rw [e];subst c6;clear e;go_enter Tryz.func167,Tryz.ntmps167
            go_wp2_with (go_at_call 209;refine (PW.out _ xo _).mono ?_;rintro e w' ⟨rfl,rfl⟩;try rw [hb1])
            go_ret
            exact ⟨rfl,rfl⟩
          . have e:rM ai many=false:=by simp [rM,hb1,hr,c6]
            rw [e];have c6':(r==0)=false:=by simpa using c6
            clear e;go_enter Tryz.func167,Tryz.ntmps167
            go_wp2_with (go_at_call 209;refine (PW.out _ xo _).mono ?_;rintro e w' ⟨rfl,rfl⟩;rw [hb1])
            go_ret
            exact ⟨rfl,rfl⟩
        . have e:rM ai many=false:=by simp [rM,c5]
          rw [e];clear e;go_enter Tryz.func167,Tryz.ntmps167
          go_wp2_with (go_at_call 209;refine (PW.out _ xo _).mono ?_;rintro e w' ⟨rfl,rfl⟩;rw [hb1])
          go_ret
          exact ⟨rfl,rfl⟩
      . have e:rM ai many=false:=by simp [rM,c4]
        rw [e];clear e;go_enter Tryz.func167,Tryz.ntmps167
        go_wp2_with (go_at_call 209;refine (PW.out _ xo _).mono ?_;rintro e w' ⟨rfl,rfl⟩;rw [hb1])
        go_ret
        exact ⟨rfl,rfl⟩
   . have e:rM ai many=false:=by simp [rM,c2]
     rw [e];clear e;go_enter Tryz.func167,Tryz.ntmps167
     go_wp2
     go_ret
     exact ⟨rfl,rfl⟩
 . have e:rM ai many=false:=by simp [rM,c1]
   rw [e];clear e;go_enter Tryz.func167,Tryz.ntmps167
   go_wp2
   go_ret
   exact ⟨rfl,rfl⟩
theorem IB (n:Nat) (ni:Int) (hn:ni=n) (h0:1<=n) (h1:n<=65536) (w:World):
    Calls Tryz.prog 81 #[.int .i64 ni] w fun e w'=>e= .returned (.tuple #[.int .i64 (n.log2:Nat),.int .i64 0])/\w=w':=by
 subst hn;have uo:n.log2<=n:=Nat.log2_le_self n;have HL:=hid uo;clear uo;go_enter Tryz.func81,Tryz.ntmps81
 go_wp2
 refine bZ 0 (fun g a' w'=>w'=w/\∃b k:Nat,b=g/\b<=n/\1<=b/\k+b.log2=n.log2/\∃u:Nat->Value,a'= {tmps:= #[.int .i64 b,u 1,.int .i64 k,u 3,u 4,u 5,u 6,u 7,u 8,u 9,u 10,u 11,u 12],defers:=[]}) rfl ?_ ?_
 . rintro g a wo ⟨rfl,b,k,rfl,hbn,hb1,hk,u,rfl⟩ H hH;have hkb:k<=65536:=by have:=HL.out;omega
   by_cases h:2<=b
   . have h2:=qA h;have H2:=hid (And.intro h2 hk);clear h2 hk;go_wp2
     refine wp_goto ?_;refine show (0=0/\H _ _) from ⟨rfl,hH (b/2) _ _ xo ⟨rfl,b/2,k+1,rfl,by omega,by omega,by have:=H2.out;omega,jq _ _ _ ?_⟩⟩
     rw [show ((b/2:Nat):Int)=(b:Int)/2 by omega,show ((k+1:Nat):Int)=(k:Int)+1 by omega];rfl
   . have h2:=uJ (n:=b) xo;have hkl:k=n.log2:=xo;subst hkl;have hb:b=1:=xo;subst hb;clear h2 hk;go_wp2
     simp only [Exit.jump];go_ret2
     exact ⟨rfl,rfl⟩
 . intro H hH nS;go_wp2
   refine wp_label ?_;go_step
   go_step
   refine nS n _ _ ?_;exact ⟨rfl,n,0,rfl,Nat.le_refl _,h0,by omega,jq _ _ _ rfl⟩
end
end Go.Proofs.YtbedhbpgnfffmaaGreatDoor

/- Merged: OccP, RowIx, Range, Occ. -/
import Derived.Test.YtmnlagmmbfjbeaaDoorPmaNamesP3
import Derived.Test.YtmnlagmmbfjbeaaDoorPmaNamesP2
import Derived.BigRegion
import Derived.Lib.SliceRun
import Derived.Test.YtmnlagmmbfjbeaaDoorPmaNamesP1
import Derived.RangeFuncNested
import Derived.RangeFuncBound
import Derived.RangeFuncCalls
import Derived.RangeFuncLeaves
import Derived.Shelf.Abstract
import Derived.Shelf.RegionOpen
import Derived.OwnWalkIn
import Derived.TacticsInMore
import Derived.LoopNIn
import Derived.LoopIn
import Derived.Sort.LoopGhostIn
namespace Go.Proofs.YtmnlagmmbfjbeaaDoor
set_option maxRecDepth 100000
set_option maxHeartbeats 40000000
set_option linter.unusedVariables false
set_option linter.unusedSimpArgs false
section
open Go.RowKit
def cutA (ws:List Int) (a k:Nat):Int:=if 64*k<a then cutLo (ws.getD k 0) (a-64*k) else ws.getD k 0
def cutV (ws:List Int) (a b k:Nat):Int:=if b<64*k+64 then cutHi (cutA ws a k) (64*k+64-b) else cutA ws a k
theorem cutA_bd {ws:List Int} (h:U64s ws) (a k:Nat):0≤cutA ws a k∧cutA ws a k<18446744073709551616:=by
 have:=h.get k;unfold cutA;split
 · have:=cutLo_bd (x:=ws.getD k 0) xo (a-64*k);omega
 · exact this
theorem cutV_bd {ws:List Int} (h:U64s ws) {a b k:Nat} (hb:64*k≤b):0≤cutV ws a b k∧cutV ws a b k<18446744073709551616:=by
 have:=cutA_bd h a k;unfold cutV;split
 · exact cutHi_bd this.1 this.2 xo
 · exact this
theorem bitW_at (ws:List Int) (k:Nat) {j:Nat} (hj:j<64):bitW ws (64*k+j)=bitI (ws.getD k 0) j:=by
 rw [bitW,show (64*k+j)/64=k by omega,show (64*k+j)%64=j by omega]
def inW (ws:List Int) (a b i:Nat):Bool:=bitW ws i&&(decide (a≤i)&&decide (i<b))
theorem cutV_bit {ws:List Int} (h:U64s ws) {a b k j:Nat} (hb:64*k≤b) (hj:j<64):bitI (cutV ws a b k) j=inW ws a b (64*k+j):=by
 have h1:=h.get k;have h2:=cutA_bd h a k;have e1:bitI (cutA ws a k) j=(bitW ws (64*k+j)&&decide (a≤64*k+j)):=by
  rw [bitW_at ws k hj];unfold cutA;split
  · rw [cutLo_bit h1.1];congr 1
    rw [decide_eq_decide];omega
  · rw [decide_eq_true xo,Bool.and_true]
 unfold cutV inW;split
 · rw [cutHi_bit h2.1 xo,e1,Bool.and_assoc];congr 2
   rw [decide_eq_decide];omega
 · rw [e1,decide_eq_true (by omega:64*k+j<b),Bool.and_true]
theorem popI_cutV {ws:List Int} (h:U64s ws) {a b k:Nat} (hb:64*k≤b):popI (cutV ws a b k)=(List.range 64).countP fun j=>inW ws a b (64*k+j):=by
 unfold popI;apply List.countP_congr;intro j hj;rw [List.mem_range] at hj;rw [cutV_bit h hb hj]
def cntP (ws:List Int) (a b m:Nat):Nat:=((List.range' (a/64) m).map fun k=>popI (cutV ws a b k)).sum
theorem cntP_zero (ws:List Int) (a b:Nat):cntP ws a b 0=0:=rfl
theorem cntP_succ (ws:List Int) (a b m:Nat):cntP ws a b (m+1)=cntP ws a b m+popI (cutV ws a b (a/64+m)):=by
 unfold cntP;rw [List.range'_concat,List.map_append,List.sum_append];simp
theorem cnt_blocks (g:Nat→Bool) (s:Nat) (hs:∀i,i<64*s→g i=false):∀m,(List.range (64*(s+m))).countP g=((List.range' s m).map fun k=>(List.range 64).countP fun j=>g (64*k+j)).sum:=by
 intro m;induction m with
 | zero=>
  simp only [Nat.add_zero,List.range'_zero,List.map_nil,List.sum_nil];rw [List.countP_eq_zero];intro i hi;rw [List.mem_range] at hi;simp [hs i hi]
 | succ m ih=>
  rw [show 64*(s+(m+1))=64*(s+m)+64 by omega,List.range_add,List.countP_append,ih,List.range'_concat,List.map_append,List.sum_append,List.countP_map];simp only [List.map_cons,List.map_nil,List.sum_cons,List.sum_nil,Nat.add_zero,Nat.one_mul];rfl
theorem cnt_in (ws:List Int) {a b n:Nat} (h1:a≤b) (h2:b≤n):(List.range n).countP (inW ws a b)=cntW ws a b:=by
 have e:List.range n=List.range' 0 a++(List.range' a (b-a)++List.range' b (n-b)):=by
  have e1:=List.range'_append (s:=a) (m:=b-a) (n:=n-b) (step:=1);have e2:=List.range'_append (s:=0) (m:=a) (n:=n-a) (step:=1);simp only [Nat.one_mul,Nat.zero_add] at e1 e2;rw [show a+(b-a)=b by omega,show b-a+(n-b)=n-a by omega] at e1;rw [show a+(n-a)=n by omega] at e2;rw [e1,e2,List.range_eq_range']
 rw [e,List.countP_append,List.countP_append];have z1:(List.range' 0 a).countP (inW ws a b)=0:=by
  rw [List.countP_eq_zero];intro i hi;have:=List.mem_range'_1.1 hi;simp [inW,show ¬a≤i by omega]
 have z2:(List.range' b (n-b)).countP (inW ws a b)=0:=by
  rw [List.countP_eq_zero];intro i hi;have:=List.mem_range'_1.1 hi;simp [inW,show ¬i<b by omega]
 have z3:(List.range' a (b-a)).countP (inW ws a b)=cntW ws a b:=by
  apply List.countP_congr;intro i hi;have:=List.mem_range'_1.1 hi;simp [inW,show a≤i by omega,show i<b by omega]
 omega
theorem cntP_all {ws:List Int} (h:U64s ws) {a b:Nat} (hab:a≤b):cntP ws a b ((b+63)/64-a/64)=cntW ws a b:=by
 rw [←cnt_in ws hab (show b≤64*(a/64+((b+63)/64-a/64)) by omega),cnt_blocks (inW ws a b) (a/64) (fun i hi=>by simp [inW,show ¬a≤i by omega]),cntP];congr 1
 apply List.map_congr_left;intro k hk;have:=List.mem_range'_1.1 hk;exact popI_cutV h xo
theorem cntP_le {ws:List Int} (a b m:Nat):cntP ws a b m≤64*m:=by
 induction m with
 | zero=>rw [cntP_zero];omega
 | succ m ih=>rw [cntP_succ];have:=popI_le (cutV ws a b (a/64+m));omega
def partsL (ws:List Int) (a b:Nat):List (Array Value):=(List.range' (a/64) ((b+63)/64-a/64)).map fun k=> #[.int .i64 ((64*k:Nat):Int),.int .u64 (cutV ws a b k)]
theorem partsL_length (ws:List Int) (a b:Nat):(partsL ws a b).length=(b+63)/64-a/64:=by simp [partsL]
theorem partsL_get (ws:List Int) {a b k:Nat} (h:k<(b+63)/64-a/64):(partsL ws a b).getD k #[]= #[.int .i64 ((64*(a/64+k):Nat):Int),.int .u64 (cutV ws a b (a/64+k))]:=by
 rw [List.getD_eq_getElem?_getD,partsL,List.getElem?_map,List.getElem?_eq_getElem (by simpa using h)];simp
theorem plsW_nil (ws:List Int) (a:Nat):plsW ws a a=[]:=by simp [plsW]
theorem plsW_succ {ws:List Int} {a b:Nat} (h:a≤b):plsW ws a (b+1)=plsW ws a b++if bitW ws b=true then [b] else []:=by
 unfold plsW;rw [show b+1-a=b-a+1 by omega,List.range'_concat,List.filter_append];congr 1
 rw [show a+1*(b-a)=b by omega];simp [List.filter_cons]
theorem cntW_none {ws:List Int} {a b:Nat} (h:b≤a):cntW ws a b=0:=by simp [cntW,show b-a=0 by omega]
theorem wMayB_iff {ws:List Int} (hu:U64s ws) {n:Nat} (hl:ws.length=(n+63)/64):wMayB ws n=true↔n%64=0∨ws.getD (ws.length-1) 0/2^(n%64)=0:=by
 have hg:=hu.get (ws.length-1);unfold wMayB;rw [decide_eq_true hl,Bool.true_and,List.all_eq_true];constructor
 · intro h;by_cases h0:n%64=0
   · exact .inl h0
   · right;rw [shr_zero hg.1];intro i hi;by_cases h64:i<64
     · have:=h (64*(ws.length-1)+i) (List.mem_range'_1.2 xo);rw [bitW_at _ _ h64] at this;simpa using this
     · exact bitI_high hg.2 xo
 · rintro h i hi;have hi:=List.mem_range'_1.1 hi;rcases h with h|h
   · omega
   · rw [shr_zero hg.1] at h;have:=h (i%64) xo;rw [bitW,show i/64=ws.length-1 by omega,this];rfl
end
section
open Go.RowKit
theorem infoR_int64:(Tryd.prog.info? 2).map (fun i=>(i.zero,i.size,i.bytes))=some (some (.int .i64 0),1,8):=by kernel_rfl
theorem Clone_int64 (ga:Option Addr) (gc:Nat) (xs:List Int) (w:World) (hg:IsRow .i64 w ga xs) (hl:xs.length≤100000):
    Calls Tryd.prog 56 #[.slice ga xs.length gc] w (FreshRow .i64 2 w xs):=by
 have q22:∀(w:World) (a:Option Addr) (n c n' c':Nat),(binOp .eql 25 (.slice a n c) (.slice none n' c')).run Tryd.prog w= .ok (.bool a.isNone) w:=fun w a n c n' c'=>Lib.run_eql_slice_nil w _ _ a n c n' c' Tryd.underlying25
 have HG:=hid hg;clear hg;cases ga with
 | none=>
  have hx:xs=[]:=row_none HG.out;subst hx;go_enter Tryd.func56,Tryd.ntmps56
  go_wp2
  go_ret
  exact ⟨_,rfl,World.ownsRow_nil _ _ _ _,Below.refl _ _⟩
 | some a=>
  have HN:=hid (row_news HG.out);go_enter Tryd.func56,Tryd.ntmps56
  go_wp2_with (at_builtin;refine wpl_append (.tmp 5) (.tmp 6) 25 2 (.int .i64 0) 1 8 Tryd.underlying25 infoR_int64 rfl xdd xdd w.heap.size _ 0 [] (some a) xs.length gc (xs.map (Value.int .i64)) (World.ownsRow_made w #[] 0 (Nat.le_refl _) (Nat.zero_le _) rfl) xsi xzc (fun ad h j u hj=>Lib.cell?_alloc_some _ (HN.out ad h j u hj)) (numCells _) xo xsi rfl rfl rfl rfl ?_;intro v' w1 hown hgrow _)
  go_wp2
  go_ret
  refine ⟨v',rfl,by simpa using hown,?_⟩;exact ((Below.refl _ w).alloc (Nat.le_refl _) _).grown hgrow xsi (by intro k hk;simp [Value.ownBlock] at hk;omega)
theorem infoR_int:(Tryd.prog.info? 3).map (fun i=>(i.zero,i.size,i.bytes))=some (some (.int .i64 0),1,8):=by kernel_rfl
theorem Clone_int (ga:Option Addr) (gc:Nat) (xs:List Int) (w:World) (hg:IsRow .i64 w ga xs) (hl:xs.length≤100000):
    Calls Tryd.prog 57 #[.slice ga xs.length gc] w (FreshRow .i64 3 w xs):=by
 have q22:∀(w:World) (a:Option Addr) (n c n' c':Nat),(binOp .eql 26 (.slice a n c) (.slice none n' c')).run Tryd.prog w= .ok (.bool a.isNone) w:=fun w a n c n' c'=>Lib.run_eql_slice_nil w _ _ a n c n' c' Tryd.underlying26
 have HG:=hid hg;clear hg;cases ga with
 | none=>
  have hx:xs=[]:=row_none HG.out;subst hx;go_enter Tryd.func57,Tryd.ntmps57
  go_wp2
  go_ret
  exact ⟨_,rfl,World.ownsRow_nil _ _ _ _,Below.refl _ _⟩
 | some a=>
  have HN:=hid (row_news HG.out);go_enter Tryd.func57,Tryd.ntmps57
  go_wp2_with (at_builtin;refine wpl_append (.tmp 5) (.tmp 6) 26 3 (.int .i64 0) 1 8 Tryd.underlying26 infoR_int rfl xdd xdd w.heap.size _ 0 [] (some a) xs.length gc (xs.map (Value.int .i64)) (World.ownsRow_made w #[] 0 (Nat.le_refl _) (Nat.zero_le _) rfl) xsi xzc (fun ad h j u hj=>Lib.cell?_alloc_some _ (HN.out ad h j u hj)) (numCells _) xo xsi rfl rfl rfl rfl ?_;intro v' w1 hown hgrow _)
  go_wp2
  go_ret
  refine ⟨v',rfl,by simpa using hown,?_⟩;exact ((Below.refl _ w).alloc (Nat.le_refl _) _).grown hgrow xsi (by intro k hk;simp [Value.ownBlock] at hk;omega)
end
section
open Go.RowKit
structure Calm (B:Nat) (W W':World):Prop where
 os:W'.os=W.os
 tape:W'.tape=W.tape
 output:W'.output=W.output
 size:W.heap.size≤W'.heap.size
 low:∀k,k<B→W'.heap[k]? =W.heap[k]?
 cells:∀(k:Nat) (o:Obj),W.heap[k]? =some o→o.isCells=true→W'.heap[k]? =some o
theorem Calm.refl (B:Nat) (W:World):Calm B W W:=⟨rfl,rfl,rfl,Nat.le_refl _,fun _ _=>rfl,fun _ _ h _=>h⟩
theorem Calm.trans {B:Nat} {X Y Z:World} (h:Calm B X Y) (k:Calm B Y Z):Calm B X Z:=
  ⟨k.os.trans h.os,k.tape.trans h.tape,k.output.trans h.output,Nat.le_trans h.size k.size,fun i hi=>(k.low i hi).trans (h.low i hi),fun i o hi ho=>k.cells i o (h.cells i o hi ho) ho⟩
theorem Calm.mono {B B':Nat} {X Y:World} (h:Calm B X Y) (hb:B'≤B):Calm B' X Y:=⟨h.os,h.tape,h.output,h.size,fun i hi=>h.low i xo,h.cells⟩
theorem Calm.putObj {B:Nat} {W:World} {l:Nat} {o:Obj} (o':Obj) (hB:B≤l) (hl:W.heap[l]? =some o) (ho:o.isCells=false):Calm B W (W.putObj l o'):=
  ⟨rfl,rfl,rfl,by simp [World.putObj],fun k hk=>World.putObj_heap_other xo,fun k o2 hk ho2=>by
   by_cases e:k=l
   · subst e;rw [hl] at hk;cases hk;rw [ho] at ho2;cases ho2
   · exact (World.putObj_heap_other e).trans hk⟩
theorem Calm.alloc {B:Nat} {W:World} (o:Obj) (hB:B≤W.heap.size):Calm B W (W.alloc o):=
  ⟨rfl,rfl,rfl,by simp,fun k hk=>Below.heap_alloc W o k xo,fun k o2 hk _=>(Below.heap_alloc W o k (Array.getElem?_eq_some_iff.1 hk).1).trans hk⟩
theorem Calm.drew {B:Nat} {W:World}:Calm B W W.drew:=⟨rfl,rfl,rfl,Nat.le_refl _,fun _ _=>rfl,fun _ _ h _=>h⟩
theorem Calm.cell {B:Nat} {W W':World} (h:Calm B W W') {a:Addr} {v:Value} (hc:W.cell? a=some v):W'.cell? a=some v:=by
 obtain ⟨o,ho,hoc⟩:=cells_of_cell hc;rw [World.cell?_of_block (w:=W) ((h.cells _ _ ho hoc).trans ho.symm)];exact hc
theorem Calm.frozen {B:Nat} {W W':World} (h:Calm B W W') {a:Addr} {v:Value} (hc:W.cell? a=some v) {x:Bool} (hf:W.frozen? a=x):W'.frozen? a=x:=by
 obtain ⟨o,ho,hoc⟩:=cells_of_cell hc;rw [World.frozen?_of_block (w:=W) ((h.cells _ _ ho hoc).trans ho.symm)];exact hf
theorem Calm.owns {B:Nat} {W W':World} (h:Calm B W W') {base:Nat} {e:TypeId} {size:Nat} {v:Value} {n:Nat} {xs:List Value} (ho:W.ownsRow base e size v n xs):W'.ownsRow base e size v n xs:=by
 obtain ⟨h1,h2⟩:=ho;refine ⟨h1,?_⟩;rcases h2 with h2 | ⟨g,cap,cur,hv,hg,hh,r⟩
 · exact .inl h2
 · exact .inr ⟨g,cap,cur,hv,hg,h.cells _ _ hh rfl,r⟩
theorem Calm.ints {B:Nat} {W W':World} (h:Calm B W W') {a:Option Addr} {xs:List Int} (hi:IsInts W a xs):IsInts W' a xs:=by
 intro i hl;obtain ⟨b,off,ha,hlt,hc⟩:=hi i hl;exact ⟨b,off,ha,Nat.lt_of_lt_of_le hlt h.size,fun j hj=>h.cell (hc j hj)⟩
theorem Calm.below {B n:Nat} {w W W':World} (h:Calm B W W') (hn:n≤B) (hb:Below n w W):Below n w W':=
  ⟨h.os.trans hb.os,h.tape.trans hb.tape,h.output.trans hb.output,Nat.le_trans hb.size h.size,fun k hk=>(h.low k xo).trans (hb.block k hk)⟩
theorem keeps_below {W W':World} (h:Below W.heap.size W W'):KeepsOthers W W':=
  ⟨h.size,fun k o hk _=>(h.block k (Array.getElem?_eq_some_iff.1 hk).1).trans hk⟩
theorem keeps_drewN (W:World) (n:Nat):KeepsOthers W (W.drewN n):=⟨Nat.le_refl _,fun _ _ h _=>h⟩
def Iter (P:Program) (gf:Nat) (lb:Array Value) (xs:List (Array Value)) (Kp:World→World→Prop) (w:World):Prop:=
  ∀ (l:Nat) (J Jx:Nat→World→Prop) (W:World),Below w.heap.size w W→
    (∀k W1 W2,J k W1→Below W1.heap.size W1 W2→J k W2)→(∀k W1 W2,Jx k W1→Below W1.heap.size W1 W2→Jx k W2)→
    (∀k W1,k<xs.length→J k W1→YieldAt Fence.wide 0 P l (xs.getD k #[]) W1 fun e W'=>
     (e= .returned (.bool true)∧J (k+1) W'∧Kp W1 W')∨(e= .returned (.bool false)∧Jx (k+1) W'))→
    J 0 W→
    CallsIn Fence.wide 0 P gf (#[.func (.yield l) #[] #[]]++lb) W fun e W'=>(∃v,e= .returned v)∧(J xs.length W'∨∃k,k≤xs.length∧Jx k W')
theorem Iter.later {P:Program} {gf:Nat} {lb:Array Value} {xs:List (Array Value)} {Kp:World→World→Prop} {w w':World} (h:Iter P gf lb xs Kp w) (hb:Below w.heap.size w w'):Iter P gf lb xs Kp w':=
  fun l J Jx W hW hJ hJx hY h0=>h l J Jx W (hb.trans (hW.mono hb.size)) hJ hJx hY h0
def rEnd (Kp:World→World→Prop) (I:Nat→World→Prop) (Ix:Code→World→Prop) (k:Nat) (W:World):Exit→Act→World→Prop
  | .normal,_,W'=>KeepsOthers W W'∧Kp W W'∧I (k+1) W'
  | .ret,_,W'=>KeepsOthers W W'∧Ix .ret W'
  | .exit id,_,W'=>KeepsOthers W W'∧Ix (.exit id) W'
  | .goto t,_,W'=>KeepsOthers W W'∧Ix (.goto t) W'
  | .panic _,_,_=>False
  | .outgrown,_,_=>False
theorem calls_of_wp_m {P:Program} {f:FuncId} {fn:Func} {c:Code} {args:Array Value} {w:World} {R:Ending→World→Prop}
    (hf:P.funcs[f]? =some fn) (hb:fn.body=some c)
    (h:c.wp P (bodyPostM Fence.wide 0 P fn R) {tmps:=args++Array.replicate (fn.ntmps-args.size) undef,defers:=[]} w):Calls P f args w R:=
  callsIn_wide.1 (callsIn_of_wp_marks (n:=0) hf hb trivial (wpIn_wide.2 h))
theorem postM_one {P:Program} {fn:Func} {R:Ending→World→Prop} {t:Array Value} {w:World} {D:Nat} {v:Value} (hK:w.heap[D]? =some (.deferred (some [])))
    (hr:(results fn t).run P (w.putObj D (.deferred none))= .ok v (w.putObj D (.deferred none))) (hR:R (.returned v) (w.putObj D (.deferred none))):
    bodyPostM Fence.wide 0 P fn R .ret {tmps:=t,defers:=[{target:= .collected D,args:= #[]}]} w:=
  ⟨by simp,.inl ⟨_,_,rfl,run_takeDeferred hK,v,hr,hR⟩⟩
abbrev inRd (l:Nat):Fence:=Fence.wide.inRound l
structure BodyOkW (P:Program) (l:Nat) (body:Code) (B:Nat) (Kp:World→World→Prop) (I:Nat→World→Prop) (Ix:Code→World→Prop) (k:Nat) (W:World) (a1:Act) (W1:World):Prop where
 keeps:KeepsOthers W W1
 kp:Kp W W1
 body:∀W2,Calm B W1 W2→body.wpIn (inRd l) 0 P (rEnd Kp I Ix k W2) a1 W2
structure BodyOk (P:Program) (l:Nat) (body:Code) (Kp:World→World→Prop) (I:Nat→World→Prop) (Ix:Code→World→Prop) (k:Nat) (W:World) (a1:Act) (W1:World):Prop where
 same:W1=W
 body:∀W2,I k W2→body.wpIn (inRd l) 0 P (rEnd Kp I Ix k W2) a1 W2
theorem wp_range_w {P:Program} {g:Operand} {ps:Array Tmp} {assign body:Code} {Q:Exit→Act→World→Prop} {a:Act} {w:World}
    {gf:Nat} {lb:Array Value} (hg:a.eval g= .func (.func gf) #[] lb) (eg:∀args w,(callFunc gf args).run P w= .ok (.enter gf args) w)
    {xs:List (Array Value)} {Kp:World→World→Prop} {w0:World} (hseq:Iter P gf lb xs Kp w0) (hb0:Below w0.heap.size w0 w)
    (hKt:∀ {A B C:World},Kp A B→Kp B C→Kp A C) (hKb:∀(W:World) (l:Nat) (o o':Obj),w.heap.size≤l→W.heap[l]? =some o→o.isCells=false→Kp W (W.putObj l o'))
    (hps:∀x ∈ xs,x.size=ps.size)
    (I:Nat→World→Prop) (Ix:Code→World→Prop) (hI:∀k W W',I k W→Calm w.heap.size W W'→I k W') (hIx:∀c W W',Ix c W→Calm w.heap.size W W'→Ix c W') (h0:I 0 w)
    (hround:∀(l k:Nat) (W:World),w.heap.size≤l→k<xs.length→I k W→
      assign.wpIn (inRd l) 0 P (Exit.then (BodyOkW P l body w.heap.size Kp I Ix k W) (fun _ _ _=>False))
        {tmps:=(ps.zip (xs.getD k #[])).foldl (fun t (p,v)=>t.setIfInBounds p v) a.tmps,defers:=[]} W)
    (hdone:∀(D:Nat) (W:World),w.heap.size≤D→I xs.length W→W.heap[D]? =some (.deferred (some []))→Q .normal {a with defers:= {target:= .collected D,args:= #[]}::a.defers} W)
    (hstop:∀(D:Nat) (c:Code) (W:World),w.heap.size≤D→Ix c W→W.heap[D]? =some (.deferred (some []))→c.wp P Q {a with defers:= {target:= .collected D,args:= #[]}::a.defers} W):
    (Code.rangeFunc g ps assign body).wp P Q a w:=by
 refine wpIn_wide (n:=0).1 (wpIn_rangeFunc ?_);intro fn hfn;obtain ⟨rec,hrec⟩:∃rec:LoopState→Option Code→Loop,rec=fun st pe=> {state:=st,pending:=pe,fn,tmps:=a.tmps,params:=ps,assign,body,defers:=w.heap.size}:=⟨_,rfl⟩
 obtain ⟨W1,hW1⟩:∃W1,(w.alloc (.deferred (some []))).alloc (.loop (rec .ready none))=W1:=⟨_,rfl⟩
 have hL1:W1.heap[w.heap.size+1]? =some (.loop (rec .ready none)):=by
  rw [←hW1];have:=World.alloc_heap_new (w.alloc (.deferred (some []))) (.loop (rec .ready none));rwa [World.size_alloc] at this
 have hK1:W1.heap[w.heap.size]? =some (.deferred (some [])):=by
  rw [←hW1];exact (Below.heap_alloc _ _ _ xsi).trans (World.alloc_heap_new w _)
 have hI1:I 0 W1:=by rw [←hW1];exact hI _ _ _ h0 ((Calm.alloc _ (Nat.le_refl _)).trans (Calm.alloc _ xsi))
 have hb1:Below w0.heap.size w0 W1:=by
  rw [←hW1];exact hb0.trans ((((Below.refl _ w).alloc (Nat.le_refl _) _).alloc xsi _).mono hb0.size)
 have calmOf:∀ {A C:World},w.heap.size≤A.heap.size→Below A.heap.size A C→Calm w.heap.size A C:=fun hs hb=>
  ⟨hb.os,hb.tape,hb.output,hb.size,fun k hk=>hb.block k xo,fun k o hk _=>(hb.block k (Array.getElem?_eq_some_iff.1 hk).1).trans hk⟩
 refine ⟨w.heap.size+1,[{target:= .collected w.heap.size,args:= #[]}],W1,{target:= .fn (.func gf) lb,args:= #[.func (.yield (w.heap.size+1)) #[] #[]]},W1,gf,
   #[.func (.yield (w.heap.size+1)) #[] #[]]++lb,W1,?_,?_,fun _ _=>trivial,?_,fun h=>(by cases h),?_⟩
 · rw [←hW1,hrec];exact run_enterLoop_outer _ _ _ _ _
 · simp only [resolve,hg];simp [go_sem]
 · simp [invoke,go_sem,eg]
 · refine (hseq (w.heap.size+1)
     (fun k W=>I k W∧W.heap[w.heap.size+1]? =some (.loop (rec .ready none))∧W.heap[w.heap.size]? =some (.deferred (some [])))
     (fun _ W=>∃c,Ix c W∧W.heap[w.heap.size+1]? =some (.loop (rec .done (some c)))∧W.heap[w.heap.size]? =some (.deferred (some [])))
     W1 hb1 ?_ ?_ ?_ ⟨hI1,hL1,hK1⟩).mono ?_
   · rintro k A C ⟨h1,h2,h3⟩ hb;have l2:=(Array.getElem?_eq_some_iff.1 h2).1;exact ⟨hI _ _ _ h1 (calmOf xo hb),(hb.block _ l2).trans h2,(hb.block _ xo).trans h3⟩
   · rintro k A C ⟨c,h1,h2,h3⟩ hb;have l2:=(Array.getElem?_eq_some_iff.1 h2).1;exact ⟨c,hIx _ _ _ h1 (calmOf xo hb),(hb.block _ l2).trans h2,(hb.block _ xo).trans h3⟩
   · -- one round
     rintro k W hkl ⟨hi,hl,hk⟩;have hlt:w.heap.size+1<W.heap.size:=(Array.getElem?_eq_some_iff.1 hl).1;have hsz:(xs.getD k #[]).size=ps.size:=by
      rw [List.getD_eq_getElem?_getD,List.getElem?_eq_getElem hkl];exact hps _ (List.getElem_mem _)
     have hy:=run_yield (P:=P) (args:=xs.getD k #[]) hl (by rw [hrec];exact hsz);rw [hrec] at hy;refine ⟨fn,_,assign,body,hy,roundIn_of_wpIn trivial (wpIn_mono (hround _ k W xo hkl hi) ?_)⟩;intro e a1 Wa hq;cases e with
     | normal=>
      obtain ⟨hks,hkpa,hbody⟩:=hq;have hl0:=hl;have hlt0:=hlt;replace hl:Wa.heap[w.heap.size+1]? =some (.loop (rec .ready none)):=hks.same _ _ hl0 (by rfl);replace hk:Wa.heap[w.heap.size]? =some (.deferred (some [])):=hks.same _ _ hk (by rfl);replace hlt:w.heap.size+1<Wa.heap.size:=(Array.getElem?_eq_some_iff.1 hl).1;refine ⟨_,run_beginRound hl (by rw [hrec]),?_⟩;have hl2:(Wa.putObj (w.heap.size+1) (.loop {rec .ready none with state:= .busy})).heap[w.heap.size+1]? =some (.loop {rec .ready none with state:= .busy}):=World.putObj_heap_same hlt;have hk2:(Wa.putObj (w.heap.size+1) (.loop {rec .ready none with state:= .busy})).heap[w.heap.size]? =some (.deferred (some [])):=(World.putObj_heap_other xo).trans hk;have hw2:Kp Wa (Wa.putObj (w.heap.size+1) (.loop {rec .ready none with state:= .busy})):=hKb _ _ _ _ xo hl rfl;have hi2:Calm w.heap.size Wa (Wa.putObj (w.heap.size+1) (.loop {rec .ready none with state:= .busy})):=Calm.putObj _ xo hl rfl;refine wpIn_mono (hbody _ hi2) ?_;have fin:∀(jump:Option Code) (W3:World),KeepsOthers (Wa.putObj (w.heap.size+1) (.loop {rec .ready none with state:= .busy})) W3→
          (Instr.endRound (w.heap.size+1) jump).run P W3= .ok (.bool jump.isNone) (W3.putObj (w.heap.size+1) (.loop (rec (if jump.isNone then .ready else .done) jump)))∧
          W3.heap[w.heap.size+1]? =some (.loop {rec .ready none with state:= .busy})∧
          (W3.putObj (w.heap.size+1) (.loop (rec (if jump.isNone then .ready else .done) jump))).heap[w.heap.size+1]? =some (.loop (rec (if jump.isNone then .ready else .done) jump))∧
          (W3.putObj (w.heap.size+1) (.loop (rec (if jump.isNone then .ready else .done) jump))).heap[w.heap.size]? =some (.deferred (some [])):=fun jump W3 hk3=>by
       have hl3:=hk3.same _ _ hl2 rfl;have:=run_endRound (P:=P) jump hl3;rw [hrec] at this ⊢;exact ⟨this,by rw [hrec] at hl3;exact hl3,World.putObj_heap_same (Array.getElem?_eq_some_iff.1 hl3).1,(World.putObj_heap_other xo).trans (hk3.same _ _ hk2 rfl)⟩
      rintro e a3 W3 hp;cases e with
      | normal=>
       obtain ⟨hk3,hkp3,hi3⟩:=hp;obtain ⟨hr,hl3,hl4,hk4⟩:=fin none W3 hk3;exact ⟨_,_,hr,.inl ⟨rfl,⟨hI _ _ _ hi3 (Calm.putObj _ xo hl3 rfl),hl4,hk4⟩,hKt (hKt (hKt hkpa hw2) hkp3) (hKb _ _ _ _ xo hl3 rfl)⟩⟩
      | ret=>
       obtain ⟨hk3,hi3⟩:=hp;obtain ⟨hr,hl3,hl4,hk4⟩:=fin (some .ret) W3 hk3;exact ⟨_,_,hr,.inr ⟨rfl,.ret,hIx _ _ _ hi3 (Calm.putObj _ xo hl3 rfl),hl4,hk4⟩⟩
      | exit id=>
       obtain ⟨hk3,hi3⟩:=hp;obtain ⟨hr,hl3,hl4,hk4⟩:=fin (some (.exit id)) W3 hk3;exact ⟨_,_,hr,.inr ⟨rfl,.exit id,hIx _ _ _ hi3 (Calm.putObj _ xo hl3 rfl),hl4,hk4⟩⟩
      | goto t=>
       obtain ⟨hk3,hi3⟩:=hp;obtain ⟨hr,hl3,hl4,hk4⟩:=fin (some (.goto t)) W3 hk3;exact ⟨_,_,hr,.inr ⟨rfl,.goto t,hIx _ _ _ hi3 (Calm.putObj _ xo hl3 rfl),hl4,hk4⟩⟩
      | panic ch=>exact hp.elim
      | outgrown=>exact hp.elim
     | ret=>exact hq.elim
     | exit id=>exact hq.elim
     | goto t=>exact hq.elim
     | panic ch=>exact hq.elim
     | outgrown=>exact hq.elim
   · -- behind the iterator
     rintro e W2 ⟨⟨v,rfl⟩,(⟨hi,hl,hk⟩ | ⟨k,_,c,hi,hl,hk⟩)⟩
     · exact ⟨none,_,by have:=run_endLoop (P:=P) hl (by rw [hrec];simp);rw [hrec] at this;exact this,hdone _ _ (Nat.le_refl _) (hI _ _ _ hi (Calm.putObj _ xo hl rfl)) ((World.putObj_heap_other xo).trans hk)⟩
     · exact ⟨some c,_,by have:=run_endLoop (P:=P) hl (by rw [hrec];simp);rw [hrec] at this;exact this,wpIn_wide.2 (hstop _ c _ (Nat.le_refl _) (hIx _ _ _ hi (Calm.putObj _ xo hl rfl)) ((World.putObj_heap_other xo).trans hk))⟩
theorem wp_range {P:Program} {g:Operand} {ps:Array Tmp} {assign body:Code} {Q:Exit→Act→World→Prop} {a:Act} {w:World}
    {gf:Nat} {lb:Array Value} (hg:a.eval g= .func (.func gf) #[] lb) (eg:∀args w,(callFunc gf args).run P w= .ok (.enter gf args) w)
    {xs:List (Array Value)} {Kp:World→World→Prop} {w0:World} (hseq:Iter P gf lb xs Kp w0) (hb0:Below w0.heap.size w0 w)
    (hKr:∀A:World,Kp A A) (hKt:∀ {A B C:World},Kp A B→Kp B C→Kp A C) (hKb:∀(W:World) (l:Nat) (o o':Obj),w.heap.size≤l→W.heap[l]? =some o→o.isCells=false→Kp W (W.putObj l o'))
    (hps:∀x ∈ xs,x.size=ps.size)
    (I:Nat→World→Prop) (Ix:Code→World→Prop) (hI:∀k W W',I k W→Calm w.heap.size W W'→I k W') (hIx:∀c W W',Ix c W→Calm w.heap.size W W'→Ix c W') (h0:I 0 w)
    (hround:∀(l k:Nat) (W:World),w.heap.size≤l→k<xs.length→I k W→
      assign.wpIn (inRd l) 0 P (Exit.then (BodyOk P l body Kp I Ix k W) (fun _ _ _=>False))
        {tmps:=(ps.zip (xs.getD k #[])).foldl (fun t (p,v)=>t.setIfInBounds p v) a.tmps,defers:=[]} W)
    (hdone:∀(D:Nat) (W:World),w.heap.size≤D→I xs.length W→W.heap[D]? =some (.deferred (some []))→Q .normal {a with defers:= {target:= .collected D,args:= #[]}::a.defers} W)
    (hstop:∀(D:Nat) (c:Code) (W:World),w.heap.size≤D→Ix c W→W.heap[D]? =some (.deferred (some []))→c.wp P Q {a with defers:= {target:= .collected D,args:= #[]}::a.defers} W):
    (Code.rangeFunc g ps assign body).wp P Q a w:=by
 refine wp_range_w hg eg hseq hb0 hKt hKb hps I Ix hI hIx h0 (fun l k W hl hk hi=> ?_) hdone hstop;refine wpIn_mono (hround l k W hl hk hi) ?_;intro e a1 W1 h;cases e with
 | normal=>
  obtain ⟨rfl,hb⟩:=h;exact ⟨KeepsOthers.refl _,hKr _,fun W2 hc=>hb W2 (hI _ _ _ hi hc)⟩
 | ret=>exact h.elim
 | exit id=>exact h.elim
 | goto t=>exact h.elim
 | panic ch=>exact h.elim
 | outgrown=>exact h.elim
end
section
open Go.RowKit Go.Shelf
attribute [local go_sem] Oper.semAt_some
theorem occCheck_ok (wa:Option Addr) (wc:Nat) (ws:List Int) (hu:U64s ws) (n:Nat) (hn:n≤65536) (hl:ws.length≤1000000000000) (w:World) (hw:IsRow .u64 w wa ws):
    Calls Tryd.prog 72 #[.slice wa ws.length wc,.int .i64 n] w fun e w'=>e= .returned (.int .i64 (if wMayB ws n=true then 0 else 8))∧w=w':=by
 by_cases c1:ws.length=(n+63)/64
 · have hi:=wMayB_iff hu c1;have e1:((ws.length:Int) != ((n:Int)+64-1)/64)=false:=by simp;omega
   by_cases c2:n%64=0
   · have e:wMayB ws n=true:=hi.2 (.inl c2);rw [if_pos e];have hr:(n:Int)%64=0:=xo;have hd:((n:Int)+64-1)/64=(ws.length:Int):=xo;generalize ws.length=m at *;clear hi e c1;go_enter Tryd.func72,Tryd.ntmps72
     go_wp2
     go_ret
     exact ⟨rfl,rfl⟩
   · obtain ⟨b,off,x,rfl,hx,hc,-⟩:=hw.get (i:=ws.length-1) xo;have hg:=hu.get (ws.length-1);rw [hx.out] at hi hg;obtain ⟨r,hr⟩:∃r,n%64=r:=⟨_,rfl⟩
     rw [hr] at hi c2;have hrI:(n:Int)%64=(r:Int):=xo;have hr64:r<64:=xo;have hr0:0<r:=xo;have hd:((n:Int)+64-1)/64=(ws.length:Int):=xo;have hm0:0<ws.length:=xo;obtain ⟨q,hq⟩:∃q,x/2^r=q:=⟨_,rfl⟩
     rw [hq] at hi;by_cases c3:q=0
     · have e:wMayB ws n=true:=hi.2 (.inr c3);rw [if_pos e];subst c3;generalize ws.length=m at *;obtain ⟨m',rfl⟩:∃m',m=m'+1:=⟨m-1,by omega⟩
       rw [Nat.add_sub_cancel] at hc;clear hi e c1 hu hw hx;go_enter Tryd.func72,Tryd.ntmps72
       go_wp2
       go_ret
       exact ⟨rfl,rfl⟩
     · have e:¬wMayB ws n=true:=fun h=>by rcases hi.1 h with h|h<;>omega
       rw [if_neg e];have hq2:(q != 0)=true:=by simpa using c3
       generalize ws.length=m at *;obtain ⟨m',rfl⟩:∃m',m=m'+1:=⟨m-1,by omega⟩
       rw [Nat.add_sub_cancel] at hc;clear hi e c1 hu hw hx;go_enter Tryd.func72,Tryd.ntmps72
       go_wp2
       go_ret
       exact ⟨rfl,rfl⟩
 · have e:¬wMayB ws n=true:=by simp [wMayB,c1]
   rw [if_neg e];have hd:((ws.length:Int) != ((n:Int)+64-1)/64)=true:=by simp;omega
   generalize ws.length=m at *;clear e;go_enter Tryd.func72,Tryd.ntmps72
   go_wp2
   go_ret
   exact ⟨rfl,rfl⟩
theorem asked_ok (wa:Option Addr) (wc:Nat) (ws:List Int) (hu:U64s ws) (n:Nat) (hn:n≤65536) (hl:ws.length≤1000000000000) (hmay:wMayB ws n=true) (w:World) (hw:IsRow .u64 w wa ws):
    Calls Tryd.prog 59 #[.slice wa ws.length wc,.int .i64 n,.bool true] w fun e w'=>e= .returned (.int .i64 0)∧w=w':=by
 have CK:=hid (fun w hw=>occCheck_ok wa wc ws hu n hn hl w hw);rw [if_pos hmay] at CK;have HW:=hid hw;generalize ws.length=m at *;clear hw hmay;go_enter Tryd.func59,Tryd.ntmps59
 go_wp2_with (go_at_call 72;refine (CK.out _ HW.out).mono ?_;rintro e w' ⟨rfl,rfl⟩)
 go_ret
 exact ⟨rfl,rfl⟩
theorem cut_ok (wa:Option Addr) (wc:Nat) (ws:List Int) (hu:U64s ws) (a b k:Nat) (hk:k<ws.length) (ha:a<64*k+64) (hb:64*k<b) (hbb:b≤65536) (w:World) (hw:IsRow .u64 w wa ws) (b1 b2 b3:Nat)
    (c1:w.cell? ⟨b1,0,none⟩=some (.slice wa ws.length wc)) (c2:w.cell? ⟨b2,0,none⟩=some (.int .i64 a)) (c3:w.cell? ⟨b3,0,none⟩=some (.int .i64 b)):
    Calls Tryd.prog 83 #[.int .i64 k,.pointer (some ⟨b1,0,none⟩),.pointer (some ⟨b2,0,none⟩),.pointer (some ⟨b3,0,none⟩)] w fun e w'=>e= .returned (.int .u64 (cutV ws a b k))∧w=w':=by
 have hg:=hu.get k;have hA:=cutA_bd hu a k;obtain ⟨bb,off,x,rfl,hx,hc,-⟩:=hw.get hk;have hV:cutV ws a b k=if b<64*k+64 then cutHi (cutA ws a k) (64*k+64-b) else cutA ws a k:=rfl
 have hAd:cutA ws a k=if 64*k<a then cutLo x (a-64*k) else x:=by unfold cutA;rw [hx.out]
 rw [hx.out] at hg;obtain ⟨y,hy⟩:∃y,cutA ws a k=y:=⟨_,rfl⟩
 obtain ⟨z,hz⟩:∃z,cutV ws a b k=z:=⟨_,rfl⟩
 rw [hy] at hA hV hAd;rw [hz] at hV ⊢;generalize ws.length=m at *;have HX:=hid hx;clear hx hw hu hy hz;by_cases q1:64*k<a
 · rw [if_pos q1] at hAd;obtain ⟨lo,hlo⟩:∃lo,a-64*k=lo:=⟨_,rfl⟩
   have hloI:(a:Int)-(k:Int)*64=(lo:Int):=xo;have hlo64:lo<64:=xo;have hlo0:0<lo:=xo;rw [hlo] at hAd;have hbd:=cutLo_bd hg.1 lo;rw [←hAd] at hbd;have hyw:IntKind.u64.wrap (x/2^lo*2^lo)=y:=by rw [hAd] at hA ⊢;unfold cutLo at hA ⊢;rw [IntKind.wrap_u64];omega
   by_cases q2:b<64*k+64
   · rw [if_pos q2] at hV;obtain ⟨hi,hhi⟩:∃hi,64*k+64-b=hi:=⟨_,rfl⟩
     have hhiI:((k:Int)+1)*64-(b:Int)=(hi:Int):=xo;have hhi64:hi<64:=xo;have hhi0:0<hi:=xo;rw [hhi] at hV;have hzw:IntKind.u64.wrap (y*2^hi)/2^hi=z:=by rw [hV,IntKind.wrap_u64];rfl
     clear hAd hV hbd hlo hhi;go_enter Tryd.func83,Tryd.ntmps83
     go_wp2
     go_ret
     exact ⟨by rw [←hzw];rfl,rfl⟩
   · rw [if_neg q2] at hV;have hhiI:((k:Int)+1)*64-(b:Int)≤0:=xo;clear hAd hbd hlo;subst hV;go_enter Tryd.func83,Tryd.ntmps83
     go_wp2
     go_ret
     exact ⟨rfl,rfl⟩
 · rw [if_neg q1] at hAd;subst hAd;have hloI:(a:Int)-(k:Int)*64≤0:=xo;by_cases q2:b<64*k+64
   · rw [if_pos q2] at hV;obtain ⟨hi,hhi⟩:∃hi,64*k+64-b=hi:=⟨_,rfl⟩
     have hhiI:((k:Int)+1)*64-(b:Int)=(hi:Int):=xo;have hhi64:hi<64:=xo;have hhi0:0<hi:=xo;rw [hhi] at hV;have hzw:IntKind.u64.wrap (y*2^hi)/2^hi=z:=by rw [hV,IntKind.wrap_u64];rfl
     clear hV hhi;go_enter Tryd.func83,Tryd.ntmps83
     go_wp2
     go_ret
     exact ⟨by rw [←hzw];rfl,rfl⟩
   · rw [if_neg q2] at hV;have hhiI:((k:Int)+1)*64-(b:Int)≤0:=xo;subst hV;go_enter Tryd.func83,Tryd.ntmps83
     go_wp2
     go_ret
     exact ⟨rfl,rfl⟩
def KpS (S:Nat→Prop) (W W':World):Prop:=∀k,S k→W'.heap[k]? =W.heap[k]?
theorem KpS.cell {S:Nat→Prop} {W W':World} (h:KpS S W W') {a:Addr} {v:Value} (ha:S a.block) (hc:W.cell? a=some v):W'.cell? a=some v:=by
 rw [World.cell?_of_block (w:=W) (h _ ha)];exact hc
theorem KpS.row {S:Nat→Prop} {W W':World} (h:KpS S W W') {k:IntKind} {a:Option Addr} {xs:List Int} (ha:∀x,a=some x→0<xs.length→S x.block) (hr:IsRow k W a xs):IsRow k W' a xs:=by
 intro i hi;obtain ⟨b,off,rfl,hlt,hc⟩:=hr i hi;have hb:S b:=ha ⟨b,off,none⟩ rfl xo;refine ⟨b,off,rfl,?_,fun j hj=>h.cell (a:=⟨b,off+j,none⟩) hb (hc j hj)⟩;exact World.block_lt_of_cell? _ _ (h.cell (a:=⟨b,off+i,none⟩) hb (hc i hi))
theorem parts1_iter (wa:Option Addr) (wc:Nat) (ws:List Int) (hu:U64s ws) (a b:Nat) (hab:a≤b) (hbb:b≤65536) (hl:b≤64*ws.length) (hl2:ws.length≤1000000000000) (S:Nat→Prop) (b1 b2 b3:Nat) (s1:S b1) (s2:S b2) (s3:S b3) (sw:∀x,wa=some x→0<ws.length→S x.block) (w:World) (hw:IsRow .u64 w wa ws)
    (c1:w.cell? ⟨b1,0,none⟩=some (.slice wa ws.length wc)) (c2:w.cell? ⟨b2,0,none⟩=some (.int .i64 a)) (c3:w.cell? ⟨b3,0,none⟩=some (.int .i64 b)):
    Iter Tryd.prog 82 #[.pointer (some ⟨b1,0,none⟩),.pointer (some ⟨b2,0,none⟩),.pointer (some ⟨b3,0,none⟩)] (partsL ws a b) (KpS S) w:=by
 intro l J Jx W hW hJ hJx hY h0;have d1:=(hW.cell (World.block_lt_of_cell? _ _ c1)).trans c1;have d2:=(hW.cell (World.block_lt_of_cell? _ _ c2)).trans c2;have d3:=(hW.cell (World.block_lt_of_cell? _ _ c3)).trans c3;have hw':=hw.below hW;have HY:=hid hY;have HW:=hid hw';have HC:=hid (fun k hk ha hb W hw c1 c2 c3=>cut_ok wa wc ws hu a b k hk ha hb hbb W hw b1 b2 b3 c1 c2 c3);have SW:=hid sw;have HL:=hid hl;obtain ⟨m,hm⟩:∃m,(b+63)/64-a/64=m:=⟨_,rfl⟩
 have HP:=hid (fun k (hk:k<m)=>partsL_get ws (a:=a) (b:=b) (k:=k) xo);have HPL:=hid ((partsL_length ws a b).trans hm);obtain ⟨q,hq⟩:∃q,a/64=q:=⟨_,rfl⟩
 have hqI:(a:Int)/64=(q:Int):=xo;rw [hq] at HP hm;have hqm:q+m≤2048:=xo;have HM:=hid (And.intro hm hq);obtain ⟨M,hML⟩:∃M,ws.length=M:=⟨_,rfl⟩
 rw [hML] at d1 HC HL hl2;clear hY hJ hJx c1 c2 c3 hw hw' sw hm hq hl hu hML;refine callsIn_of_wp Tryd.func82 rfl trivial ?_ rfl;simp only [Tryd.ntmps82,List.size_toArray,List.length_cons,List.length_nil,Nat.reduceAdd,Nat.reduceSub,Array.replicate_succ,Array.replicate_zero,List.push_toArray,List.append_toArray,List.nil_append,List.cons_append];gi_wp2
 gi_loopg [6] m (fun g iv wr=>∃k p:Nat,k+g=m∧Hid (p=q+k)∧p≤2048∧iv= .int .i64 (p:Int)∧J k wr∧wr.cell? ⟨b1,0,none⟩=some (.slice wa M wc)∧wr.cell? ⟨b2,0,none⟩=some (.int .i64 a)∧wr.cell? ⟨b3,0,none⟩=some (.int .i64 b)∧Hid (IsRow .u64 wr wa ws))
 case atStart=>exact ⟨0,q,by omega,hid rfl,by omega,rfl,h0,d1,d2,d3,HW⟩
 case round=>
  obtain ⟨k,p,hk,HP2,hp2,rfl,hJk,e1,e2,e3,HR⟩:=hrel;by_cases hlt:k<m
  · obtain ⟨fn,tmps,assign,body,hy,hR⟩:=HY.out k wr (by rw [HPL.out];exact hlt) hJk;rw [HP.out k hlt,←HP2.out] at hy;have hqb:64*p<b:=by have:=HM.out;have:=HP2.out;omega
    have hcut:=HC.out p (by have:=HL.out;omega) (by have:=HM.out;have:=HP2.out;omega) hqb wr HR.out e1 e2 e3;have HCU:=hid hcut;have hqI2:((64*p:Nat):Int)=(p:Int)*64:=xo;have hqI3:(p:Int)*64<(b:Int):=xo;obtain ⟨x,hx⟩:∃x,cutV ws a b p=x:=⟨_,rfl⟩
    rw [hx,hqI2] at hy;rw [hx] at HCU;have HK:=hid hk;clear hcut hx hJk hqI2 hk;gi_wp2_with fail
    refine ⟨trivial,rfl,(callsIn_wide.2 HCU.out).mono ?_⟩;rintro e w' ⟨rfl,rfl⟩;gi_wp2
    refine ⟨rfl,hR.mono ?_⟩;rintro e W3 (⟨rfl,hJ3,hk3⟩ | ⟨rfl,hJx3⟩)
    · have g1:=hk3.cell (a:=⟨b1,0,none⟩) s1 e1;have g2:=hk3.cell (a:=⟨b2,0,none⟩) s2 e2;have g3:=hk3.cell (a:=⟨b3,0,none⟩) s3 e3;have HR3:=hid (hk3.row SW.out HR.out);have HJ3:=hid hJ3;clear hk3 hJ3 e1 e2 e3 HCU;gi_wp2
      gi_roundg (gk-1)
      case measure=>have:=HK.out;omega
      case rel=>exact ⟨k+1,p+1,by have:=HK.out;omega,hid (by have:=HP2.out;omega),by have:=HM.out;have:=HP2.out;omega,by go_num,HJ3.out,g1,g2,g3,HR3⟩
    · have HJ3:=hid hJx3;clear hJx3;gi_wp2
      exact bodyPost_ret (results_none rfl _ _ _) rfl ⟨⟨_,rfl⟩,.inr ⟨k+1,by rw [HPL.out];omega,HJ3.out⟩⟩
  · have hkm:k=m:=xo;have hqb:b≤64*p:=by have:=HM.out;have:=HP2.out;omega
    have hqI3:(b:Int)≤(p:Int)*64:=xo;have HJ:=hid hJk;clear hJk;gi_wp2
    refine bodyPost_end (results_none rfl _ _ _) rfl ⟨⟨_,rfl⟩,.inl ?_⟩;rw [HPL.out,←hkm];exact HJ.out
theorem parts_ok (wa:Option Addr) (n wc:Nat) (a b:Int) (w:World):
    Calls Tryd.prog 60 #[.slice wa n wc,.int .i64 a,.int .i64 b] w fun e w'=>e= .returned (.func (.func 82) #[] #[.pointer (some ⟨w.heap.size,0,none⟩),.pointer (some ⟨w.heap.size+1,0,none⟩),.pointer (some ⟨w.heap.size+2,0,none⟩)])∧
      w'=((w.alloc (.cells #[.slice wa n wc] 24)).alloc (.cells #[.int .i64 a] 3)).alloc (.cells #[.int .i64 b] 3):=by
 go_enter Tryd.func60,Tryd.ntmps60
 go_wp2
 go_ret
 exact ⟨rfl,rfl⟩
end
end Go.Proofs.YtmnlagmmbfjbeaaDoor

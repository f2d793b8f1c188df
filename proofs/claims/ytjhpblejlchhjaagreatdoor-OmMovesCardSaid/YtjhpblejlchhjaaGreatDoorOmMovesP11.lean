/- Merged: TabFnd, OmPl, Same, TabSame, TabTwin14, LoadM, Bc18, OmLd, OmBase, OmCk, Share, Tz, NthPl, WndPl, PutPl, TakPl. -/
import Derived.Test.YtjhpblejlchhjaaGreatDoorOmMovesP10
import Derived.Test.YtjhpblejlchhjaaGreatDoorOmMovesP2
import Derived.Test.YtjhpblejlchhjaaGreatDoorOmMovesP1
import Derived.Lib.QuietBelow
import Derived.BigQuiet
import Derived.Test.YtjhpblejlchhjaaGreatDoorOmMovesP9
import Derived.Laws.Bits64b
import Derived.Lib.TrailingZeros
import Derived.Test.YtjhpblejlchhjaaGreatDoorOmMovesP5
namespace Go.Proofs.YtjhpblejlchhjaaGreatDoor
set_option maxRecDepth 100000
set_option maxHeartbeats 40000000
set_option linter.unusedVariables false
set_option linter.unusedSimpArgs false
section
open Go.RowKit Go.Shelf
def tfindV (gs ps:List Int) (n g:Int):Int:=if may gs ps=true∧isH gs ps n g=true then ps.getD n.toNat 0 else 0
def tfindE (gs ps:List Int) (n g:Int):Int:=if may gs ps=true then (if isH gs ps n g=true then 0 else 140) else 8
def FindR (w:World) (gs ps:List Int) (n g:Int) (e:Ending) (w':World):Prop:=e= .returned (.tuple #[.int .i64 (tfindV gs ps n g),.int .i64 (tfindE gs ps n g)])∧Below w.heap.size w w'
theorem Find_ok (ga aa:Option Addr) (gc ac:Nat) (gs ps:List Int) (n g:Int) (w:World) (hg:IsInts w ga gs) (hp:IsInts w aa ps) (hlg:gs.length≤1000000000) (hla:ps.length≤1000000000):
    Calls Tryz.prog 54 #[tabV ga gs.length gc aa ps.length ac,.agg #[.int .i64 n,.int .i64 g]] w (FindR w gs ps n g):=by
 have HB:=hid ((((Below.refl _ w).alloc (Nat.le_refl _) (.cells #[.slice ga gs.length gc,.slice aa ps.length ac] 31)).alloc xsi (.cells #[.int .i64 n,.int .i64 g] 35)));by_cases hm:may gs ps=true
 · by_cases hi:isH gs ps n g=true
   · have hA:=tasked_ok ga aa gc ac gs ps n g 0 _ (hg.below HB.out) (hp.below HB.out) hm (Int.le_refl _) hi;obtain ⟨f1,f2,f3,f4⟩:=isH_facts hi;have h1:=(may_len hm).1;have HA:=hid hA;have hv:tfindV gs ps n g=ps.getD n.toNat 0:=by simp [tfindV,hm,hi]
     have he:tfindE gs ps n g=0:=by simp [tfindE,hm,hi]
     have HV:=hid hv;have HE:=hid he;have H1:=hid h1;clear hA hm hi hv he hg hp f3 f4 h1;go_enter Tryz.func54,Tryz.ntmps54
     go_wp2_with fail
     refine HA.out.mono ?_;rintro e w3 ⟨B,v,u,rfl,hBz,hcells,hov,hou,hne,hb3⟩;have hz3:=hb3.size;rw [World.size_alloc,World.size_alloc] at hz3;have e2:w3.cell? ⟨w.heap.size+1,0,none⟩=some (.int .i64 n):=(hb3.cell (p:=⟨w.heap.size+1,0,none⟩) xsi).trans xcw;have c1:w3.cell? ⟨B,1,none⟩=some u:=by simp [World.cell?,hcells]
     obtain ⟨ua,uc,rfl,hiu,_⟩:=ints_of_owns hou;obtain ⟨b1,o1,y,rfl,hy,hcy,_⟩:=hiu.get (k:=n.toNat) (by have:=H1.out;omega);have hlen:n<(ps.length:Int):=by have:=H1.out;omega
     have HB3:=hid (HB.out.trans (hb3.mono (by simp;omega)));clear hcells hov hou hne hb3 hiu;go_wp2
     go_quiet (fail)
     go_wp2
     go_ret2
     exact ⟨by rw [HV.out,HE.out,hy.out];rfl,below_drewN HB3.out _⟩
   · have hi':isH gs ps n g=false:=by simpa using hi
     have hA:=tasked_not ga aa gc ac gs ps n g 0 _ (hg.below HB.out) (hp.below HB.out) hm (Int.le_refl _) hi';have HA:=hid hA;have HV:=hid (show tfindV gs ps n g=0 by simp [tfindV,hi]);have HE:=hid (show tfindE gs ps n g=140 by simp [tfindE,hm,hi]);clear hA hm hi hi' hg hp;go_enter Tryz.func54,Tryz.ntmps54
     go_wp2_with fail
     refine HA.out.mono ?_;rintro e w3 ⟨rfl,hb3⟩;go_wp2
     go_ret2
     exact ⟨by rw [HV.out,HE.out];rfl,HB.out.trans (hb3.mono (by simp;omega))⟩
 · have hm':may gs ps=false:=by simpa using hm
   have hA:=tasked_bad ga aa gc ac gs ps n g 0 _ (hg.below HB.out) (hp.below HB.out) hm' hlg hla;have HA:=hid hA;have HV:=hid (show tfindV gs ps n g=0 by simp [tfindV,hm]);have HE:=hid (show tfindE gs ps n g=8 by simp [tfindE,hm]);clear hA hm hm' hg hp;go_enter Tryz.func54,Tryz.ntmps54
   go_wp2_with fail
   refine HA.out.mono ?_;rintro e w3 ⟨rfl,hb3⟩;go_wp2
   go_ret2
   exact ⟨by rw [HV.out,HE.out];rfl,HB.out.trans (hb3.mono (by simp;omega))⟩
end
section
open Go.RowKit
theorem nodup_len {α : Type} [BEq α] [LawfulBEq α]:∀ {A B:List α},A.Nodup→(∀x,x ∈ A→x ∈ B)→A.length≤B.length
  | [],_,_,_=>Nat.zero_le _
  | a::A,B,hn,hs=>by
   have h1:a ∈ B:=hs a (List.mem_cons_self ..);rw [List.nodup_cons] at hn;have h2:=nodup_len (A:=A) (B:=B.erase a) hn.2 (fun x hx=>by
    have hne:x≠a:=fun e=>hn.1 (e ▸ hx)
    exact (List.mem_erase_of_ne hne).2 (hs x (List.mem_cons_of_mem _ hx)))
   have h3:=List.length_erase_of_mem h1;have h4:=List.length_pos_of_mem h1;simp only [List.length_cons];omega
theorem nodup_all {α : Type} [BEq α] [LawfulBEq α] {A B:List α} (hn:A.Nodup) (hs:∀x,x ∈ A→x ∈ B) (hl:A.length=B.length) {x: α} (hx:x ∈ B):x ∈ A:=by
 by_cases h:x ∈ A
 · exact h
 · have:=nodup_len (A:=x::A) (B:=B) (List.nodup_cons.2 ⟨h,hn⟩) (fun y hy=>by
     rcases List.mem_cons.1 hy with e|e
     · exact e ▸ hx
     · exact hs y e)
   simp only [List.length_cons] at this;omega
def lnkAt (s:SlC) (ps:List Int) (i:Nat):Bool:=decide (s.vs.getD i 0=0)&&(decide (0≤s.ks.getD i 0)&&(decide (s.ks.getD i 0<ps.length)&&decide (ps.getD (s.ks.getD i 0).toNat 0=(i:Int))))
theorem lnkAt_facts {s:SlC} {ps:List Int} {i:Nat} (h:lnkAt s ps i=true):s.vs.getD i 0=0∧0≤s.ks.getD i 0∧s.ks.getD i 0<ps.length∧ps.getD (s.ks.getD i 0).toNat 0=(i:Int):=by
 simpa only [lnkAt,Bool.and_eq_true,decide_eq_true_eq] using h
def lnkTo (s:SlC) (ps:List Int) (k:Nat):Bool:=(List.range k).all fun i=> !bitW s.ws i||lnkAt s ps i
theorem lnkTo_zero (s:SlC) (ps:List Int):lnkTo s ps 0=true:=rfl
theorem lnkTo_succ (s:SlC) (ps:List Int) (k:Nat):lnkTo s ps (k+1)=(lnkTo s ps k&&(!bitW s.ws k||lnkAt s ps k)):=by simp [lnkTo,List.range_succ]
theorem lnkTo_false {s:SlC} {ps:List Int} {k n:Nat} (hk:k<n) (hb:bitW s.ws k=true) (h:lnkAt s ps k=false):lnkTo s ps n=false:=by
 rw [lnkTo,List.all_eq_false];exact ⟨k,by simpa using hk,by simp [hb,h]⟩
theorem lnkTo_at {s:SlC} {ps:List Int} {n:Nat} (h:lnkTo s ps n=true) {k:Nat} (hk:k<n) (hb:bitW s.ws k=true):lnkAt s ps k=true:=by
 rw [lnkTo,List.all_eq_true] at h;have:=h k (by simpa using hk);simpa [hb] using this
def lnk (s:SlC) (gs ps:List Int):Bool:=decide (cntTo ps gs.length=cntW s.ws 0 s.ks.length)&&lnkTo s ps s.ks.length
def omE (c:Cfg) (s:SlC) (gs ps:List Int):Int:=if gapE c s=0 then (if may gs ps=true∧lnk s gs ps=true then 0 else 8) else gapE c s
theorem omE_zero {c:Cfg} {s:SlC} {gs ps:List Int} (h:omE c s gs ps=0):gapE c s=0∧may gs ps=true∧lnk s gs ps=true:=by
 unfold omE at h;split at h
 · split at h
   · exact ⟨by assumption,by assumption⟩
   · cases h
 · contradiction
def hdl (s:SlC) (gs:List Int) (a b:Nat):List (Int×Int):=(plsW s.ws a b).map fun i=>(s.ks.getD i 0,gs.getD (s.ks.getD i 0).toNat 0)
theorem hdl_length (s:SlC) (gs:List Int) (a b:Nat):(hdl s gs a b).length=cntW s.ws a b:=by rw [hdl,List.length_map,plsW_length]
def idxN (l:List (Int×Int)) (n g:Int):Option Nat:=l.findIdx? fun x=>x==(n,g)
def idxL (l:List (Int×Int)) (n g:Int):Int:=match idxN l n g with|some i=>i|none=> -1
theorem idxL_none {l:List (Int×Int)} {n g:Int} (hb:∀i,i<l.length→l.getD i (0,0)≠(n,g)):idxL l n g= -1:=by
 have:idxN l n g=none:=by
  unfold idxN;rw [List.findIdx?_eq_none_iff];intro x hx;obtain ⟨i,hi,rfl⟩:=List.getElem_of_mem hx;have:=hb i hi;rw [List.getD_eq_getElem?_getD,List.getElem?_eq_getElem hi] at this;simpa using this
 rw [idxL,this]
theorem idxL_cases (l:List (Int×Int)) (n g:Int):(idxL l n g= -1∧∀i,i<l.length→l.getD i (0,0)≠(n,g))∨∃k,idxL l n g=(k:Nat)∧k<l.length∧l.getD k (0,0)=(n,g):=by
 rcases h:idxN l n g with _|k
 · refine Or.inl ⟨by rw [idxL,h],fun i hi=> ?_⟩;rw [idxN,List.findIdx?_eq_none_iff] at h;have:=h _ (List.getElem_mem hi);rw [List.getD_eq_getElem?_getD,List.getElem?_eq_getElem hi];simpa using this
 · refine Or.inr ⟨k,by rw [idxL,h],?_⟩;rw [idxN,List.findIdx?_eq_some_iff_getElem] at h;obtain ⟨hk,e,-⟩:=h;refine ⟨hk,?_⟩;rw [List.getD_eq_getElem?_getD,List.getElem?_eq_getElem hk];simpa using e
theorem pls_pair (ws:List Int) (a b:Nat):(plsW ws a b).Pairwise (· < ·):=by
 unfold plsW;exact List.Pairwise.filter _ (List.pairwise_lt_range' (step:=1))
theorem pls_mem_iff {ws:List Int} {a b i:Nat}:i ∈ plsW ws a b↔(a≤i∧i<b)∧bitW ws i=true:=by
 rw [plsW,List.mem_filter,List.mem_range'_1];constructor
 · rintro ⟨h,hb⟩;exact ⟨by omega,hb⟩
 · rintro ⟨h,hb⟩;exact ⟨by omega,hb⟩
theorem hdl_at {s:SlC} {gs:List Int} {a b k:Nat} (h:k<(hdl s gs a b).length):
    ∃j,(plsW s.ws a b).getD k 0=j∧(a≤j∧j<b∧bitW s.ws j=true)∧(hdl s gs a b).getD k (0,0)=(s.ks.getD j 0,gs.getD (s.ks.getD j 0).toNat 0):=by
 have hk:k<(plsW s.ws a b).length:=by rw [hdl,List.length_map] at h;exact h
 have hm:(plsW s.ws a b).getD k 0 ∈ plsW s.ws a b:=by
  rw [List.getD_eq_getElem?_getD,List.getElem?_eq_getElem hk];exact List.getElem_mem hk
 have hm2:=pls_mem_iff.1 hm;refine ⟨_,rfl,⟨hm2.1.1,hm2.1.2,hm2.2⟩,?_⟩;have e:(plsW s.ws a b)[k]=(plsW s.ws a b).getD k 0:=by rw [List.getD_eq_getElem?_getD,List.getElem?_eq_getElem hk];rfl
 rw [hdl,List.getD_eq_getElem?_getD,List.getElem?_map,List.getElem?_eq_getElem hk,e];rfl
theorem cntTo_count (ps:List Int):∀n,((List.range n).filter fun k=>decide (0≤ps.getD k 0)).length=cntTo ps n
  | 0=>rfl
  | n+1=>by
   rw [List.range_succ,List.filter_append,List.length_append,cntTo_count ps n,cntTo];by_cases h:0≤ps.getD n 0
   · rw [if_pos h,List.filter_cons,if_pos (by simpa using h)];rfl
   · rw [if_neg h,List.filter_cons,if_neg (by simpa using h)];rfl
theorem lnk_slot {s:SlC} {gs ps:List Int} (hm:may gs ps=true) (h:lnk s gs ps=true) {n:Nat} (hn:n<gs.length) (h0:0≤ps.getD n 0):∃j,j ∈ plsW s.ws 0 s.ks.length∧s.ks.getD j 0=(n:Int):=by
 simp only [lnk,Bool.and_eq_true,decide_eq_true_eq] at h;obtain ⟨hc,hl⟩:=h;have hlen:=(may_len hm).1;have hA:((plsW s.ws 0 s.ks.length).map fun i=>(s.ks.getD i 0).toNat).Nodup:=by
  rw [List.Nodup,List.pairwise_map];have hp:=pls_pair s.ws 0 s.ks.length;rw [List.pairwise_iff_getElem] at hp ⊢;intro i j hi hj hij e;have h1:=hp i j hi hj hij;have m1:=pls_mem_iff.1 (List.getElem_mem hi);have m2:=pls_mem_iff.1 (List.getElem_mem hj);have f1:=(lnkAt_facts (lnkTo_at hl m1.1.2 m1.2)).2.2.2;have f2:=(lnkAt_facts (lnkTo_at hl m2.1.2 m2.2)).2.2.2;rw [e,f2] at f1;omega
 have hx:n ∈ (plsW s.ws 0 s.ks.length).map fun i=>(s.ks.getD i 0).toNat:=by
  refine nodup_all (B:=(List.range gs.length).filter fun k=>decide (0≤ps.getD k 0)) hA ?_ ?_ ?_
  · intro x hx;obtain ⟨i,hi,rfl⟩:=List.mem_map.1 hx;have m1:=pls_mem_iff.1 hi;have f1:=lnkAt_facts (lnkTo_at hl m1.1.2 m1.2);rw [List.mem_filter];exact ⟨List.mem_range.2 xo,by rw [decide_eq_true_eq,f1.2.2.2];omega⟩
  · rw [List.length_map,plsW_length,cntTo_count,hc]
  · rw [List.mem_filter];exact ⟨List.mem_range.2 hn,by simpa using h0⟩
 obtain ⟨j,hj,e⟩:=List.mem_map.1 hx;have m1:=pls_mem_iff.1 hj;have f1:=lnkAt_facts (lnkTo_at hl m1.1.2 m1.2);exact ⟨j,hj,by omega⟩
theorem idx_lab {s:SlC} {gs ps:List Int} (hm:may gs ps=true) (h:lnk s gs ps=true) (n g:Int):
    (isH gs ps n g=false∧idxL (hdl s gs 0 s.ks.length) n g= -1)∨∃k:Nat,isH gs ps n g=true∧idxL (hdl s gs 0 s.ks.length) n g=k∧k<(plsW s.ws 0 s.ks.length).length∧((plsW s.ws 0 s.ks.length).getD k 0:Int)=ps.getD n.toNat 0:=by
 have h':=h;simp only [lnk,Bool.and_eq_true,decide_eq_true_eq] at h';have hlen:=(may_len hm).1;rcases idxL_cases (hdl s gs 0 s.ks.length) n g with ⟨e,hn⟩ | ⟨k,e,hk,hg⟩
 · left;refine ⟨?_,e⟩;cases hi:isH gs ps n g with
   | false=>rfl
   | true=>
    exfalso
    obtain ⟨f1,f2,f3,f4⟩:=isH_facts hi;obtain ⟨j,hj,ej⟩:=lnk_slot hm h (n:=n.toNat) xo f3;obtain ⟨i,hi2,ei⟩:=List.getElem_of_mem hj;have hi3:i<(hdl s gs 0 s.ks.length).length:=by rw [hdl,List.length_map];exact hi2
    obtain ⟨j',e1,-,e2⟩:=hdl_at hi3;have:(plsW s.ws 0 s.ks.length).getD i 0=j:=by rw [List.getD_eq_getElem?_getD,List.getElem?_eq_getElem hi2,ei];rfl
    rw [this] at e1;subst e1;refine hn i hi3 ?_;rw [e2,ej];have:((n.toNat:Nat):Int)=n:=xo;rw [this,f4]
 · right;obtain ⟨j,e1,⟨-,b2,b3⟩,e2⟩:=hdl_at hk;rw [hg] at e2;injection e2 with q1 q2
   have f1:=lnkAt_facts (lnkTo_at h'.2 b2 b3);rw [←q1] at f1 q2;refine ⟨k,?_,e,by rw [hdl,List.length_map] at hk;exact hk,by rw [e1,f1.2.2.2]⟩;simp only [isH,Bool.and_eq_true,decide_eq_true_eq];exact ⟨⟨⟨f1.2.1,by omega⟩,by rw [f1.2.2.2];omega⟩,q2.symm⟩
def labE (c:Cfg) (s:SlC) (gs ps:List Int) (n g:Int):Int:=if omE c s gs ps=0 then (if isH gs ps n g=true then 0 else 140) else omE c s gs ps
def labV (c:Cfg) (s:SlC) (gs ps:List Int) (n g:Int):Int:=if omE c s gs ps=0∧isH gs ps n g=true then ps.getD n.toNat 0 else 0
def cmpE (c:Cfg) (s:SlC) (gs ps:List Int) (n g m h:Int):Int:=if labE c s gs ps n g=0 then labE c s gs ps m h else labE c s gs ps n g
def cmpI (x y:Int):Int:=if x<y then -1 else if y<x then 1 else 0
def cmpV (c:Cfg) (s:SlC) (gs ps:List Int) (n g m h:Int):Int:=if labE c s gs ps n g=0∧labE c s gs ps m h=0 then cmpI (labV c s gs ps n g) (labV c s gs ps m h) else 0
end
section
open Go.RowKit
end
section
open Go.RowKit Go.Shelf
end
section
open Go.RowKit Go.Shelf
end
section
open Go.RowKit Go.BigFrame
theorem exec_load {P:Program} {o:Oper} {a:Act} {w:World} (ty:TypeId) (x:Operand) (b:Nat) (vs:List Value) {d:TypeDesc} (ho:o.op= .load ty x) (hx:a.eval x= .pointer (some ⟨b,0,none⟩))
    (hu:P.underlying ty=some d) (hd:d.isRow=true) (hi:(P.info? ty).map (·.size)=some vs.length) (hc:∀j v,vs[j]? =some v→w.cell? ⟨b,j,none⟩=some v):
    (execOp a.eval o).run P w= .ok (.value (.agg vs.toArray)) w:=by
 have:=run_loadVar_many (P:=P) (w:=w) (b:=b) vs hu hd hi hc;unfold execOp;simp only [ho,hx,Instr.loadAt,Instr.sureAddr,Sem.run_bind,Sem.run_pure,Result.andThen_ok,this]
theorem wpl_load {P:Program} {w:World} {ops:Array Oper} {rest:List Oper} {o:Oper} {a:Act} {Q:Exit→Act→World→Prop} (ty:TypeId) (x:Operand) (b:Nat) (vs:List Value) {d:TypeDesc}
    (hw:Region.wanted o (yielded ops a.tmps)=true) (ho:o.op= .load ty x) (hx:a.eval x= .pointer (some ⟨b,0,none⟩))
    (hu:P.underlying ty=some d) (hd:d.isRow=true) (hi:(P.info? ty).map (·.size)=some vs.length) (hc:∀j v,vs[j]? =some v→w.cell? ⟨b,j,none⟩=some v)
    (h:wpList P ops Q rest (a.put o.dst (.agg vs.toArray)) w):wpList P ops Q (o::rest) a w:=by
 refine wpList_want hw fun K hK=> ?_
 have e:=exec_load (P:=P) (o:=o) (a:=a) (w:=w) ty x b vs ho hx hu hd hi hc;unfold Oper.wp;simp only [e];exact hK _ _ h
theorem quiet_load {P:Program} {C:World→Prop} {o:Oper} {a:Act} {K:Act→Prop} (ty:TypeId) (x:Operand) (b:Nat) (vs:List Value) {d:TypeDesc} (ho:o.op= .load ty x) (hx:a.eval x= .pointer (some ⟨b,0,none⟩))
    (hu:P.underlying ty=some d) (hd:d.isRow=true) (hi:(P.info? ty).map (·.size)=some vs.length) (hc:∀w,C w→∀j v,vs[j]? =some v→w.cell? ⟨b,j,none⟩=some v)
    (hk:K (a.put o.dst (.agg vs.toArray))):o.quiet P a C K:=
  ⟨_,fun w hw=>by
   unfold Oper.quietAt;rw [exec_load ty x b vs ho hx hu hd hi (hc w hw)];exact ⟨rfl,rfl⟩,hk⟩
end
section
open Go.RowKit
@[reducible] def CB18 (W:World) (b:Nat) (v0 v1 v2 v3 v4 v5 v6 v7 v8 v9 v10 v11 v12 v13 v14 v15 v16 v17:Value):Prop:=W.cell? ⟨b,0,none⟩=some v0∧W.cell? ⟨b,1,none⟩=some v1∧W.cell? ⟨b,2,none⟩=some v2∧W.cell? ⟨b,3,none⟩=some v3∧W.cell? ⟨b,4,none⟩=some v4∧W.cell? ⟨b,5,none⟩=some v5∧W.cell? ⟨b,6,none⟩=some v6∧W.cell? ⟨b,7,none⟩=some v7∧W.cell? ⟨b,8,none⟩=some v8∧W.cell? ⟨b,9,none⟩=some v9∧W.cell? ⟨b,10,none⟩=some v10∧W.cell? ⟨b,11,none⟩=some v11∧W.cell? ⟨b,12,none⟩=some v12∧W.cell? ⟨b,13,none⟩=some v13∧W.cell? ⟨b,14,none⟩=some v14∧W.cell? ⟨b,15,none⟩=some v15∧W.cell? ⟨b,16,none⟩=some v16∧W.cell? ⟨b,17,none⟩=some v17
@[reducible] def FB18 (W:World) (b:Nat):Prop:=W.frozen? ⟨b,0,none⟩=false∧W.frozen? ⟨b,1,none⟩=false∧W.frozen? ⟨b,2,none⟩=false∧W.frozen? ⟨b,3,none⟩=false∧W.frozen? ⟨b,4,none⟩=false∧W.frozen? ⟨b,5,none⟩=false∧W.frozen? ⟨b,6,none⟩=false∧W.frozen? ⟨b,7,none⟩=false∧W.frozen? ⟨b,8,none⟩=false∧W.frozen? ⟨b,9,none⟩=false∧W.frozen? ⟨b,10,none⟩=false∧W.frozen? ⟨b,11,none⟩=false∧W.frozen? ⟨b,12,none⟩=false∧W.frozen? ⟨b,13,none⟩=false∧W.frozen? ⟨b,14,none⟩=false∧W.frozen? ⟨b,15,none⟩=false∧W.frozen? ⟨b,16,none⟩=false∧W.frozen? ⟨b,17,none⟩=false
theorem bc18 {W W':World} {b:Nat} {v0 v1 v2 v3 v4 v5 v6 v7 v8 v9 v10 v11 v12 v13 v14 v15 v16 v17:Value} (hb:Below W.heap.size W W') (h:CB18 W b v0 v1 v2 v3 v4 v5 v6 v7 v8 v9 v10 v11 v12 v13 v14 v15 v16 v17):CB18 W' b v0 v1 v2 v3 v4 v5 v6 v7 v8 v9 v10 v11 v12 v13 v14 v15 v16 v17:=by
 obtain ⟨h0,h1,h2,h3,h4,h5,h6,h7,h8,h9,h10,h11,h12,h13,h14,h15,h16,h17⟩:=h;exact ⟨bc1 hb h0,bc1 hb h1,bc1 hb h2,bc1 hb h3,bc1 hb h4,bc1 hb h5,bc1 hb h6,bc1 hb h7,bc1 hb h8,bc1 hb h9,bc1 hb h10,bc1 hb h11,bc1 hb h12,bc1 hb h13,bc1 hb h14,bc1 hb h15,bc1 hb h16,bc1 hb h17⟩
theorem al18 {w:World} {b:Nat} {t:TypeId} {v0 v1 v2 v3 v4 v5 v6 v7 v8 v9 v10 v11 v12 v13 v14 v15 v16 v17:Value} (hk:b=w.heap.size):CB18 (w.alloc (.cells #[v0,v1,v2,v3,v4,v5,v6,v7,v8,v9,v10,v11,v12,v13,v14,v15,v16,v17] t)) b v0 v1 v2 v3 v4 v5 v6 v7 v8 v9 v10 v11 v12 v13 v14 v15 v16 v17:=by
 subst hk;refine ⟨?_,?_,?_,?_,?_,?_,?_,?_,?_,?_,?_,?_,?_,?_,?_,?_,?_,?_⟩<;>(rw [World.cell?_alloc_at _ _ _ _ rfl];rfl)
theorem au18 {w:World} {o:Obj} {b:Nat} {v0 v1 v2 v3 v4 v5 v6 v7 v8 v9 v10 v11 v12 v13 v14 v15 v16 v17:Value} (h:CB18 w b v0 v1 v2 v3 v4 v5 v6 v7 v8 v9 v10 v11 v12 v13 v14 v15 v16 v17):CB18 (w.alloc o) b v0 v1 v2 v3 v4 v5 v6 v7 v8 v9 v10 v11 v12 v13 v14 v15 v16 v17:=bc18 (br.alloc (Nat.le_refl _) _) h
theorem ec18 {X W:World} {b:Nat} {v0 v1 v2 v3 v4 v5 v6 v7 v8 v9 v10 v11 v12 v13 v14 v15 v16 v17:Value} (e:X=W) (h:CB18 X b v0 v1 v2 v3 v4 v5 v6 v7 v8 v9 v10 v11 v12 v13 v14 v15 v16 v17):CB18 W b v0 v1 v2 v3 v4 v5 v6 v7 v8 v9 v10 v11 v12 v13 v14 v15 v16 v17:=e ▸ h
end
section
open Go.RowKit
theorem list18 {W:World} {b:Nat} {v0 v1 v2 v3 v4 v5 v6 v7 v8 v9 v10 v11 v12 v13 v14 v15 v16 v17:Value} (h:CB18 W b v0 v1 v2 v3 v4 v5 v6 v7 v8 v9 v10 v11 v12 v13 v14 v15 v16 v17):∀j v,[v0,v1,v2,v3,v4,v5,v6,v7,v8,v9,v10,v11,v12,v13,v14,v15,v16,v17][j]? =some v→W.cell? ⟨b,j,none⟩=some v:=by
 obtain ⟨h0,h1,h2,h3,h4,h5,h6,h7,h8,h9,h10,h11,h12,h13,h14,h15,h16,h17⟩:=h;intro j v hj;match j,hj with
 | 0,hj=>cases hj;exact h0
 | 1,hj=>cases hj;exact h1
 | 2,hj=>cases hj;exact h2
 | 3,hj=>cases hj;exact h3
 | 4,hj=>cases hj;exact h4
 | 5,hj=>cases hj;exact h5
 | 6,hj=>cases hj;exact h6
 | 7,hj=>cases hj;exact h7
 | 8,hj=>cases hj;exact h8
 | 9,hj=>cases hj;exact h9
 | 10,hj=>cases hj;exact h10
 | 11,hj=>cases hj;exact h11
 | 12,hj=>cases hj;exact h12
 | 13,hj=>cases hj;exact h13
 | 14,hj=>cases hj;exact h14
 | 15,hj=>cases hj;exact h15
 | 16,hj=>cases hj;exact h16
 | 17,hj=>cases hj;exact h17
 | n+18,hj=>simp at hj
end
section
end
section
open Go.RowKit Go.Shelf Go.Sort
def omV (c:Cfg) (s:SlC) (wa ka va ca:Option Addr) (wc kc vc cc:Nat) (gs ps:List Int) (mv:Int) (ga pa:Option Addr) (gc pc:Nat):Value:= .agg #[.int .u8 c.tag,.int .i64 c.most,.int .i64 c.seg,.int .i64 c.least,.int .i64 c.den,.int .i64 c.ll,.int .i64 c.rl,.int .i64 c.rh,.int .i64 c.lh,.int .i64 s.seg,.slice wa s.ws.length wc,.slice ka s.ks.length kc,.slice va s.vs.length vc,.slice ca s.cs.length cc,.int .u64 s.laid,.slice ga gs.length gc,.slice pa ps.length pc,.int .u64 mv]
def grO (n:Nat) (s:SlC) (gs ps:List Int):Bool:=gr4 n s.ks.length s.vs.length s.ws.length s.cs.length||(decide (n<gs.length)||decide (n<ps.length))
theorem Great15_ok (c:Cfg) (s:SlC) (wa ka va ca:Option Addr) (wc kc vc cc:Nat) (gs ps:List Int) (mv:Int) (ga pa:Option Addr) (gc pc:Nat) (n:Nat) (w:World):
    Calls Tryz.prog 8 #[.agg #[.int .u8 c.tag,.int .i64 c.most,.int .i64 c.seg,.int .i64 c.least,.int .i64 c.den,.int .i64 c.ll,.int .i64 c.rl,.int .i64 c.rh,.int .i64 c.lh,.int .i64 s.seg,.slice wa s.ws.length wc,.slice ka s.ks.length kc,.slice va s.vs.length vc,.slice ca s.cs.length cc,.int .u64 s.laid,.slice ga gs.length gc,.slice pa ps.length pc,.int .u64 mv],.int .i64 n] w (AnsB w (.bool (grO n s gs ps))):=by
 have GR:=hid (fun W=>Great04_ok s.seg wa ka va ca wc kc vc cc s.ws.length s.ks.length s.vs.length s.cs.length s.laid n W);unfold grO;cases hg:gr4 n s.ks.length s.vs.length s.ws.length s.cs.length with
 | true=>
  rw [hg] at GR;go_enter Tryz.func8,Tryz.ntmps8
  go_wp2_with fail
  refine (GR.out _).mono ?_;rintro e w1 ⟨rfl,hb1⟩;have hz_w1:=hb1.size;try simp only [World.size_alloc,World.size_setCell] at hz_w1
  have hh:=bc18 hb1 (al18 (b:=w.heap.size) xsi);obtain ⟨c_t0,c_t1,c_t2,c_t3,c_t4,c_t5,c_t6,c_t7,c_t8,c_t9,c_t10,c_t11,c_t12,c_t13,c_t14,c_t15,c_t16,c_t17⟩:=hh;have z_t:=blt hb1 (alz (b:=w.heap.size) xsi);have hB1:Below w.heap.size w w1:=xbel;go_wp2
  go_ret
  exact ⟨rfl,hB1⟩
 | false=>
  rw [hg] at GR;rw [Bool.false_or];by_cases h1:n<gs.length
  · have d1:decide ((n:Int)<(gs.length:Int))=true:=by simpa using h1
    have d2:decide (n<gs.length)=true:=by simpa using h1
    rw [d2,Bool.true_or];go_enter Tryz.func8,Tryz.ntmps8
    go_wp2_with fail
    refine (GR.out _).mono ?_;rintro e w1 ⟨rfl,hb1⟩;have hz_w1:=hb1.size;try simp only [World.size_alloc,World.size_setCell] at hz_w1
    have hh:=bc18 hb1 (al18 (b:=w.heap.size) xsi);obtain ⟨c_t0,c_t1,c_t2,c_t3,c_t4,c_t5,c_t6,c_t7,c_t8,c_t9,c_t10,c_t11,c_t12,c_t13,c_t14,c_t15,c_t16,c_t17⟩:=hh;have z_t:=blt hb1 (alz (b:=w.heap.size) xsi);have hB1:Below w.heap.size w w1:=xbel;go_wp2
    go_ret
    exact ⟨rfl,hB1⟩
  · have d1:decide ((n:Int)<(gs.length:Int))=false:=by simpa using h1
    have d2:decide (n<gs.length)=false:=by simpa using h1
    rw [d2,Bool.false_or];obtain ⟨b,hb⟩:∃b,decide (n<ps.length)=b:=⟨_,rfl⟩
    have d3:decide ((n:Int)<(ps.length:Int))=b:=by rw [←hb];congr 1;simp
    rw [hb];go_enter Tryz.func8,Tryz.ntmps8
    go_wp2_with fail
    refine (GR.out _).mono ?_;rintro e w1 ⟨rfl,hb1⟩;have hz_w1:=hb1.size;try simp only [World.size_alloc,World.size_setCell] at hz_w1
    have hh:=bc18 hb1 (al18 (b:=w.heap.size) xsi);obtain ⟨c_t0,c_t1,c_t2,c_t3,c_t4,c_t5,c_t6,c_t7,c_t8,c_t9,c_t10,c_t11,c_t12,c_t13,c_t14,c_t15,c_t16,c_t17⟩:=hh;have z_t:=blt hb1 (alz (b:=w.heap.size) xsi);have hB1:Below w.heap.size w w1:=xbel;go_wp2
    go_ret
    exact ⟨rfl,hB1⟩
theorem pair_ok (s:SlC) (wa ka va ca:Option Addr) (wc kc vc cc:Nat) (i:Nat) (hi:i<s.ks.length) (hv:i<s.vs.length) (hw:i/64<s.ws.length) (hn:i≤65536) (hwl:s.ws.length≤65536) (w:World) (hin:SlIn w s ⟨wa,ka,va,ca,wc,kc,vc,cc⟩):
    Calls Tryz.prog 53 #[.agg #[.int .i64 s.seg,.slice wa s.ws.length wc,.slice ka s.ks.length kc,.slice va s.vs.length vc,.slice ca s.cs.length cc,.int .u64 s.laid],.int .i64 i] w (AnsB w (.tuple #[.agg #[.int .i64 (if bitW s.ws i=true then s.ks.getD i 0 else 0),.int .i64 (if bitW s.ws i=true then s.vs.getD i 0 else 0)],.int .i64 (if bitW s.ws i=true then 0 else 6)])):=by
 obtain ⟨bw,ow,x,rfl,hx,hcx,-⟩:=hin.w.get hw;obtain ⟨bk,ok,y,rfl,hy,hcy,-⟩:=hin.k.get hi;obtain ⟨bv,ov,z,rfl,hz,hcz,-⟩:=hin.v.get hv;have hg:=hin.u.get (i/64);rw [hx.out] at hg;have hand:=bitI_and hg.1 hg.2 (i%64);have hb:bitW s.ws i=bitI x (i%64):=by rw [bitW,hx.out]
 rw [hb,hy.out,hz.out];obtain ⟨q,hq⟩:∃q,i/64=q:=⟨_,rfl⟩
 obtain ⟨r,hr⟩:∃r,i%64=r:=⟨_,rfl⟩
 have hqI:(i:Int)/64=(q:Int):=xo;have hrI:(i:Int)%64=(r:Int):=xo;have hr64:r<64:=xo;rw [hr] at hand ⊢;rw [hq] at hcx hw;generalize s.ws.length=lw at *;generalize s.ks.length=n at *;generalize s.vs.length=m at *;generalize s.cs.length=k at *;clear hx hy hz hb hq hr hin;cases hbt:bitI x r with
 | true=>
  rw [hbt,if_pos rfl] at hand;simp only [if_true];clear hbt;go_enter Tryz.func53,Tryz.ntmps53
  go_upto_region 1 with (fail)
  generalize hw1:(w.alloc _).alloc _=w1;have hh:=ec6 hw1 (au6 (al6 (b:=w.heap.size) xsi));obtain ⟨c_t0,c_t1,c_t2,c_t3,c_t4,c_t5⟩:=hh;have z_t:=elt hw1 (auz (alz (b:=w.heap.size) xsi));have hh:=ec2 hw1 (al2 (b:=w.heap.size+1) xsi);obtain ⟨c_r0,c_r1⟩:=hh;have hh:=ef2 hw1 (alf2 (b:=w.heap.size+1) xsi);obtain ⟨f_r0,f_r1⟩:=hh;have z_r:=elt hw1 (alz (b:=w.heap.size+1) xsi);have hb1:Below w.heap.size w w1:=by rw [←hw1];exact (br.alloc (Nat.le_refl _) _).alloc xsi _
  have hcx1:=(hb1.cell (World.block_lt_of_cell? _ _ hcx)).trans hcx;have hcy1:=(hb1.cell (World.block_lt_of_cell? _ _ hcy)).trans hcy;have hcz1:=(hb1.cell (World.block_lt_of_cell? _ _ hcz)).trans hcz;have HB1:=hid hb1;clear hw1 hb1 hcx hcy hcz;go_upto_region 3 with (fail)
  go_still_tail 11,xk
  go_wp2
  have HC:Hid (∀j,j<2→∃u,w1.cell? ⟨w.heap.size+1,j,none⟩=some u):=hid fun j hj=>by
   match j,hj with
   | 0,_=>exact ⟨_,c_r0⟩
   | 1,_=>exact ⟨_,c_r1⟩
  exact bodyPost_ret (results_ct rfl rfl (run_loadVar_many _ Tryz.underlying91 rfl xk (setCs_all (W:=w1) (b:=w.heap.size+1) (l:=[.int .i64 y,.int .i64 z]) HC.out))) rfl ⟨rfl,(setCs_below (b:=w.heap.size+1) xo [.int .i64 y,.int .i64 z] _ 0 HB1.out).drew⟩
 | false=>
  rw [hbt,if_neg xdd] at hand;simp only [Bool.false_eq_true,if_false];clear hbt;go_enter Tryz.func53,Tryz.ntmps53
  go_upto_region 1 with (fail)
  generalize hw1:(w.alloc _).alloc _=w1;have hh:=ec6 hw1 (au6 (al6 (b:=w.heap.size) xsi));obtain ⟨c_t0,c_t1,c_t2,c_t3,c_t4,c_t5⟩:=hh;have z_t:=elt hw1 (auz (alz (b:=w.heap.size) xsi));have hh:=ec2 hw1 (al2 (b:=w.heap.size+1) xsi);obtain ⟨c_r0,c_r1⟩:=hh;have hh:=ef2 hw1 (alf2 (b:=w.heap.size+1) xsi);obtain ⟨f_r0,f_r1⟩:=hh;have z_r:=elt hw1 (alz (b:=w.heap.size+1) xsi);have hb1:Below w.heap.size w w1:=by rw [←hw1];exact (br.alloc (Nat.le_refl _) _).alloc xsi _
  have hcx1:=(hb1.cell (World.block_lt_of_cell? _ _ hcx)).trans hcx;have HB1:=hid hb1;clear hw1 hb1 hcx hcy hcz;go_wp2
  have HC:Hid (∀j,j<2→∃u,w1.cell? ⟨w.heap.size+1,j,none⟩=some u):=hid fun j hj=>by
   match j,hj with
   | 0,_=>exact ⟨_,c_r0⟩
   | 1,_=>exact ⟨_,c_r1⟩
  exact bodyPost_ret (results_ct rfl rfl (run_loadVar_many _ Tryz.underlying91 rfl xk (setCs_all (W:=w1) (b:=w.heap.size+1) (l:=[.int .i64 0,.int .i64 0]) HC.out))) rfl ⟨rfl,setCs_below (b:=w.heap.size+1) xo [.int .i64 0,.int .i64 0] _ 0 HB1.out⟩
end
section
open Go.RowKit
def upD (x P:Nat):Nat:=(x+P-1)/P
theorem upD_le {x P k:Nat} (hP:0<P):upD x P≤k↔x≤k*P:=by
 unfold upD;constructor
 · intro h;have h1:=Nat.div_add_mod (x+P-1) P;have h2:=Nat.mod_lt (x+P-1) hP;have h3:P*((x+P-1)/P)≤P*k:=Nat.mul_le_mul_left _ h;rw [Nat.mul_comm k];omega
 · intro h;apply Nat.le_of_lt_succ;rw [Nat.div_lt_iff_lt_mul hP,Nat.succ_mul];omega
theorem upD_bd (x:Nat) {P:Nat} (hP:0<P):x≤upD x P*P∧upD x P*P<x+P:=by
 constructor
 · exact (upD_le hP).1 (Nat.le_refl _)
 · unfold upD;have h1:=Nat.div_mul_le_self (x+P-1) P;omega
theorem pl_in {n lo w P q k:Nat} (hn:0<n) (hw:0<w):(lo+q*w≤plF n lo (lo+P*w) k∧plF n lo (lo+P*w) k<lo+(q+1)*w)↔(q*n≤k*P∧k*P<(q+1)*n):=by
 unfold plF;rw [Nat.add_sub_cancel_left];have e1:(q*w≤k*(P*w)/n)↔q*n≤k*P:=by
  rw [Nat.le_div_iff_mul_le hn];constructor
  · intro h;refine Nat.le_of_mul_le_mul_right (c:=w) ?_ hw;rw [Nat.mul_right_comm,Nat.mul_assoc k];exact h
  · intro h;have:=Nat.mul_le_mul_right w h;rw [Nat.mul_right_comm,Nat.mul_assoc k] at this;exact this
 have e2:(k*(P*w)/n<(q+1)*w)↔k*P<(q+1)*n:=by
  rw [Nat.div_lt_iff_lt_mul hn];constructor
  · intro h;refine Nat.lt_of_mul_lt_mul_right (a:=w) ?_;rw [Nat.mul_assoc k,Nat.mul_right_comm (q+1)];exact h
  · intro h;have:=(Nat.mul_lt_mul_right hw).2 h;rw [Nat.mul_assoc k,Nat.mul_right_comm (q+1)] at this;exact this
 omega
theorem countP_between (a b:Nat):∀n,a≤b→b≤n→(List.range n).countP (fun k=>decide (a≤k)&&decide (k<b))=b-a:=by
 intro n hab hbn;induction n with
 | zero=>simp;omega
 | succ n ih =>
  rw [List.range_succ,List.countP_append,List.countP_singleton];by_cases h:b≤n
  · rw [ih h];have:¬n<b:=xo;simp [this]
  · obtain rfl:b=n+1:=xo;by_cases ha:a=n+1
    · subst ha;have e:(List.range n).countP (fun k=>decide (n+1≤k)&&decide (k<n+1))=0:=by
       rw [List.countP_eq_zero];intro k hk;have:=List.mem_range.1 hk;simp only [Bool.and_eq_true,decide_eq_true_eq];omega
      rw [e];simp
    · have e :(List.range n).countP (fun k=>decide (a≤k)&&decide (k<n+1))=n-a:=by
        rcases Nat.eq_or_lt_of_le (show a≤n by omega) with q|q
        · subst q;rw [List.countP_eq_zero.2]
          · omega
          · intro k hk;have:=List.mem_range.1 hk;simp;omega
        · clear ih;have:(List.range n).countP (fun k=>decide (a≤k)&&decide (k<n+1))=(List.range n).countP (fun k=>decide (a≤k)):=by
           apply List.countP_congr;intro k hk;have:=List.mem_range.1 hk;simp;omega
          rw [this];clear this hab hbn h ha;induction n with
          | zero=>omega
          | succ m ih=>
           rw [List.range_succ,List.countP_append,List.countP_singleton];rcases Nat.eq_or_lt_of_le (show a≤m by omega) with q2|q2
           · subst q2;have:(List.range a).countP (fun k=>decide (a≤k))=0:=by
              rw [List.countP_eq_zero];intro k hk;have:=List.mem_range.1 hk;simp;omega
             rw [this];simp
           · rw [ih q2];have:a≤m:=xo;simp [this];omega
      rw [e];have:a≤n:=xo;simp [this];omega
theorem share (n lo w P q:Nat) (hw:0<w) (hP:0<P) (hq:q<P):∃c,(List.range n).countP (fun k=>decide (lo+q*w≤plF n lo (lo+P*w) k)&&decide (plF n lo (lo+P*w) k<lo+(q+1)*w))=c∧c*P<n+P∧n<(c+1)*P:=by
 rcases Nat.eq_zero_or_pos n with h0|h0
 · subst h0;exact ⟨0,rfl,by omega,by omega⟩
 refine ⟨upD ((q+1)*n) P-upD (q*n) P,?_,?_,?_⟩
 · rw [←countP_between (upD (q*n) P) (upD ((q+1)*n) P) n]
   · apply List.countP_congr;intro k _;have h:=pl_in (lo:=lo) (P:=P) (q:=q) (k:=k) h0 hw;have h1:=upD_le (x:=q*n) (k:=k) hP;have h2:=upD_le (x:=(q+1)*n) (k:=k) hP;simp only [Bool.and_eq_true,decide_eq_true_eq];omega
   · rw [upD_le hP];have:=(upD_bd ((q+1)*n) hP).1;rw [Nat.succ_mul] at this ⊢;omega
   · rw [upD_le hP];rw [Nat.mul_comm n];exact Nat.mul_le_mul_right _ xo
 · have a1:=upD_bd (q*n) hP;have a2:=upD_bd ((q+1)*n) hP;rw [Nat.sub_mul];rw [Nat.succ_mul] at a2 ⊢;omega
 · have a1:=upD_bd (q*n) hP;have a2:=upD_bd ((q+1)*n) hP;rw [Nat.succ_mul,Nat.sub_mul];rw [Nat.succ_mul] at a2 ⊢;omega
theorem cntW_add (ws:List Int) {a b d:Nat} (h1:a≤b) (h2:b≤d):cntW ws a d=cntW ws a b+cntW ws b d:=by
 unfold cntW;rw [←List.countP_append];congr 1
 have e:List.range' a (b-a)++List.range' b (d-b)=List.range' a (d-a):=by
  have:=List.range'_append (s:=a) (m:=b-a) (n:=d-b) (step:=1);rw [show a+1*(b-a)=b by omega,show b-a+(d-b)=d-a by omega] at this;exact this
 rw [e]
theorem cntW_congr {ws ws':List Int} {a b:Nat} (h:∀i,a≤i→i<b→bitW ws i=bitW ws' i):cntW ws a b=cntW ws' a b:=by
 unfold cntW;apply List.countP_congr;intro i hi;have:=List.mem_range'_1.1 hi;rw [h i this.1 xo]
theorem cntW_zero {ws:List Int} {a b:Nat} (h:∀i,a≤i→i<b→bitW ws i=false):cntW ws a b=0:=by
 unfold cntW;rw [List.countP_eq_zero];intro i hi;have:=List.mem_range'_1.1 hi;rw [h i this.1 xo];decide
theorem sumC_cnt {c:SlC} {S lw n lc:Nat} (h:SlGd c S lw n lc) (a:Nat):∀d,a+d≤lc→sumC c.cs a (a+d)=(cntW c.ws (a*S) ((a+d)*S):Int)
  | 0,_=>by rw [Nat.add_zero,sumC_nil,cntW_none (Nat.le_refl _)];rfl
  | d+1,hd=>by
   have ih:=sumC_cnt h a d xo;have e:=cntW_add c.ws (a:=a*S) (b:=(a+d)*S) (d:=(a+d+1)*S) (Nat.mul_le_mul_right _ xo) (Nat.mul_le_mul_right _ xo);rw [←Nat.add_assoc,sumC_succ c.cs xo,ih,h.cnt (a+d) xo,e];push_cast
   rfl
theorem sumC_cnt2 {c:SlC} {S lw n lc:Nat} (h:SlGd c S lw n lc) {a b:Nat} (hab:a≤b) (hb:b≤lc):sumC c.cs a b=(cntW c.ws (a*S) (b*S):Int):=by
 have:=sumC_cnt h a (b-a) xo;rwa [show a+(b-a)=b by omega] at this
theorem cnt_tks {c:SlC} {S lw n lc lo hi:Nat} (h:SlGd c S lw n lc) (hlo:lo≤hi) (hh:hi≤n) (x y:Nat):(y≤lo∨hi≤x→cntW (tks c lo (hi-lo)).ws x y=cntW c.ws x y)∧(lo≤x→y≤hi→cntW (tks c lo (hi-lo)).ws x y=0):=by
 constructor
 · intro hd;refine cntW_congr fun i h1 h2=> ?_
   rw [tks_bit h i (hi-lo) xo];have:(decide (lo≤i)&&decide (i<lo+(hi-lo)))=false:=by
    rw [Bool.and_eq_false_iff,decide_eq_false_iff_not,decide_eq_false_iff_not];omega
   rw [this];simp
 · intro h1 h2;refine cntW_zero fun i h3 h4=> ?_
   rw [tks_bit h i (hi-lo) xo];have:(decide (lo≤i)&&decide (i<lo+(hi-lo)))=true:=by
    rw [Bool.and_eq_true,decide_eq_true_eq,decide_eq_true_eq];omega
   rw [this];simp
theorem cnt_ly {c:SlC} {S lw n lc i:Nat} (h:SlGd c S lw n lc) (hi:i<n) (hb:bitW c.ws i=false) (key val:Int) (x y:Nat):cntW (lyC c i key val).ws x y=cntW c.ws x y+if x≤i∧i<y then 1 else 0:=by
 have hq:i/64<c.ws.length:=by rw [h.elw];have:=h.wn;omega
 have e:(lyC c i key val).ws=setL c.ws i:=by
  simp only [lyC,tkC];rw [clrL_same h.u hb]
 rw [e,cntW_set h.u hq hb]
theorem cnt_lys {c:SlC} {S lw n lc lo hi:Nat} (h:SlGd c S lw n lc) (hlo:lo≤hi) (hh:hi≤n) {L:List (Int×Int)} (hL:L.length≤hi-lo) (x y:Nat):∀k,k≤L.length→
    cntW (lys (tks c lo (hi-lo)) (plR L.length lo hi) L k).ws x y=cntW (tks c lo (hi-lo)).ws x y+(List.range k).countP (fun j=>decide (x≤plF L.length lo hi j)&&decide (plF L.length lo hi j<y))
  | 0,_=>by simp [lys]
  | k+1,hk=>by
   have hn:=h.n1;have g:=SlGd.lys (h.tks (lo:=lo) (hi-lo) xo) (fun k=>plR_ltn hL hh xo k) L k;rw [lys,cnt_ly g (plR_ltn hL hh xo k) (lys_free h hlo hh hL xo),cnt_lys h hlo hh hL x y k xo,List.range_succ,List.countP_append,List.countP_singleton,plR_get xo,Nat.add_assoc];congr 2
   by_cases q:x≤plF L.length lo hi k∧plF L.length lo hi k<y
   · rw [if_pos q,if_pos (by simp [q.1,q.2])]
   · rw [if_neg q,if_neg (by simpa using q)]
theorem cnt_sp {c:SlC} {S lw n lc lo hi:Nat} (h:SlGd c S lw n lc) (hlo:lo≤hi) (hh:hi≤n) {L:List (Int×Int)} (hL:L.length≤hi-lo) (x y:Nat):
    cntW (spC c lo hi L).ws x y=cntW (tks c lo (hi-lo)).ws x y+(List.range L.length).countP (fun j=>decide (x≤plF L.length lo hi j)&&decide (plF L.length lo hi j<y)):=
  cnt_lys h hlo hh hL x y L.length (Nat.le_refl _)
theorem cnt_out {c:SlC} {S lw n lc lo hi:Nat} (h:SlGd c S lw n lc) (hlo:lo≤hi) (hh:hi≤n) {L:List (Int×Int)} (hL:L.length≤hi-lo) {x y:Nat} (hd:y≤lo∨hi≤x):cntW (spC c lo hi L).ws x y=cntW c.ws x y:=by
 rw [cnt_sp h hlo hh hL,(cnt_tks h hlo hh x y).1 hd];have:(List.range L.length).countP (fun j=>decide (x≤plF L.length lo hi j)&&decide (plF L.length lo hi j<y))=0:=by
  rw [List.countP_eq_zero];intro j hj;have h1:=plF_lt (lo:=lo) (List.mem_range.1 hj) hL;have h2:lo≤plF L.length lo hi j:=Nat.le_add_right _ _;simp only [Bool.and_eq_true,decide_eq_true_eq];omega
 rw [this];rfl
theorem cnt_all {c:SlC} {S lw n lc lo hi:Nat} (h:SlGd c S lw n lc) (hlo:lo≤hi) (hh:hi≤n) {L:List (Int×Int)} (hL:L.length≤hi-lo):cntW (spC c lo hi L).ws lo hi=L.length:=by
 rw [cnt_sp h hlo hh hL,(cnt_tks h hlo hh lo hi).2 (Nat.le_refl _) (Nat.le_refl _),Nat.zero_add];have:(List.range L.length).countP (fun j=>decide (lo≤plF L.length lo hi j)&&decide (plF L.length lo hi j<hi))=(List.range L.length).length:=by
  rw [List.countP_eq_length];intro j hj;have h1:=plF_lt (lo:=lo) (List.mem_range.1 hj) hL;have h2:lo≤plF L.length lo hi j:=Nat.le_add_right _ _;simp only [Bool.and_eq_true,decide_eq_true_eq];omega
 rw [this,List.length_range]
theorem cnt_part {c:SlC} {S lw n lc lo w P q:Nat} (h:SlGd c S lw n lc) (hh:lo+P*w≤n) {L:List (Int×Int)} (hL:L.length≤P*w) (hw:0<w) (hP:0<P) (hq:q<P):∃x,cntW (spC c lo (lo+P*w) L).ws (lo+q*w) (lo+(q+1)*w)=x∧x*P<L.length+P∧L.length<(x+1)*P:=by
 have hq1:(q+1)*w≤P*w:=Nat.mul_le_mul_right _ hq;obtain ⟨x,e,h1,h2⟩:=share L.length lo w P q hw hP hq;refine ⟨x,?_,h1,h2⟩;rw [cnt_sp h (Nat.le_add_right _ _) hh xo,(cnt_tks h (Nat.le_add_right _ _) hh _ _).2 (Nat.le_add_right _ _) xo,Nat.zero_add];exact e
end
section
open Go.RowKit
def TabAt (w:World):Prop:=∀j,j<64→w.cell? ⟨0,j,none⟩=some (.int .u8 (Lib.deBruijn64tab.getD j 0))
theorem TabAt.below {w w':World} (h:TabAt w) (hb:Below w.heap.size w w'):TabAt w':=fun j hj=>(hb.cell (World.block_lt_of_cell? _ _ (h j hj))).trans (h j hj)
theorem tz64_core (x k idx:Nat) (w:World) (hx0:((x:Int)==0)=false)
    (key:IntKind.u64.wrap (bits BinOp.and IntKind.u64 (x:Int) (IntKind.u64.wrap (-(x:Int)))*285870213051353865)/288230376151711744=(idx:Int))
    (hi:idx<64) (hk:k<64) (hcell:w.cell? ⟨0,idx,none⟩=some (.int .u8 k)):
    Calls Tryz.prog 120 #[.int .u64 x] w fun e w'=>e= .returned (.int .i64 k)∧w=w':=by
 go_enter Tryz.func120,Tryz.ntmps120
 go_wp2_with (simp only [key])
 go_ret
 exact ⟨rfl,rfl⟩
theorem tz64_key (x a:Nat) (hx:x<18446744073709551616) (hx0:x≠0) (hlow:x &&& (18446744073709551616-x)=a):
    IntKind.u64.wrap (bits BinOp.and IntKind.u64 (x:Int) (IntKind.u64.wrap (-(x:Int)))*285870213051353865)/288230376151711744=((a*285870213051353865%18446744073709551616/288230376151711744:Nat):Int):=by
 have e1:IntKind.u64.wrap (-(x:Int))=((18446744073709551616-x:Nat):Int):=by rw [IntKind.wrap_u64];omega
 rw [e1,bits_and_u64_nat x _ hx xo,hlow,IntKind.wrap_u64];omega
def tzI (x:Int):Nat:=Lib.ctz 64 x.toNat
theorem tz_ok (x:Int) (h0:0≤x) (h1:x<18446744073709551616) (hx:x≠0) (w:World) (hT:TabAt w):
    Calls Tryz.prog 120 #[.int .u64 x] w fun e w'=>e= .returned (.int .i64 (tzI x))∧w=w':=by
 obtain ⟨n,rfl⟩:∃n:Nat,x=n:=⟨x.toNat,by omega⟩
 have hn0:n≠0:=xo;obtain ⟨hlow,hk⟩:=Lib.lowest_bit 64 n hn0 xo;obtain ⟨hi,htab⟩:=Lib.deBruijn64_at _ hk;have hcell:=hT _ hi;rw [htab] at hcell;rw [tzI,Int.toNat_natCast];exact tz64_core n _ _ w (by simp;omega) (tz64_key n _ xo hn0 hlow) hi hk hcell
theorem tzI_bit {x:Int} (h0:0≤x) (h1:x<18446744073709551616) (hx:x≠0):tzI x<64∧bitI x (tzI x)=true∧∀j,j<tzI x→bitI x j=false:=by
 obtain ⟨n,rfl⟩:∃n:Nat,x=n:=⟨x.toNat,by omega⟩
 have hn0:n≠0:=xo;obtain ⟨m,hm,hk⟩:=Lib.ctzFrom_spec 64 n xo xo;have e:tzI (n:Int)=Lib.ctzFrom 64 n:=by rw [tzI,Int.toNat_natCast,Lib.ctz,if_neg hn0]
 rw [e];generalize Lib.ctzFrom 64 n=c at *;refine ⟨hk,?_,fun j hj=> ?_⟩
 · rw [bitI_nat,hm,Nat.mul_comm,Nat.testBit_mul_two_pow];simp
 · rw [bitI_nat,hm,Nat.mul_comm,Nat.testBit_mul_two_pow];simp;omega
end
section
open Go.RowKit
def clrI (x:Int):Int:=bits .and .u64 x (x-1)
theorem nat_clr (t m i:Nat):((2^t*(2*m+1)) &&& (2^t*(2*m+1)-1)).testBit i=((2^t*(2*m+1)).testBit i&&decide (i≠t)):=by
 have hp:=Nat.two_pow_pos t;have e:2^t*(2*m+1)-1=2^t*(2*m)+(2^t-1):=by rw [Nat.mul_add];omega
 rw [Nat.testBit_and,e,Nat.testBit_two_pow_mul_add _ xo];have e2:=Nat.testBit_two_pow_mul_add (i:=t) (2*m+1) (b:=0) hp i;rw [Nat.add_zero] at e2;rw [e2];by_cases h:i<t
 · simp [h]
 · rw [if_neg h,if_neg h];by_cases h2:i=t
   · subst h2;simp
   · obtain ⟨j,rfl⟩:∃j,i=t+(j+1):=⟨i-t-1,by omega⟩
     rw [show t+(j+1)-t=j+1 by omega,Nat.testBit_add_one,Nat.testBit_add_one,show (2*m+1)/2=m by omega,show 2*m/2=m by omega];simp
theorem clrI_nat (n:Nat) (h0:n≠0) (h1:n<18446744073709551616):clrI (n:Int)=((n &&& (n-1):Nat):Int):=by
 show IntKind.u64.wrap ((BitVec.ofInt 64 (n:Int) &&& BitVec.ofInt 64 ((n:Int)-1)).toNat:Int)=_;rw [show (n:Int)-1=((n-1:Nat):Int) by omega,BitVec.toNat_and,ofInt_u64 n xo,ofInt_u64 (n-1) xo];have:n &&& (n-1)≤n:=Nat.and_le_left;exact IntWalk.u64_in _ xo
theorem clrI_bit {x:Int} (h0:0≤x) (h1:x<18446744073709551616) (hx:x≠0):(0≤clrI x∧clrI x<18446744073709551616)∧∀i,bitI (clrI x) i=(bitI x i&&decide (i≠tzI x)):=by
 obtain ⟨n,rfl⟩:∃n:Nat,x=n:=⟨x.toNat,by omega⟩
 have hn0:n≠0:=xo;obtain ⟨m,hm,hk⟩:=Lib.ctzFrom_spec 64 n xo xo;have e:tzI (n:Int)=Lib.ctzFrom 64 n:=by rw [tzI,Int.toNat_natCast,Lib.ctz,if_neg hn0]
 rw [e,clrI_nat n hn0 xo];have hle:n &&& (n-1)≤n:=Nat.and_le_left;refine ⟨⟨by omega,by omega⟩,fun i=> ?_⟩;rw [bitI_nat,bitI_nat];generalize Lib.ctzFrom 64 n=t at *;rw [hm];exact nat_clr t m i
def plI (x:Int):List Nat:=(List.range 64).filter (bitI x)
theorem plI_length (x:Int):(plI x).length=popI x:=(List.countP_eq_length_filter ..).symm
theorem plI_cons {x:Int} (h0:0≤x) (h1:x<18446744073709551616) (hx:x≠0):plI x=tzI x::plI (clrI x):=by
 obtain ⟨t1,t2,t3⟩:=tzI_bit h0 h1 hx;obtain ⟨-,hc⟩:=clrI_bit h0 h1 hx;have e:List.range 64=List.range' 0 (tzI x)++(tzI x::List.range' (tzI x+1) (63-tzI x)):=by
  have e1:=List.range'_append (s:=0) (m:=tzI x) (n:=64-tzI x) (step:=1);simp only [Nat.one_mul,Nat.zero_add] at e1;rw [show tzI x+(64-tzI x)=64 by omega] at e1;rw [List.range_eq_range',←e1,show 64-tzI x=(63-tzI x)+1 by omega,List.range'_succ]
 generalize tzI x=t at *;unfold plI;rw [e,List.filter_append,List.filter_append];have z1:(List.range' 0 t).filter (bitI x)=[]:=by
  rw [List.filter_eq_nil_iff];intro i hi;have:=List.mem_range'_1.1 hi;simp [t3 i xo]
 have z2:(List.range' 0 t).filter (bitI (clrI x))=[]:=by
  rw [List.filter_eq_nil_iff];intro i hi;have:=List.mem_range'_1.1 hi;simp [hc,t3 i xo]
 rw [z1,z2,List.nil_append,List.nil_append,List.filter_cons,List.filter_cons,if_pos t2,if_neg (by simp [hc])];congr 1
 apply List.filter_congr;intro i hi;have:=List.mem_range'_1.1 hi;rw [hc,decide_eq_true xo,Bool.and_true]
def clrN (x:Int):Nat→Int
  | 0=>x
  | k+1=>clrI (clrN x k)
theorem clrN_zero (x:Int):clrN x 0=x:=rfl
theorem clrN_succ (x:Int) (k:Nat):clrN x (k+1)=clrI (clrN x k):=rfl
theorem clrN_pl {x:Int} (h0:0≤x) (h1:x<18446744073709551616):∀k,k≤popI x→(0≤clrN x k∧clrN x k<18446744073709551616)∧plI (clrN x k)=(plI x).drop k
  | 0,_=>⟨⟨h0,h1⟩,rfl⟩
  | k+1,hk=>by
   obtain ⟨⟨b1,b2⟩,e⟩:=clrN_pl h0 h1 k xo;have hne:clrN x k≠0:=by
    intro h;have z:plI (clrN x k)=[]:=by rw [h,plI,List.filter_eq_nil_iff];intro i _;simp [bitI_zero]
    rw [z] at e;have:=congrArg List.length e;rw [List.length_drop,plI_length] at this;simp at this;omega
   obtain ⟨hb,-⟩:=clrI_bit b1 b2 hne;have hc:=plI_cons b1 b2 hne;refine ⟨hb,?_⟩;rw [clrN_succ,←List.tail_drop,←e,hc];rfl
theorem clrN_tz {x:Int} (h0:0≤x) (h1:x<18446744073709551616) {k:Nat} (hk:k<popI x):clrN x k≠0∧(0≤clrN x k∧clrN x k<18446744073709551616)∧tzI (clrN x k)=(plI x).getD k 0:=by
 obtain ⟨⟨b1,b2⟩,e⟩:=clrN_pl h0 h1 k xo;have hne:clrN x k≠0:=by
  intro h;have z:plI (clrN x k)=[]:=by rw [h,plI,List.filter_eq_nil_iff];intro i _;simp [bitI_zero]
  rw [z] at e;have:=congrArg List.length e;rw [List.length_drop,plI_length] at this;simp at this;omega
 refine ⟨hne,⟨b1,b2⟩,?_⟩;rw [plI_cons b1 b2 hne] at e;have:=congrArg (fun l=>l.getD 0 0) e;simp only [List.getD_cons_zero] at this;rw [this,List.getD_eq_getElem?_getD,List.getElem?_drop,Nat.add_zero,List.getD_eq_getElem?_getD]
theorem plsW_app (ws:List Int) {a b d:Nat} (h1:a≤b) (h2:b≤d):plsW ws a d=plsW ws a b++plsW ws b d:=by
 unfold plsW;rw [←List.filter_append];congr 1
 have e:=List.range'_append (s:=a) (m:=b-a) (n:=d-b) (step:=1);rw [Nat.one_mul,show a+(b-a)=b by omega,show b-a+(d-b)=d-a by omega] at e;exact e.symm
theorem pl_word {ws:List Int} (hu:U64s ws) {n m:Nat} (hm:64*m<n):(plI (cutV ws 0 n m)).map (64*m + ·)=plsW ws (64*m) (min (64*m+64) n):=by
 have e1:plI (cutV ws 0 n m)=(List.range (min (64*m+64) n-64*m)).filter fun j=>bitW ws (64*m+j):=by
  have e:List.range 64=List.range (min (64*m+64) n-64*m)++List.range' (min (64*m+64) n-64*m) (64-(min (64*m+64) n-64*m)):=by
   have e:=List.range'_append (s:=0) (m:=min (64*m+64) n-64*m) (n:=64-(min (64*m+64) n-64*m)) (step:=1);simp only [Nat.one_mul,Nat.zero_add] at e;rw [show min (64*m+64) n-64*m+(64-(min (64*m+64) n-64*m))=64 by omega] at e;rw [List.range_eq_range',List.range_eq_range',e]
  unfold plI;rw [e,List.filter_append];have z:(List.range' (min (64*m+64) n-64*m) (64-(min (64*m+64) n-64*m))).filter (bitI (cutV ws 0 n m))=[]:=by
   rw [List.filter_eq_nil_iff];intro i hi;have:=List.mem_range'_1.1 hi;rw [cutV_bit hu xo xo,inW,decide_eq_false (by omega:¬64*m+i<n)];simp
  rw [z,List.append_nil];apply List.filter_congr;intro i hi;have:=List.mem_range.1 hi;rw [cutV_bit hu xo xo,inW,decide_eq_true (by omega:64*m+i<n)];simp
 rw [e1];unfold plsW;rw [List.range'_eq_map_range,List.filter_map];rfl
def nthB (ws:List Int) (n m:Nat):Nat:=cntW ws 0 (min (64*m) n)
theorem nthB_zero (ws:List Int) (n:Nat):nthB ws n 0=0:=by simp [nthB,cntW]
theorem nthB_succ {ws:List Int} (hu:U64s ws) {n m:Nat} (hm:64*m<n):nthB ws n (m+1)=nthB ws n m+popI (cutV ws 0 n m):=by
 have e:=congrArg List.length (pl_word hu hm);rw [List.length_map,plI_length,plsW_length] at e;have e2:=congrArg List.length (plsW_app ws (a:=0) (b:=64*m) (d:=min (64*m+64) n) xo xo);rw [List.length_append,plsW_length,plsW_length,plsW_length] at e2;rw [nthB,nthB,show min (64*(m+1)) n=min (64*m+64) n by omega,show min (64*m) n=64*m by omega,e2,e]
theorem nth_hit {ws:List Int} (hu:U64s ws) {n m k:Nat} (hm:64*m<n) (hk:k<popI (cutV ws 0 n m)):nthB ws n m+k<(plsW ws 0 n).length∧64*m+(plI (cutV ws 0 n m)).getD k 0=(plsW ws 0 n).getD (nthB ws n m+k) 0:=by
 have e0:=pl_word hu hm;have hk2:k<(plI (cutV ws 0 n m)).length:=by rw [plI_length];exact hk
 have hk3:k<(plsW ws (64*m) (min (64*m+64) n)).length:=by rw [←e0,List.length_map];exact hk2
 have e1:=plsW_app ws (a:=0) (b:=min (64*m+64) n) (d:=n) xo xo;rw [plsW_app ws (a:=0) (b:=64*m) (d:=min (64*m+64) n) xo xo] at e1;have hB:nthB ws n m=(plsW ws 0 (64*m)).length:=by rw [plsW_length,nthB,show min (64*m) n=64*m by omega]
 refine ⟨?_,?_⟩
 · rw [e1,List.length_append,List.length_append,hB];omega
 · rw [e1,List.append_assoc,hB,List.getD_eq_getElem?_getD (l:=_++_),List.getElem?_append_right xo,show (plsW ws 0 (64*m)).length+k-(plsW ws 0 (64*m)).length=k by omega,List.getElem?_append_left hk3,←e0,List.getElem?_map,List.getD_eq_getElem?_getD,List.getElem?_eq_getElem hk2];rfl
theorem nth_miss {ws:List Int} {n m:Nat} (hm:n≤64*m):nthB ws n m=(plsW ws 0 n).length:=by rw [plsW_length,nthB,show min (64*m) n=n by omega]
end
section
open Go.RowKit
def topI (p:Nat→Bool):Nat→Int
  | 0=> -1
  | n+1=>if p n=true then n else topI p n
theorem topI_zero (p:Nat→Bool):topI p 0= -1:=rfl
theorem topI_yes {p:Nat→Bool} {n:Nat} (h:p n=true):topI p (n+1)=n:=by rw [topI,if_pos h]
theorem topI_no {p:Nat→Bool} {n:Nat} (h:p n=false):topI p (n+1)=topI p n:=by rw [topI,if_neg (by simp [h])]
theorem topI_cases (p:Nat→Bool):∀n,(topI p n= -1∧∀i,i<n→p i=false)∨∃k,k<n∧topI p n=(k:Nat)∧p k=true∧∀i,k<i→i<n→p i=false
  | 0=>Or.inl ⟨rfl,fun i hi=>by omega⟩
  | n +1=>by
   cases h:p n with
   | true=>exact Or.inr ⟨n,by omega,topI_yes h,h,fun i h1 h2=>by omega⟩
   | false=>
    rw [topI_no h];rcases topI_cases p n with ⟨e,hn⟩ | ⟨k,hk,e,hp,hn⟩
    · refine Or.inl ⟨e,fun i hi=> ?_⟩;rcases Nat.lt_or_ge i n with q|q
      · exact hn i q
      · rw [show i=n by omega];exact h
    · refine Or.inr ⟨k,by omega,e,hp,fun i h1 h2=> ?_⟩;rcases Nat.lt_or_ge i n with q|q
      · exact hn i h1 q
      · rw [show i=n by omega];exact h
theorem topI_bd (p:Nat→Bool) (n:Nat): -1≤topI p n∧topI p n<n∨(topI p n= -1∧n=0):=by
 rcases topI_cases p n with ⟨e,_⟩ | ⟨k,hk,e,_⟩<;>omega
def wnd (a h at_:Nat):Nat:=at_/2^(a+h)
theorem wnd_bd {a h H at_:Nat} (hh:h≤H) (hat:at_<2^a*2^H):(wnd a h at_+1)*2^h≤2^H∧wnd a h at_*2^(a+h)≤at_∧at_<(wnd a h at_+1)*2^(a+h)∧(wnd a h at_+1)*2^(a+h)≤2^a*2^H:=by
 have hp:=Nat.two_pow_pos (a+h);have e1:2^a*2^H=2^(H-h)*2^(a+h):=by rw [←Nat.pow_add,←Nat.pow_add];congr 1;omega
 have e2:2^H=2^(H-h)*2^h:=by rw [←Nat.pow_add];congr 1;omega
 have hw:wnd a h at_<2^(H-h):=by
  unfold wnd;rw [Nat.div_lt_iff_lt_mul hp,←e1];exact hat
 have h1:=Nat.div_mul_le_self at_ (2^(a+h));have h2:=Nat.lt_div_mul_add hp (a:=at_);refine ⟨?_,h1,?_,?_⟩
 · rw [e2];exact Nat.mul_le_mul_right _ hw
 · rw [Nat.succ_mul];exact h2
 · rw [e1];exact Nat.mul_le_mul_right _ hw
theorem wnd_seg (a h at_:Nat):wnd a h at_*2^(a+h)=wnd a h at_*2^h*2^a∧(wnd a h at_+1)*2^(a+h)=(wnd a h at_+1)*2^h*2^a∧wnd a h at_*2^(a+h)+2^(a+h)=(wnd a h at_+1)*2^(a+h):=by
 refine ⟨?_,?_,by rw [Nat.succ_mul]⟩
 · rw [Nat.pow_add,Nat.mul_comm (2^a),Nat.mul_assoc]
 · rw [Nat.pow_add,Nat.mul_comm (2^a),Nat.mul_assoc]
end
section
open Go.RowKit
def inH (s:SlC) (a h at_:Nat):Int:=sumC s.cs (wnd a h at_*2^h) ((wnd a h at_+1)*2^h)
def ovB (c:Cfg) (s:SlC) (a H at_ h:Nat):Bool:= !fulB c H h (inH s a h at_+1)
def unfB (c:Cfg) (s:SlC) (a H at_ h:Nat):Bool:= !sprB c s.ks.length H h (inH s a h at_)
theorem ful_room {c:Cfg} {size:Int} {a H h:Nat} (k:CapC c size a H) (hh:h≤H) {n:Int} (hf:fulB c H h n=true):n≤((2^(a+h):Nat):Int):=by
 obtain ⟨d0,d1,d2,d3,d4,d5,d6,d7,d8,d9,d10,d11,d12,d13,d14,d15,d16,d17⟩:=cfHead_num (cfMay_head k.may);have hw:wdC c h=((2^(a+h):Nat):Int):=by rw [wdC,k.seg,Nat.pow_add];push_cast;rfl
 have hw0:=Nat.two_pow_pos (a+h);unfold fulB at hf;split at hf
 · rw [decide_eq_true_eq,hw] at hf;have:=Int.mul_le_mul_of_nonneg_left (show c.rh≤c.den by omega) (show (0:Int)≤((2^(a+h):Nat):Int) by omega);exact Int.le_of_mul_le_mul_right (Int.le_trans hf this) xo
 · rename_i hH
   rw [decide_eq_true_eq,hw] at hf;have h1:c.lh*((H:Int)-h)≤c.den*((H:Int)-h):=Int.mul_le_mul_of_nonneg_right xo xo;have h2:c.rh*(h:Int)≤c.den*(h:Int):=Int.mul_le_mul_of_nonneg_right xo xo;have h3:c.den*((H:Int)-h)+c.den*(h:Int)=H*c.den:=by rw [←Int.mul_add,Int.mul_comm];congr 1;omega
   have h4:=Int.mul_le_mul_of_nonneg_left (show c.lh*((H:Int)-h)+c.rh*h≤H*c.den by omega) (show (0:Int)≤((2^(a+h):Nat):Int) by omega);rw [Int.mul_assoc] at hf;have h5:(0:Int)<(H:Int)*c.den:=Int.mul_pos xo xo;exact Int.le_of_mul_le_mul_right (Int.le_trans hf h4) h5
def manyC (s:SlC):Nat:=cntW s.ws 0 s.ks.length
def homeC (s:SlC) (k:Nat):Nat:=(plsW s.ws 0 s.ks.length).getD (k-1) 0
theorem homeC_lt {s:SlC} (h:1≤s.ks.length) (k:Nat):homeC s k<s.ks.length:=by
 unfold homeC;rcases Nat.lt_or_ge (k-1) (plsW s.ws 0 s.ks.length).length with q|q
 · exact (plsW_getD q).2
 · rw [List.getD_eq_getElem?_getD,List.getElem?_eq_none q];simpa using Nat.lt_of_lt_of_le Nat.zero_lt_one h
def insL (l:List (Int×Int)) (k:Nat) (p:Int×Int):List (Int×Int):=l.take k++p::l.drop k
theorem insL_length {l:List (Int×Int)} {k:Nat} (h:k≤l.length) (p:Int×Int):(insL l k p).length=l.length+1:=by
 simp [insL];omega
def putN (c:Cfg) (s:SlC) (a H:Nat) (k:Nat) (p:Int×Int):SlC:=
  if topI (ovB c s a H (homeC s k)) (H+1)=H then wideC (2^a) (capM c (manyC s+1)) s.laid (insL (prs s 0 s.ks.length) k p)
  else
   let h:=(topI (ovB c s a H (homeC s k)) (H+1)+1).toNat
   let lo:=wnd a h (homeC s k)*2^(a+h)
   let hi:=(wnd a h (homeC s k)+1)*2^(a+h)
   spC s lo hi (insL (prs s lo hi) (k-cntW s.ws 0 lo) p)
def sgL (c:Cfg):Nat:=c.seg.toNat.log2
def putE (c:Cfg) (s:SlC) (k:Int):Int:=if gapE c s=0 then (if k<0∨(manyC s:Int)<k then 2 else if (manyC s:Int)=c.most then 9 else 0) else gapE c s
def putC (c:Cfg) (s:SlC) (k:Int) (p:Int×Int):SlC:=if putE c s k=0 then putN c s (sgL c) (htC c s.ks.length) k.toNat p else nilC
theorem sum_many {c:Cfg} {s:SlC} {a H:Nat} (k:GapN c s a H) (hu:U64s s.ws):sumC s.cs 0 s.cs.length=manyC s:=by
 obtain ⟨g,-⟩:=gapN_gd k hu;rw [sumC_cnt2 g (Nat.zero_le _) (by rw [k.nc];exact Nat.le_refl _),manyC,Nat.zero_mul,k.nc,k.nk,Nat.mul_comm (2^H)]
theorem in_cnt {c:Cfg} {s:SlC} {a H h at_:Nat} (k:GapN c s a H) (hu:U64s s.ws) (hh:h≤H) (hat:at_<s.ks.length):inH s a h at_=(cntW s.ws (wnd a h at_*2^(a+h)) ((wnd a h at_+1)*2^(a+h)):Nat):=by
 obtain ⟨g,-⟩:=gapN_gd k hu;rw [k.nk] at hat;have b:=wnd_bd hh hat;have e:=wnd_seg a h at_;rw [inH,sumC_cnt2 g (Nat.mul_le_mul_right _ xo) b.1,e.1,e.2.1]
theorem pls_rank {ws:List Int} {n i:Nat} (h:i<(plsW ws 0 n).length):cntW ws 0 ((plsW ws 0 n).getD i 0)=i∧bitW ws ((plsW ws 0 n).getD i 0)=true∧(plsW ws 0 n).getD i 0<n:=by
 induction n with
 | zero=>simp [plsW_nil] at h
 | succ n ih=>
  rw [plsW_succ (Nat.zero_le _)] at h ⊢;rcases Nat.lt_or_ge i (plsW ws 0 n).length with q|q
  · have e:(plsW ws 0 n++if bitW ws n=true then [n] else []).getD i 0=(plsW ws 0 n).getD i 0:=by
      rw [List.getD_eq_getElem?_getD,List.getElem?_append_left q,←List.getD_eq_getElem?_getD]
    rw [e];obtain ⟨h1,h2,h3⟩:=ih q;exact ⟨h1,h2,by omega⟩
  · by_cases hb:bitW ws n=true
    · rw [if_pos hb,List.length_append,List.length_singleton] at h;have hi:i=(plsW ws 0 n).length:=xo;rw [if_pos hb];have e:(plsW ws 0 n++[n]).getD i 0=n:=by
       rw [List.getD_eq_getElem?_getD,hi,List.getElem?_append_right (Nat.le_refl _),Nat.sub_self];rfl
      rw [e];exact ⟨by rw [hi,plsW_length],hb,by omega⟩
    · rw [if_neg hb,List.append_nil] at h;omega
theorem home_in {s:SlC} {k lo hi:Nat} (hn:1≤s.ks.length) (hk:k≤manyC s) (hlo:lo≤homeC s k) (hhi:homeC s k<hi) (hh:hi≤s.ks.length):cntW s.ws 0 lo≤k∧k-cntW s.ws 0 lo≤(prs s lo hi).length:=by
 rw [prs_length];have hadd:=cntW_add s.ws (a:=0) (b:=lo) (d:=hi) xo xo;have hadd2:=cntW_add s.ws (a:=0) (b:=hi) (d:=s.ks.length) xo hh;have hm:manyC s=cntW s.ws 0 s.ks.length:=rfl;rcases Nat.eq_zero_or_pos k with rfl|hk0
 · -- ahead of all: there is nothing ahead of the first one
   have hz:cntW s.ws 0 lo=0:=by
    rcases Nat.eq_zero_or_pos (manyC s) with q|q
    · omega
    · have hr:=pls_rank (ws:=s.ws) (n:=s.ks.length) (i:=0) (by rw [plsW_length];omega);have e:homeC s 0=(plsW s.ws 0 s.ks.length).getD 0 0:=rfl;rw [←e] at hr;have:=cntW_mono (ws:=s.ws) (a:=0) hlo;omega
   omega
 · have hr:=pls_rank (ws:=s.ws) (n:=s.ks.length) (i:=k-1) (by rw [plsW_length];omega);have e:homeC s k=(plsW s.ws 0 s.ks.length).getD (k-1) 0:=rfl;rw [←e] at hr;have h1:=cntW_mono (ws:=s.ws) (a:=0) hlo;have h2:cntW s.ws 0 (homeC s k+1)=k:=by
    rw [cntW_succ (Nat.zero_le _),if_pos hr.2.1];omega
   have h3:=cntW_mono (ws:=s.ws) (a:=0) (show homeC s k+1≤hi by omega);omega
theorem put_room {c:Cfg} {s:SlC} {a H:Nat} (k:GapN c s a H) (hu:U64s s.ws) {at_:Nat} (hat:at_<s.ks.length) (hne:topI (ovB c s a H at_) (H+1)≠H):
    ∃h:Nat,topI (ovB c s a H at_) (H+1)+1=h∧h≤H∧(cntW s.ws (wnd a h at_*2^(a+h)) ((wnd a h at_+1)*2^(a+h)):Nat)+1≤2^(a+h):=by
 have hmain:∀h:Nat,h≤H→ovB c s a H at_ h=false→(cntW s.ws (wnd a h at_*2^(a+h)) ((wnd a h at_+1)*2^(a+h)):Nat)+1≤2^(a+h):=by
  intro h hh ho;unfold ovB at ho;rw [Bool.not_eq_false'] at ho;rw [in_cnt k hu hh hat] at ho;have:=ful_room k.cap hh ho;omega
 rcases topI_cases (ovB c s a H at_) (H+1) with ⟨e,hn⟩ | ⟨q,hq,e,hp,hn⟩
 · exact ⟨0,by omega,by omega,hmain 0 xo (hn 0 xo)⟩
 · have hqH:q≠H:=fun h=>hne (by rw [e,h])
   exact ⟨q+1,by omega,by omega,hmain (q+1) xo (hn (q+1) xo xo)⟩
end
section
open Go.RowKit
theorem nar_step {c:Cfg} {size:Int} {a H:Nat} (k:CapC c size a H) {m:Nat} (hf:sprB c size H H m=false):∃H',H=H'+1∧CapC c (size/2) a H'∧8*((m:Int)+1)<size:=by
 have hd:=cfMay_head k.may;obtain ⟨d0,d1,d2,d3,d4,d5,d6,d7,d8,d9,d10,d11,d12,d13,d14,d15,d16,d17⟩:=cfHead_num hd;obtain ⟨l1,l2,b,eb⟩:=powB_nat (cfHead_facts hd).2.2.2.2.2.1;obtain ⟨s1,s2,s3⟩:=powB_iff.1 k.cap;unfold sprB at hf;rw [Bool.or_eq_false_iff,decide_eq_false_iff_not,decide_eq_false_iff_not] at hf;obtain ⟨hne,hlt⟩:=hf;have hall:=k.all;have hseg:=k.seg;have e:2^a*2^H=2^(a+H):=(Nat.pow_add ..).symm;have hb1:2^b<2^(a+H):=by rw [←e];omega
 have hbH:b<a+H:=(Nat.pow_lt_pow_iff_right (a:=2) xo).1 hb1;have hab:a≤b:=(Nat.pow_le_pow_iff_right (a:=2) xo).1 xo;obtain ⟨H',rfl⟩:∃H',H=H'+1:=⟨H-1,by omega⟩
 have e2:2^a*2^(H'+1)=2*(2^a*2^H'):=by rw [Nat.pow_succ];simp only [Nat.mul_comm,Nat.mul_left_comm]
 have hhalf:size/2=((2^a*2^H':Nat):Int):=by rw [hall,e2];omega
 have hbig:=k.big;have h14:=k.h14;have hlb:2^b≤2^a*2^H':=by rw [←Nat.pow_add];exact Nat.pow_le_pow_right xo xo
 refine ⟨H',rfl,⟨k.may,powB_iff.2 ⟨by omega,by omega,?_⟩,k.seg,k.a2,k.a6,hhalf,by omega,?_,by omega⟩,?_⟩
 · rw [hhalf,←Nat.pow_add];exact pwB_two _
 · rw [htC,hseg,hhalf,Int.natCast_mul,Int.mul_ediv_cancel_left _ (by have:=Nat.two_pow_pos a;omega),Int.toNat_natCast,Nat.log2_two_pow]
 · have hw:wdC c (H'+1)=size:=by rw [wdC,hseg,hall];push_cast;rfl
   rw [hw] at hlt;have e3:c.ll*(((H'+1:Nat):Int)-((H'+1:Nat):Int))+c.rl*((H'+1:Nat):Int)=c.rl*((H'+1:Nat):Int):=by rw [Int.sub_self,Int.mul_zero,Int.zero_add]
   rw [e3] at hlt;have h1:((m:Int)+1)*((H'+1:Nat):Int)*c.den<size*(c.rl*((H'+1:Nat):Int)):=xo;have h2:((m:Int)+1)*((H'+1:Nat):Int)*c.den=(((m:Int)+1)*c.den)*((H'+1:Nat):Int):=by rw [Int.mul_assoc,Int.mul_comm _ c.den,←Int.mul_assoc]
   have h3:size*(c.rl*((H'+1:Nat):Int))=(size*c.rl)*((H'+1:Nat):Int):=by rw [Int.mul_assoc]
   rw [h2,h3] at h1;have h4:((m:Int)+1)*c.den<size*c.rl:=Int.lt_of_mul_lt_mul_right h1 xo;have h5:=Int.mul_le_mul_of_nonneg_left (show 8*c.rl≤c.den by omega) (show (0:Int)≤(m:Int)+1 by omega);have h6:((m:Int)+1)*(8*c.rl)=(8*((m:Int)+1))*c.rl:=by rw [←Int.mul_assoc,Int.mul_comm _ 8]
   rw [h6] at h5;exact Int.lt_of_mul_lt_mul_right (Int.lt_of_le_of_lt h5 h4) xo
def narF (c:Cfg) (m:Int):Nat→Int→Int
  | 0,size=>size
  | f+1,size=>if sprB c size (htC c size) (htC c size) m=true then size else narF c m f (size/2)
theorem nar_ok {c:Cfg} {m:Nat}:∀(f:Nat) (size:Int) (a H:Nat),CapC c size a H→H<f→(m:Int)≤size→∃H',H'≤H∧CapC c (narF c m f size) a H'∧(m:Int)≤narF c m f size∧sprB c (narF c m f size) H' H' m=true
  | 0,_,_,_,_,h,_=>by omega
  | f+1,size,a,H,k,h,hm=>by
   rw [narF,k.hgt];cases hs:sprB c size H H m with
   | true=>rw [if_pos rfl];exact ⟨H,Nat.le_refl _,k,hm,hs⟩
   | false=>
    rw [if_neg xdd];obtain ⟨H',rfl,k',h8⟩:=nar_step k hs;obtain ⟨H2,q1,q2,q3,q4⟩:=nar_ok (m:=m) f (size/2) a H' k' xo xo;exact ⟨H2,by omega,q2,q3,q4⟩
def takN (c:Cfg) (s:SlC) (a H:Nat) (k:Nat):SlC:=
  let at_:=(plsW s.ws 0 s.ks.length).getD k 0
  let z:=tkC s at_
  let t:=topI (unfB c z a H at_) (H+1)
  if t= -1 then z
  else if t=H then wideC (2^a) ((narF c (manyC z) 20 z.ks.length).toNat/2^a) z.laid (prs z 0 z.ks.length)
  else spC z (wnd a (t+1).toNat at_*2^(a+(t+1).toNat)) ((wnd a (t+1).toNat at_+1)*2^(a+(t+1).toNat)) (prs z (wnd a (t+1).toNat at_*2^(a+(t+1).toNat)) ((wnd a (t+1).toNat at_+1)*2^(a+(t+1).toNat)))
def takE (c:Cfg) (s:SlC) (k:Int):Int:=if gapE c s=0 then (if k<0∨(manyC s:Int)≤k then 2 else 0) else gapE c s
def takC (c:Cfg) (s:SlC) (k:Int):SlC:=if takE c s k=0 then takN c s (sgL c) (htC c s.ks.length) k.toNat else nilC
end
end Go.Proofs.YtjhpblejlchhjaaGreatDoor

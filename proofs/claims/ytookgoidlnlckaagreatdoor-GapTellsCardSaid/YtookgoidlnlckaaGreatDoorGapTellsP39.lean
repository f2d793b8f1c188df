/- Merged: Open, OpenIx, OpenSl, OpenCf, OpenSlc, OpenPr, DownPlain, DownMay, IdxLaw, Split, Find. -/
import Derived.Test.YtookgoidlnlckaaGreatDoorGapTellsP1
import Derived.ProofKit
import Derived.OpenShut
import Derived.ShutString
import Derived.ChangeOld
import Derived.Below
import Derived.Lib.SmallJoins
import Derived.Test.YtookgoidlnlckaaGreatDoorGapTellsP12
import Derived.Test.YtookgoidlnlckaaGreatDoorGapTellsP2
import Derived.Test.YtookgoidlnlckaaGreatDoorGapTellsP3
import Derived.Test.YtookgoidlnlckaaGreatDoorGapTellsP9
import Derived.Deep.SlicePairs
import Derived.Test.YtookgoidlnlckaaGreatDoorGapTellsP20
namespace Go.Proofs.YtookgoidlnlckaaGreatDoor
set_option maxRecDepth 100000
set_option maxHeartbeats 40000000
set_option linter.unusedVariables false
set_option linter.unusedSimpArgs false
section
open Go.ChangeShapes Go.WideShapes Go.ChangeAt Go.RowKit Go.Joins
end
section
open Go.ChangeShapes Go.WideShapes Go.ChangeAt Go.RowKit Go.Joins
theorem open_rowK {H:Type} {enc:TypeId×Value→H} {w:World} {fuel:Nat} {base:Nat} {spare:Nat→Bool} {held:Bool} {t e:TypeId} {k:IntKind} {cs:List Value} {x:DataW H×List MemPlace}
    (ht:Tryz.prog.underlying t=some (.slice e)) (he:Tryz.prog.underlying e=some (.int k)) (hc:Tryz.prog.cellsOf e=1) (h:DataW.trod enc Tryz.prog w base spare held fuel t cs=some x):
    ∃(ao:Option Addr) (xs:List Int) (cap:Nat),cs=[.slice ao xs.length cap]∧IsRow k w ao xs∧(ao=none→cap=0)∧xs.length≤maxLen∧(∀n ∈ xs,(Lit.int k n).wf=true):=by
 rcases open_ints ht he hc h with ⟨rfl,rfl⟩ | ⟨a,len,cap,zs,rfl,hb,hl,hm,hz,rfl,hc,hw⟩
 · exact ⟨none,[],0,rfl,fun i hi=>by simp at hi,fun _=>rfl,by simp,by simp⟩
 · have hlen:len≤zs.length:=by rw [hz];split<;>omega
   refine ⟨some a,zs.take len,cap,by simp [hlen],?_,fun h=>(by cases h),by simp;omega,fun n hn=>hw n (List.mem_of_mem_take hn)⟩;intro i hi;have hi':i<len:=by simp at hi;omega
   obtain ⟨b,off,sp⟩:=a;have h0:=hc 0 xo;obtain rfl:sp=none:=by simpa [Addr.add] using World.cell?_spot h0
   refine ⟨b,off,rfl,?_,fun j hj=> ?_⟩
   · have:=World.block_lt_of_cell? w _ h0;simpa [Addr.add] using this
   · have hj':j<len:=by simp at hj;omega
     have:=hc j xo;rw [Addr.add_lit] at this;rw [this];simp [List.getD_eq_getElem?_getD,List.getElem?_take,hj']
end
section
open Go.ChangeShapes Go.WideShapes Go.ChangeAt Go.RowKit Go.Joins Go.Deep Go.WideElems
theorem array_six {α : Type} {cs:Array α} (h:cs.size=6):∃c0 c1 c2 c3 c4 c5,cs= #[c0,c1,c2,c3,c4,c5]:=by
 obtain ⟨l⟩:=cs;match l,h with
 | [c0,c1,c2,c3,c4,c5],_=>exact ⟨c0,c1,c2,c3,c4,c5,rfl⟩
theorem trod_struct_six {P:Program} {H:Type} {enc:TypeId×Value→H} {w:World} {base:Nat} {spare:Nat→Bool} {held:Bool} {t:TypeId} {f0 f1 f2 f3 f4 f5:Field} {fuel:Nat} {cs:List Value} {x:DataW H×List MemPlace} (ht:P.underlying t=some (.struct #[f0,f1,f2,f3,f4,f5])) (h:DataW.trod enc P w base spare held fuel t cs=some x):
    ∃ y0 y1 y2 y3 y4 y5 n,DataW.trod enc P w base spare held n f0.type ((cs.drop f0.offset).take (P.cellsOf f0.type))=some y0∧DataW.trod enc P w base spare held n f1.type ((cs.drop f1.offset).take (P.cellsOf f1.type))=some y1∧DataW.trod enc P w base spare held n f2.type ((cs.drop f2.offset).take (P.cellsOf f2.type))=some y2∧
      DataW.trod enc P w base spare held n f3.type ((cs.drop f3.offset).take (P.cellsOf f3.type))=some y3∧DataW.trod enc P w base spare held n f4.type ((cs.drop f4.offset).take (P.cellsOf f4.type))=some y4∧DataW.trod enc P w base spare held n f5.type ((cs.drop f5.offset).take (P.cellsOf f5.type))=some y5:=by
 obtain ⟨xs,n,_,rfl,hl,hlen,hf⟩:=DataW.trod_struct ht h;match xs,hlen with
 | [y0,y1,y2,y3,y4,y5],_=>exact ⟨y0,y1,y2,y3,y4,y5,n,by simpa using hf 0 f0 rfl,by simpa using hf 1 f1 rfl,by simpa using hf 2 f2 rfl,by simpa using hf 3 f3 rfl,by simpa using hf 4 f4 rfl,by simpa using hf 5 f5 rfl⟩
theorem open_six {P:Program} {H:Type} {enc:TypeId×Value→H} {w:World} {base:Nat} {spare:Nat→Bool} {held:Bool} {r:Reach} {b0:Nat} {t:TypeId} {f0 f1 f2 f3 f4 f5:Field} {v:Value} {d:DataW H} {p:List MemPlace} (hs:P.underlying t=some (.struct #[f0,f1,f2,f3,f4,f5])) (hone:oneCellFields P #[f0,f1,f2,f3,f4,f5]=true) (hC:P.cellsOf t=6)
    (hv:Value.okWide P w r b0 t v) (h:DataW.Trod enc P w base spare held t v d p):
    ∃ (v0 v1 v2 v3 v4 v5:Value) (y0 y1 y2 y3 y4 y5:DataW H×List MemPlace) (n:Nat),v= .agg #[v0,v1,v2,v3,v4,v5]∧
      DataW.trod enc P w base spare held n f0.type [v0]=some y0∧DataW.trod enc P w base spare held n f1.type [v1]=some y1∧DataW.trod enc P w base spare held n f2.type [v2]=some y2∧DataW.trod enc P w base spare held n f3.type [v3]=some y3∧DataW.trod enc P w base spare held n f4.type [v4]=some y4∧DataW.trod enc P w base spare held n f5.type [v5]=some y5:=by
 obtain ⟨cs,rfl,hsz⟩:=okWide_struct hs hv;obtain ⟨c0,c1,c2,c3,c4,c5,rfl⟩:=array_six (hsz.trans hC);obtain ⟨fuel,hf⟩:=h;obtain ⟨y0,y1,y2,y3,y4,y5,n,h0,h1,h2,h3,h4,h5⟩:=trod_struct_six hs hf;obtain ⟨o0,k0⟩:=hone_of hone 0 f0 rfl;obtain ⟨o1,k1⟩:=hone_of hone 1 f1 rfl;obtain ⟨o2,k2⟩:=hone_of hone 2 f2 rfl;obtain ⟨o3,k3⟩:=hone_of hone 3 f3 rfl;obtain ⟨o4,k4⟩:=hone_of hone 4 f4 rfl;obtain ⟨o5,k5⟩:=hone_of hone 5 f5 rfl;exact ⟨c0,c1,c2,c3,c4,c5,y0,y1,y2,y3,y4,y5,n,rfl,by simpa [Value.cells,o0,k0] using h0,by simpa [Value.cells,o1,k1] using h1,by simpa [Value.cells,o2,k2] using h2,by simpa [Value.cells,o3,k3] using h3,by simpa [Value.cells,o4,k4] using h4,by simpa [Value.cells,o5,k5] using h5⟩
theorem u64_wf {n:Int} (h:(Lit.int .u64 n).wf=true):0≤n∧n<18446744073709551616:=by
 simp [Lit.wf,IntKind.min,IntKind.max,IntKind.signed,IntKind.bits] at h;omega
end
section
open Go.ChangeShapes Go.WideShapes Go.ChangeAt Go.RowKit Go.Joins Go.Deep Go.WideElems
theorem array_nine {α : Type} {cs:Array α} (h:cs.size=9):∃c0 c1 c2 c3 c4 c5 c6 c7 c8,cs= #[c0,c1,c2,c3,c4,c5,c6,c7,c8]:=by
 obtain ⟨l⟩:=cs;match l,h with
 | [c0,c1,c2,c3,c4,c5,c6,c7,c8],_=>exact ⟨c0,c1,c2,c3,c4,c5,c6,c7,c8,rfl⟩
theorem trod_struct_nine {P:Program} {H:Type} {enc:TypeId×Value→H} {w:World} {base:Nat} {spare:Nat→Bool} {held:Bool} {t:TypeId} {f0 f1 f2 f3 f4 f5 f6 f7 f8:Field} {fuel:Nat} {cs:List Value} {x:DataW H×List MemPlace} (ht:P.underlying t=some (.struct #[f0,f1,f2,f3,f4,f5,f6,f7,f8])) (h:DataW.trod enc P w base spare held fuel t cs=some x):
    ∃y0 y1 y2 y3 y4 y5 y6 y7 y8 n,DataW.trod enc P w base spare held n f0.type ((cs.drop f0.offset).take (P.cellsOf f0.type))=some y0∧DataW.trod enc P w base spare held n f1.type ((cs.drop f1.offset).take (P.cellsOf f1.type))=some y1∧DataW.trod enc P w base spare held n f2.type ((cs.drop f2.offset).take (P.cellsOf f2.type))=some y2∧DataW.trod enc P w base spare held n f3.type ((cs.drop f3.offset).take (P.cellsOf f3.type))=some y3∧DataW.trod enc P w base spare held n f4.type ((cs.drop f4.offset).take (P.cellsOf f4.type))=some y4∧DataW.trod enc P w base spare held n f5.type ((cs.drop f5.offset).take (P.cellsOf f5.type))=some y5∧DataW.trod enc P w base spare held n f6.type ((cs.drop f6.offset).take (P.cellsOf f6.type))=some y6∧DataW.trod enc P w base spare held n f7.type ((cs.drop f7.offset).take (P.cellsOf f7.type))=some y7∧DataW.trod enc P w base spare held n f8.type ((cs.drop f8.offset).take (P.cellsOf f8.type))=some y8:=by
 obtain ⟨xs,n,_,rfl,hl,hlen,hf⟩:=DataW.trod_struct ht h;match xs,hlen with
 | [y0,y1,y2,y3,y4,y5,y6,y7,y8],_=>exact ⟨y0,y1,y2,y3,y4,y5,y6,y7,y8,n,by simpa using hf 0 f0 rfl,by simpa using hf 1 f1 rfl,by simpa using hf 2 f2 rfl,by simpa using hf 3 f3 rfl,by simpa using hf 4 f4 rfl,by simpa using hf 5 f5 rfl,by simpa using hf 6 f6 rfl,by simpa using hf 7 f7 rfl,by simpa using hf 8 f8 rfl⟩
theorem open_nine {P:Program} {H:Type} {enc:TypeId×Value→H} {w:World} {base:Nat} {spare:Nat→Bool} {held:Bool} {r:Reach} {b0:Nat} {t:TypeId} {f0 f1 f2 f3 f4 f5 f6 f7 f8:Field} {v:Value} {d:DataW H} {p:List MemPlace} (hs:P.underlying t=some (.struct #[f0,f1,f2,f3,f4,f5,f6,f7,f8])) (hone:oneCellFields P #[f0,f1,f2,f3,f4,f5,f6,f7,f8]=true) (hC:P.cellsOf t=9)
    (hv:Value.okWide P w r b0 t v) (h:DataW.Trod enc P w base spare held t v d p):
    ∃ (v0 v1 v2 v3 v4 v5 v6 v7 v8:Value) (y0 y1 y2 y3 y4 y5 y6 y7 y8:DataW H×List MemPlace) (n:Nat),v= .agg #[v0,v1,v2,v3,v4,v5,v6,v7,v8]∧
      DataW.trod enc P w base spare held n f0.type [v0]=some y0∧DataW.trod enc P w base spare held n f1.type [v1]=some y1∧DataW.trod enc P w base spare held n f2.type [v2]=some y2∧DataW.trod enc P w base spare held n f3.type [v3]=some y3∧DataW.trod enc P w base spare held n f4.type [v4]=some y4∧DataW.trod enc P w base spare held n f5.type [v5]=some y5∧DataW.trod enc P w base spare held n f6.type [v6]=some y6∧DataW.trod enc P w base spare held n f7.type [v7]=some y7∧DataW.trod enc P w base spare held n f8.type [v8]=some y8:=by
 obtain ⟨cs,rfl,hsz⟩:=okWide_struct hs hv;obtain ⟨c0,c1,c2,c3,c4,c5,c6,c7,c8,rfl⟩:=array_nine (hsz.trans hC);obtain ⟨fuel,hf⟩:=h;obtain ⟨y0,y1,y2,y3,y4,y5,y6,y7,y8,n,h0,h1,h2,h3,h4,h5,h6,h7,h8⟩:=trod_struct_nine hs hf;obtain ⟨o0,k0⟩:=hone_of hone 0 f0 rfl;obtain ⟨o1,k1⟩:=hone_of hone 1 f1 rfl;obtain ⟨o2,k2⟩:=hone_of hone 2 f2 rfl;obtain ⟨o3,k3⟩:=hone_of hone 3 f3 rfl;obtain ⟨o4,k4⟩:=hone_of hone 4 f4 rfl;obtain ⟨o5,k5⟩:=hone_of hone 5 f5 rfl;obtain ⟨o6,k6⟩:=hone_of hone 6 f6 rfl;obtain ⟨o7,k7⟩:=hone_of hone 7 f7 rfl;obtain ⟨o8,k8⟩:=hone_of hone 8 f8 rfl;exact ⟨c0,c1,c2,c3,c4,c5,c6,c7,c8,y0,y1,y2,y3,y4,y5,y6,y7,y8,n,rfl,by simpa [Value.cells,o0,k0] using h0,by simpa [Value.cells,o1,k1] using h1,by simpa [Value.cells,o2,k2] using h2,by simpa [Value.cells,o3,k3] using h3,by simpa [Value.cells,o4,k4] using h4,by simpa [Value.cells,o5,k5] using h5,by simpa [Value.cells,o6,k6] using h6,by simpa [Value.cells,o7,k7] using h7,by simpa [Value.cells,o8,k8] using h8⟩
theorem open_cf {H:Type} {enc:TypeId×Value→H} {w:World} {base:Nat} {spare:Nat→Bool} {held:Bool} {r:Reach} {b0:Nat} {v:Value} {d:DataW H} {p:List MemPlace}
    (hv:Value.okWide Tryz.prog w r b0 23 v) (h:DataW.Trod enc Tryz.prog w base spare held 23 v d p):
    ∃c:Cfg,v=cfV c:=by
 obtain ⟨v0,v1,v2,v3,v4,v5,v6,v7,v8,y0,y1,y2,y3,y4,y5,y6,y7,y8,n,rfl,t0,t1,t2,t3,t4,t5,t6,t7,t8⟩:=open_nine Tryz.underlying23 xk xk hv h;obtain ⟨z0,e0,-,-⟩:=DataW.trod_int Tryz.underlying5 t0;obtain ⟨z1,e1,-,-⟩:=DataW.trod_int Tryz.underlying3 t1;obtain ⟨z2,e2,-,-⟩:=DataW.trod_int Tryz.underlying3 t2;obtain ⟨z3,e3,-,-⟩:=DataW.trod_int Tryz.underlying3 t3;obtain ⟨z4,e4,-,-⟩:=DataW.trod_int Tryz.underlying3 t4;obtain ⟨z5,e5,-,-⟩:=DataW.trod_int Tryz.underlying3 t5;obtain ⟨z6,e6,-,-⟩:=DataW.trod_int Tryz.underlying3 t6;obtain ⟨z7,e7,-,-⟩:=DataW.trod_int Tryz.underlying3 t7;obtain ⟨z8,e8,-,-⟩:=DataW.trod_int Tryz.underlying3 t8;simp only [List.cons.injEq,and_true] at e0 e1 e2 e3 e4 e5 e6 e7 e8;subst e0 e1 e2 e3 e4 e5 e6 e7 e8;exact ⟨⟨z0,z1,z2,z3,z4,z5,z6,z7,z8⟩,rfl⟩
end
section
open Go.ChangeShapes Go.WideShapes Go.ChangeAt Go.RowKit Go.Joins Go.Deep Go.WideElems
theorem open_rowC {H:Type} {enc:TypeId×Value→H} {w:World} {fuel:Nat} {base:Nat} {spare:Nat→Bool} {held:Bool} {t e:TypeId} {k:IntKind} {cs:List Value} {x:DataW H×List MemPlace} {ao:Option Addr} {n cap:Nat}
    (ht:Tryz.prog.underlying t=some (.slice e)) (he:Tryz.prog.underlying e=some (.int k)) (hc:Tryz.prog.cellsOf e=1) (h:DataW.trod enc Tryz.prog w base spare held fuel t cs=some x) (hcs:cs=[.slice ao n cap]):n≤cap:=by
 rcases open_ints ht he hc h with ⟨rfl,rfl⟩ | ⟨a,len,cap,zs,rfl,hb,hl,hm,hz,rfl,hc,hw⟩
 · cases hcs;exact Nat.le_refl _
 · cases hcs;exact hl
end
section
open Go.ChangeShapes Go.WideShapes Go.ChangeAt Go.RowKit Go.Joins Go.Deep Go.WideElems
theorem open_pr {H:Type} {enc:TypeId×Value→H} {w:World} {base:Nat} {spare:Nat→Bool} {held:Bool} {r:Reach} {b0:Nat} {v:Value} {d:DataW H} {p:List MemPlace}
    (hv:Value.okWide Tryz.prog w r b0 31 v) (h:DataW.Trod enc Tryz.prog w base spare held 31 v d p):
    ∃(x y:Int),v= .agg #[.int .i64 x,.int .i64 y]:=by
 obtain ⟨v0,v1,y0,y1,k,rfl,rfl,rfl,t0,t1⟩:=open_agg2 Tryz.underlying31 xk xk hv h;obtain ⟨n,e0,-,h0⟩:=DataW.trod_int Tryz.underlying2 t0;obtain ⟨g,e1,-,h1⟩:=DataW.trod_int Tryz.underlying2 t1;simp only [List.cons.injEq,and_true] at e0 e1;subst e0 e1;exact ⟨n,g,rfl⟩
theorem open_slr {H:Type} {enc:TypeId×Value→H} {w:World} {base:Nat} {spare:Nat→Bool} {held:Bool} {r:Reach} {b0:Nat} {v:Value} {d:DataW H} {p:List MemPlace}
    (hv:Value.okWide Tryz.prog w r b0 29 v) (h:DataW.Trod enc Tryz.prog w base spare held 29 v d p):
    ∃(c:SlC) (a:SlA),v=slV c a∧SlIn w c a∧(a.wa=none→a.wc=0)∧(a.ka=none→a.kc=0)∧(a.va=none→a.vc=0)∧(a.ca=none→a.cc=0)∧c.cs.length≤a.cc∧0≤c.laid∧c.laid<18446744073709551616:=by
 obtain ⟨v0,v1,v2,v3,v4,v5,y0,y1,y2,y3,y4,y5,n,rfl,t0,t1,t2,t3,t4,t5⟩:=open_six Tryz.underlying29 xk xk hv h;obtain ⟨l,e0,-,-⟩:=DataW.trod_int Tryz.underlying3 t0;obtain ⟨wa,ws,wc,e1,w1,w2,w3,w4⟩:=open_rowK Tryz.underlying24 Tryz.underlying27 xk t1;obtain ⟨ka,ks,kc,e2,k1,k2,k3,_⟩:=open_rowK Tryz.underlying25 Tryz.underlying2 xk t2;obtain ⟨va,vs,vc,e3,l1,l2,l3,_⟩:=open_rowK Tryz.underlying25 Tryz.underlying2 xk t3;obtain ⟨ca,cs,cc,e4,m1,m2,m3,_⟩:=open_rowK Tryz.underlying26 Tryz.underlying3 xk t4;obtain ⟨o,e5,-,e6⟩:=DataW.trod_int Tryz.underlying27 t5;have r1:=open_rowC Tryz.underlying26 Tryz.underlying3 xk t4 e4;have r2:=u64_wf e6;simp only [List.cons.injEq,and_true] at e0 e1 e2 e3 e4 e5;subst e0 e1 e2 e3 e4 e5;exact ⟨⟨l,ws,ks,vs,cs,o⟩,⟨wa,ka,va,ca,wc,kc,vc,cc⟩,rfl,⟨w1,k1,l1,m1,fun x hx=>u64_wf (w4 x hx)⟩,w2,k2,l2,m2,r1,r2.1,r2.2⟩
end
section
open Go.RowKit
section
variable {f g:Nat→Int}
def lvs (f g:Nat→Int):Nat→Nat→List (Int×Int)
  | 0,n=>[(f n,g n)]
  | d+1,n=>lvs f g d (2*n)++lvs f g d (2*n+1)
theorem lvs_length:∀d n,(lvs f g d n).length=2^d:=by
 intro d;induction d with
 | zero=>intro n;rfl
 | succ d ih=>intro n;rw [lvs,List.length_append,ih,ih,Nat.pow_succ];omega
theorem lvs_get:∀d n i,i<2^d→(lvs f g d n)[i]? =some (f (n*2^d+i),g (n*2^d+i)):=by
 intro d;induction d with
 | zero=>
  intro n i hi;have:i=0:=by simp at hi;exact hi
  subst this;simp [lvs]
 | succ d ih=>
  intro n i hi;rw [Nat.pow_succ] at hi;rw [lvs];by_cases h:i<2^d
  · rw [List.getElem?_append_left (by rw [lvs_length];exact h),ih _ _ h];rw [show n*2^(d+1)+i=2*n*2^d+i by rw [Nat.pow_succ,Nat.mul_comm 2 n,Nat.mul_assoc,Nat.mul_comm 2]]
  · rw [List.getElem?_append_right (by rw [lvs_length];omega),lvs_length,ih _ _ xo];rw [show n*2^(d+1)+i=(2*n+1)*2^d+(i-2^d) by rw [Nat.pow_succ,Nat.add_mul,Nat.mul_comm 2 n,Nat.mul_assoc,Nat.mul_comm 2];omega]
def Good (f g:Nat→Int):Nat→Nat→Prop
  | 0,n=>ownB (f n) (g n)=true
  | d+1,n=>ownB (f n) (g n)=true∧joinR (f n) (g n) (f (2*n)) (g (2*n)) (f (2*n+1)) (g (2*n+1))=true∧Good f g d (2*n)∧Good f g d (2*n+1)
theorem Good.own:∀ {d n},Good f g d n→ownB (f n) (g n)=true
  | 0,_,h=>h
  | _+1,_,h=>h.1
def cntL (l:List (Int×Int)):Int:=(l.map (·.2)).sum
theorem cntL_append (a b:List (Int×Int)):cntL (a++b)=cntL a+cntL b:=by simp [cntL]
theorem join_facts {m c am ac bm bc:Int} (h:joinR m c am ac bm bc=true):c=ac+bc∧(0<bc→m=bm)∧(¬0<bc→m=am)∧(0<ac→0<bc→am<bm):=by
 simp only [joinR,Bool.and_eq_true,Bool.or_eq_true,decide_eq_true_eq] at h;obtain ⟨⟨⟨⟨⟨h1,h2⟩,h3⟩,h4⟩,h5,h6⟩,h7⟩:=h;unfold abM at h5;refine ⟨by omega,fun hb=>by rw [if_pos hb] at h5;exact h5,fun hb=>by rw [if_neg hb] at h5;exact h5,fun ha hb=>by rcases h7 with (h7|h7)|h7<;>omega⟩
theorem Good.cnt:∀ {d n},Good f g d n→cntL (lvs f g d n)=g n:=by
 intro d;induction d with
 | zero=>intro n _;simp [lvs,cntL]
 | succ d ih=>
  intro n h;obtain ⟨h1,h2,h3,h4⟩:=h;rw [lvs,cntL_append,ih h3,ih h4,(join_facts h2).1]
def srv (key m c:Int):Prop:=0<c∧key≤m
instance (key m c:Int):Decidable (srv key m c):=by unfold srv;infer_instance
end
end
section
open Go.RowKit
theorem lvs_take {f g:Nat→Int} {D d m:Nat} (hd:d≤D) (h1:2^D≤m*2^d) (h2:(m+1)*2^d≤2*2^D):
    (lvs f g D 1).take (m*2^d-2^D+2^d)=(lvs f g D 1).take (m*2^d-2^D)++lvs f g d m:=by
 rw [Nat.add_mul,Nat.one_mul] at h2;obtain ⟨P,hP⟩:∃P,m*2^d=P:=⟨_,rfl⟩
 rw [hP] at h1 h2 ⊢;have p1:=Nat.two_pow_pos d;have p2:=Nat.two_pow_pos D;generalize hQ:2^D=Q at h1 h2 p2 ⊢;generalize hR:2^d=R at h2 p1 ⊢;have e:((lvs f g D 1).take (P-Q)).length=P-Q:=by
  rw [List.length_take,lvs_length,hQ];omega
 refine List.ext_getElem? fun k=> ?_
 by_cases hk:k<P-Q
 · rw [List.getElem?_take,if_pos xo,List.getElem?_append_left (by rw [e];exact hk),List.getElem?_take,if_pos hk]
 · rw [List.getElem?_append_right (by rw [e];omega),e];by_cases hk2:k<P-Q+R
   · rw [List.getElem?_take,if_pos hk2,lvs_get _ _ _ (by rw [hQ];omega),lvs_get _ _ _ (by rw [hR];omega),hP,hQ];rw [show 1*Q+k=P+(k-(P-Q)) by omega]
   · rw [List.getElem?_take,if_neg hk2,List.getElem?_eq_none (by rw [lvs_length,hR];omega)]
theorem Good.ahead {f g:Nat→Int} {D d m:Nat} (h:Good f g d m) (hd:d≤D) (h1:2^D≤m*2^d) (h2:(m+1)*2^d≤2*2^D):
    cntL ((lvs f g D 1).take (m*2^d-2^D+2^d))=cntL ((lvs f g D 1).take (m*2^d-2^D))+g m:=by
 rw [lvs_take hd h1 h2,cntL_append,h.cnt]
end
section
open Go.RowKit
theorem plsW_append (ws:List Int) {a b d:Nat} (h1:a≤b) (h2:b≤d):plsW ws a b++plsW ws b d=plsW ws a d:=by
 unfold plsW;rw [←List.filter_append];congr 1
 have:=List.range'_append_1 (s:=a) (m:=b-a) (n:=d-b);rw [show a+(b-a)=b by omega,show b-a+(d-b)=d-a by omega] at this;exact this
theorem prs_append (c:SlC) {a b d:Nat} (h1:a≤b) (h2:b≤d):prs c a b++prs c b d=prs c a d:=by
 unfold prs;rw [←List.map_append,plsW_append c.ws h1 h2]
def Ris (l:List (Int×Int)):Prop:=l.Pairwise fun p q=>p.1<q.1
theorem Ris.apart {a b:List (Int×Int)} (h:Ris (a++b)):Ris a∧Ris b∧∀p ∈ a,∀q ∈ b,p.1<q.1:=by
 have:=List.pairwise_append.1 h;exact this
theorem Ris.prs {c:SlC} {n:Nat} (h:Ris (prs c 0 n)) {a b:Nat} (h1:a≤b) (h2:b≤n):Ris (Go.Proofs.YtookgoidlnlckaaGreatDoor.prs c a b):=by
 rw [←prs_append c (Nat.zero_le b) h2] at h;have h3:=h.apart.1;rw [←prs_append c (Nat.zero_le a) h1] at h3;exact h3.apart.2.1
end
section
open Go.RowKit Go.Shelf
end
section
open Go.RowKit Go.Shelf
end
end Go.Proofs.YtookgoidlnlckaaGreatDoor

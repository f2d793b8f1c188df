/- Merged: OpenSl, OpenCf, OpenSlc, OpenPm. -/
import Derived.Test.YtmnlagmmbfjbeaaGreatDoorPmaTurnsP26
import Derived.Test.YtmnlagmmbfjbeaaGreatDoorPmaTurnsP2
import Derived.Test.YtmnlagmmbfjbeaaGreatDoorPmaTurnsP5
import Derived.Test.YtmnlagmmbfjbeaaGreatDoorPmaTurnsP4
import Derived.Deep.SlicePairs
import Derived.Test.YtmnlagmmbfjbeaaGreatDoorPmaTurnsP10
namespace Go.Proofs.YtmnlagmmbfjbeaaGreatDoor
set_option maxRecDepth 100000
set_option maxHeartbeats 40000000
set_option linter.unusedVariables false
set_option linter.unusedSimpArgs false
section
open Go.ChangeShapes Go.WideShapes Go.ChangeAt Go.RowKit Go.Joins Go.Deep Go.WideElems
theorem trod_struct_six {P:Program} {H:Type} {enc:TypeId×Value→H} {w:World} {base:Nat} {spare:Nat→Bool} {held:Bool} {t:TypeId} {f0 f1 f2 f3 f4 f5:Field} {fuel:Nat} {cs:List Value} {x:DataW H×List MemPlace} (ht:P.underlying t=some (.struct #[f0,f1,f2,f3,f4,f5])) (h:DataW.trod enc P w base spare held fuel t cs=some x):
    ∃ y0 y1 y2 y3 y4 y5 n,DataW.trod enc P w base spare held n f0.type ((cs.drop f0.offset).take (P.cellsOf f0.type))=some y0∧DataW.trod enc P w base spare held n f1.type ((cs.drop f1.offset).take (P.cellsOf f1.type))=some y1∧DataW.trod enc P w base spare held n f2.type ((cs.drop f2.offset).take (P.cellsOf f2.type))=some y2∧
      DataW.trod enc P w base spare held n f3.type ((cs.drop f3.offset).take (P.cellsOf f3.type))=some y3∧DataW.trod enc P w base spare held n f4.type ((cs.drop f4.offset).take (P.cellsOf f4.type))=some y4∧DataW.trod enc P w base spare held n f5.type ((cs.drop f5.offset).take (P.cellsOf f5.type))=some y5:=by
 obtain ⟨xs,n,_,rfl,hl,hlen,hf⟩:=DataW.trod_struct ht h;match xs,hlen with
 | [y0,y1,y2,y3,y4,y5],_=>exact ⟨y0,y1,y2,y3,y4,y5,n,by simpa using hf 0 f0 rfl,by simpa using hf 1 f1 rfl,by simpa using hf 2 f2 rfl,by simpa using hf 3 f3 rfl,by simpa using hf 4 f4 rfl,by simpa using hf 5 f5 rfl⟩
theorem u64_wf {n:Int} (h:(Lit.int .u64 n).wf=true):0≤n∧n<18446744073709551616:=by
 simp [Lit.wf,IntKind.min,IntKind.max,IntKind.signed,IntKind.bits] at h;omega
end
section
open Go.ChangeShapes Go.WideShapes Go.ChangeAt Go.RowKit Go.Joins Go.Deep Go.WideElems
theorem trod_struct_nine {P:Program} {H:Type} {enc:TypeId×Value→H} {w:World} {base:Nat} {spare:Nat→Bool} {held:Bool} {t:TypeId} {f0 f1 f2 f3 f4 f5 f6 f7 f8:Field} {fuel:Nat} {cs:List Value} {x:DataW H×List MemPlace} (ht:P.underlying t=some (.struct #[f0,f1,f2,f3,f4,f5,f6,f7,f8])) (h:DataW.trod enc P w base spare held fuel t cs=some x):
    ∃y0 y1 y2 y3 y4 y5 y6 y7 y8 n,DataW.trod enc P w base spare held n f0.type ((cs.drop f0.offset).take (P.cellsOf f0.type))=some y0∧DataW.trod enc P w base spare held n f1.type ((cs.drop f1.offset).take (P.cellsOf f1.type))=some y1∧DataW.trod enc P w base spare held n f2.type ((cs.drop f2.offset).take (P.cellsOf f2.type))=some y2∧DataW.trod enc P w base spare held n f3.type ((cs.drop f3.offset).take (P.cellsOf f3.type))=some y3∧DataW.trod enc P w base spare held n f4.type ((cs.drop f4.offset).take (P.cellsOf f4.type))=some y4∧DataW.trod enc P w base spare held n f5.type ((cs.drop f5.offset).take (P.cellsOf f5.type))=some y5∧DataW.trod enc P w base spare held n f6.type ((cs.drop f6.offset).take (P.cellsOf f6.type))=some y6∧DataW.trod enc P w base spare held n f7.type ((cs.drop f7.offset).take (P.cellsOf f7.type))=some y7∧DataW.trod enc P w base spare held n f8.type ((cs.drop f8.offset).take (P.cellsOf f8.type))=some y8:=by
 obtain ⟨xs,n,_,rfl,hl,hlen,hf⟩:=DataW.trod_struct ht h;match xs,hlen with
 | [y0,y1,y2,y3,y4,y5,y6,y7,y8],_=>exact ⟨y0,y1,y2,y3,y4,y5,y6,y7,y8,n,by simpa using hf 0 f0 rfl,by simpa using hf 1 f1 rfl,by simpa using hf 2 f2 rfl,by simpa using hf 3 f3 rfl,by simpa using hf 4 f4 rfl,by simpa using hf 5 f5 rfl,by simpa using hf 6 f6 rfl,by simpa using hf 7 f7 rfl,by simpa using hf 8 f8 rfl⟩
end
section
open Go.ChangeShapes Go.WideShapes Go.ChangeAt Go.RowKit Go.Joins Go.Deep Go.WideElems
end
section
open Go.ChangeShapes Go.WideShapes Go.ChangeAt Go.RowKit Go.Joins Go.Deep Go.WideElems
theorem array_fifteen {α : Type} {cs:Array α} (h:cs.size=15):∃c0 c1 c2 c3 c4 c5 c6 c7 c8 c9 c10 c11 c12 c13 c14,cs= #[c0,c1,c2,c3,c4,c5,c6,c7,c8,c9,c10,c11,c12,c13,c14]:=by
 obtain ⟨l⟩:=cs;match l,h with
 | [c0,c1,c2,c3,c4,c5,c6,c7,c8,c9,c10,c11,c12,c13,c14],_=>exact ⟨c0,c1,c2,c3,c4,c5,c6,c7,c8,c9,c10,c11,c12,c13,c14,rfl⟩
theorem trod_struct_two {P:Program} {H:Type} {enc:TypeId×Value→H} {w:World} {base:Nat} {spare:Nat→Bool} {held:Bool} {t:TypeId} {f0 f1:Field} {fuel:Nat} {cs:List Value} {x:DataW H×List MemPlace} (ht:P.underlying t=some (.struct #[f0,f1])) (h:DataW.trod enc P w base spare held fuel t cs=some x):
    ∃y0 y1 n,DataW.trod enc P w base spare held n f0.type ((cs.drop f0.offset).take (P.cellsOf f0.type))=some y0∧DataW.trod enc P w base spare held n f1.type ((cs.drop f1.offset).take (P.cellsOf f1.type))=some y1:=by
 obtain ⟨xs,n,_,rfl,hl,hlen,hf⟩:=DataW.trod_struct ht h;match xs,hlen with
 | [y0,y1],_=>exact ⟨y0,y1,n,by simpa using hf 0 f0 rfl,by simpa using hf 1 f1 rfl⟩
theorem nine_of {P:Program} {H:Type} {enc:TypeId×Value→H} {w:World} {base:Nat} {spare:Nat→Bool} {held:Bool} {t:TypeId} {f0 f1 f2 f3 f4 f5 f6 f7 f8:Field} {fuel:Nat} {c0 c1 c2 c3 c4 c5 c6 c7 c8:Value} {x:DataW H×List MemPlace} (hs:P.underlying t=some (.struct #[f0,f1,f2,f3,f4,f5,f6,f7,f8])) (hone:oneCellFields P #[f0,f1,f2,f3,f4,f5,f6,f7,f8]=true) (h:DataW.trod enc P w base spare held fuel t [c0,c1,c2,c3,c4,c5,c6,c7,c8]=some x):
    ∃(y0 y1 y2 y3 y4 y5 y6 y7 y8:DataW H×List MemPlace) (n:Nat),DataW.trod enc P w base spare held n f0.type [c0]=some y0∧DataW.trod enc P w base spare held n f1.type [c1]=some y1∧DataW.trod enc P w base spare held n f2.type [c2]=some y2∧DataW.trod enc P w base spare held n f3.type [c3]=some y3∧DataW.trod enc P w base spare held n f4.type [c4]=some y4∧DataW.trod enc P w base spare held n f5.type [c5]=some y5∧DataW.trod enc P w base spare held n f6.type [c6]=some y6∧DataW.trod enc P w base spare held n f7.type [c7]=some y7∧DataW.trod enc P w base spare held n f8.type [c8]=some y8:=by
 obtain ⟨y0,y1,y2,y3,y4,y5,y6,y7,y8,n,h0,h1,h2,h3,h4,h5,h6,h7,h8⟩:=trod_struct_nine hs h;obtain ⟨o0,k0⟩:=hone_of hone 0 f0 rfl;obtain ⟨o1,k1⟩:=hone_of hone 1 f1 rfl;obtain ⟨o2,k2⟩:=hone_of hone 2 f2 rfl;obtain ⟨o3,k3⟩:=hone_of hone 3 f3 rfl;obtain ⟨o4,k4⟩:=hone_of hone 4 f4 rfl;obtain ⟨o5,k5⟩:=hone_of hone 5 f5 rfl;obtain ⟨o6,k6⟩:=hone_of hone 6 f6 rfl;obtain ⟨o7,k7⟩:=hone_of hone 7 f7 rfl;obtain ⟨o8,k8⟩:=hone_of hone 8 f8 rfl;exact ⟨y0,y1,y2,y3,y4,y5,y6,y7,y8,n,by simpa [o0,k0] using h0,by simpa [o1,k1] using h1,by simpa [o2,k2] using h2,by simpa [o3,k3] using h3,by simpa [o4,k4] using h4,by simpa [o5,k5] using h5,by simpa [o6,k6] using h6,by simpa [o7,k7] using h7,by simpa [o8,k8] using h8⟩
theorem six_of {P:Program} {H:Type} {enc:TypeId×Value→H} {w:World} {base:Nat} {spare:Nat→Bool} {held:Bool} {t:TypeId} {f0 f1 f2 f3 f4 f5:Field} {fuel:Nat} {c0 c1 c2 c3 c4 c5:Value} {x:DataW H×List MemPlace} (hs:P.underlying t=some (.struct #[f0,f1,f2,f3,f4,f5])) (hone:oneCellFields P #[f0,f1,f2,f3,f4,f5]=true) (h:DataW.trod enc P w base spare held fuel t [c0,c1,c2,c3,c4,c5]=some x):
    ∃(y0 y1 y2 y3 y4 y5:DataW H×List MemPlace) (n:Nat),DataW.trod enc P w base spare held n f0.type [c0]=some y0∧DataW.trod enc P w base spare held n f1.type [c1]=some y1∧DataW.trod enc P w base spare held n f2.type [c2]=some y2∧DataW.trod enc P w base spare held n f3.type [c3]=some y3∧DataW.trod enc P w base spare held n f4.type [c4]=some y4∧DataW.trod enc P w base spare held n f5.type [c5]=some y5:=by
 obtain ⟨y0,y1,y2,y3,y4,y5,n,h0,h1,h2,h3,h4,h5⟩:=trod_struct_six hs h;obtain ⟨o0,k0⟩:=hone_of hone 0 f0 rfl;obtain ⟨o1,k1⟩:=hone_of hone 1 f1 rfl;obtain ⟨o2,k2⟩:=hone_of hone 2 f2 rfl;obtain ⟨o3,k3⟩:=hone_of hone 3 f3 rfl;obtain ⟨o4,k4⟩:=hone_of hone 4 f4 rfl;obtain ⟨o5,k5⟩:=hone_of hone 5 f5 rfl;exact ⟨y0,y1,y2,y3,y4,y5,n,by simpa [o0,k0] using h0,by simpa [o1,k1] using h1,by simpa [o2,k2] using h2,by simpa [o3,k3] using h3,by simpa [o4,k4] using h4,by simpa [o5,k5] using h5⟩
theorem open_pm {H:Type} {enc:TypeId×Value→H} {w:World} {base:Nat} {spare:Nat→Bool} {held:Bool} {r:Reach} {b0:Nat} {v:Value} {d:DataW H} {p:List MemPlace}
    (hv:Value.okWide Tryz.prog w r b0 31 v) (h:DataW.Trod enc Tryz.prog w base spare held 31 v d p):
    ∃(c:Cfg) (s:SlC) (a:SlA),v=pmV c s a∧SlIn w s a∧(a.wa=none→a.wc=0)∧(a.ka=none→a.kc=0)∧(a.va=none→a.vc=0)∧(a.ca=none→a.cc=0):=by
 obtain ⟨cs,rfl,hsz⟩:=okWide_struct Tryz.underlying31 hv;obtain ⟨c0,c1,c2,c3,c4,c5,c6,c7,c8,c9,c10,c11,c12,c13,c14,rfl⟩:=array_fifteen (hsz.trans xk);obtain ⟨fuel,hf⟩:=h;obtain ⟨y0,y1,n,h0,h1⟩:=trod_struct_two Tryz.underlying31 hf;replace h0:DataW.trod enc Tryz.prog w base spare held n 23 [c0,c1,c2,c3,c4,c5,c6,c7,c8]=some y0:=h0;replace h1:DataW.trod enc Tryz.prog w base spare held n 29 [c9,c10,c11,c12,c13,c14]=some y1:=h1;obtain ⟨u0,u1,u2,u3,u4,u5,u6,u7,u8,n2,t0,t1,t2,t3,t4,t5,t6,t7,t8⟩:=nine_of Tryz.underlying23 xk h0;obtain ⟨z0,e0,-,-⟩:=DataW.trod_int Tryz.underlying5 t0;obtain ⟨z1,e1,-,-⟩:=DataW.trod_int Tryz.underlying3 t1;obtain ⟨z2,e2,-,-⟩:=DataW.trod_int Tryz.underlying3 t2;obtain ⟨z3,e3,-,-⟩:=DataW.trod_int Tryz.underlying3 t3;obtain ⟨z4,e4,-,-⟩:=DataW.trod_int Tryz.underlying3 t4;obtain ⟨z5,e5,-,-⟩:=DataW.trod_int Tryz.underlying3 t5;obtain ⟨z6,e6,-,-⟩:=DataW.trod_int Tryz.underlying3 t6;obtain ⟨z7,e7,-,-⟩:=DataW.trod_int Tryz.underlying3 t7;obtain ⟨z8,e8,-,-⟩:=DataW.trod_int Tryz.underlying3 t8;simp only [List.cons.injEq,and_true] at e0 e1 e2 e3 e4 e5 e6 e7 e8;subst e0 e1 e2 e3 e4 e5 e6 e7 e8;clear t0 t1 t2 t3 t4 t5 t6 t7 t8;obtain ⟨s0,s1,s2,s3,s4,s5,n3,t0,t1,t2,t3,t4,t5⟩:=six_of Tryz.underlying29 xk h1;obtain ⟨l,e0,-,-⟩:=DataW.trod_int Tryz.underlying3 t0;obtain ⟨wa,ws,wc,e1,w1,w2,w3,w4⟩:=open_rowK Tryz.underlying24 Tryz.underlying27 xk t1;obtain ⟨ka,ks,kc,e2,k1,k2,k3,_⟩:=open_rowK Tryz.underlying25 Tryz.underlying2 xk t2;obtain ⟨va,vs,vc,e3,l1,l2,l3,_⟩:=open_rowK Tryz.underlying25 Tryz.underlying2 xk t3;obtain ⟨ca,cs,cc,e4,m1,m2,m3,_⟩:=open_rowK Tryz.underlying26 Tryz.underlying3 xk t4;obtain ⟨o,e5,-,-⟩:=DataW.trod_int Tryz.underlying27 t5;simp only [List.cons.injEq,and_true] at e0 e1 e2 e3 e4 e5;subst e0 e1 e2 e3 e4 e5;exact ⟨⟨z0,z1,z2,z3,z4,z5,z6,z7,z8⟩,⟨l,ws,ks,vs,cs,o⟩,⟨wa,ka,va,ca,wc,kc,vc,cc⟩,rfl,⟨w1,k1,l1,m1,fun x hx=>u64_wf (w4 x hx)⟩,w2,k2,l2,m2⟩
end
end Go.Proofs.YtmnlagmmbfjbeaaGreatDoor

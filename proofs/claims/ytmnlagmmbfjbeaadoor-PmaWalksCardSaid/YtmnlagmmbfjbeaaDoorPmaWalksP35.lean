/- Merged: PmWkPl, PmWkWalk, Open, OpenIx, OpenSl, OpenCf, OpenSlc. -/
import Derived.Test.YtmnlagmmbfjbeaaDoorPmaWalksP34
import Derived.Test.YtmnlagmmbfjbeaaDoorPmaWalksP33
import Derived.Test.YtmnlagmmbfjbeaaDoorPmaWalksP32
import Derived.Test.YtmnlagmmbfjbeaaDoorPmaWalksP21
import Derived.Test.YtmnlagmmbfjbeaaDoorPmaWalksP1
import Derived.ProofKit
import Derived.OpenShut
import Derived.ShutString
import Derived.ChangeOld
import Derived.Below
import Derived.Lib.SmallJoins
import Derived.Test.YtmnlagmmbfjbeaaDoorPmaWalksP12
import Derived.Test.YtmnlagmmbfjbeaaDoorPmaWalksP2
import Derived.Test.YtmnlagmmbfjbeaaDoorPmaWalksP3
import Derived.Test.YtmnlagmmbfjbeaaDoorPmaWalksP10
import Derived.Deep.SlicePairs
namespace Go.Proofs.YtmnlagmmbfjbeaaDoor
set_option maxRecDepth 100000
set_option maxHeartbeats 40000000
set_option linter.unusedVariables false
set_option linter.unusedSimpArgs false
section
open Go.RowKit
theorem taks_zero {c:Cfg} (h:cfMay c=true):taks c ((0:Nat):Int)=c.least:=by
 obtain ⟨d0,d1,d2,d3,d4,d5,d6,d7,d8,d9,d10,d11,d12,d13,d14,d15,d16,d17⟩:=cfHead_num (cfMay_head h);have hp:0≤c.rh*c.least:=Int.mul_nonneg xo xo;show (if c.rh*c.least<((0:Nat):Int)*c.den then takF c ((0:Nat):Int) 19 (2*c.least) else c.least)=c.least;rw [if_neg];have:((0:Nat):Int)*c.den=0:=by simp
 omega
theorem zer_bit (n i:Nat):bitW (List.replicate n 0) i=false:=by
 have:(List.replicate n (0:Int)).getD (i/64) 0=0:=by
  rw [List.getD_eq_getElem?_getD,List.getElem?_replicate];split<;>rfl
 rw [bitW,this];exact bitI_zero _
theorem cnt_zero (n a b:Nat):cntW (List.replicate n 0) a b=0:=by
 unfold cntW;rw [List.countP_eq_zero];intro i _;rw [zer_bit];decide
theorem new_may {c:Cfg} (h:cfMay c=true):pmE c (newC c)=0∧(prs (newC c) 0 (newC c).ks.length).length=0:=by
 have hd:=cfMay_head h;have f:=cfHead_facts hd;obtain ⟨s1,s2,a,ea⟩:=powB_nat f.2.2.2.2.1;have dn:=cfHead_num hd;obtain ⟨H,k,ok,-⟩:=cap_taks (a:=a) h (by rw [ea]) (n:=0) xo;rw [taks_zero h] at k ok;have hH:=Nat.two_pow_pos H;have h4:4≤2^a:=Nat.pow_le_pow_right (n:=2) xo k.a2;have h6:2^a≤64:=Nat.pow_le_pow_right (n:=2) xo k.a6;have g:=emptyL_gd h4 h6 hH k.big 0;have e:newC c=emptyL (2^a) (2^H) 0:=by rw [newC,if_pos h,emptyC_eq k.seg k.all h4]
 have hcl:=k.all;rw [hcl] at k ok;have hp:(prs (emptyL (2^a) (2^H) 0) 0 (emptyL (2^a) (2^H) 0).ks.length).length=0:=by rw [prs_length];exact cnt_zero _ _ _
 rw [e];refine ⟨pmE_mk (gapE_den k g ?_ fun j hj i hi=> ?_) ?_,hp⟩
 · have:cntW (emptyL (2^a) (2^H) 0).ws 0 (2^a*2^H)=0:=cnt_zero _ _ _;omega
 · have e0:(cntH (emptyL (2^a) (2^H) 0).ws a j i:Int)=((0:Nat):Int):=by
     have:cntH (emptyL (2^a) (2^H) 0).ws a j i=0:=cnt_zero _ _ _;rw [this]
   rw [e0];rcases Nat.eq_or_lt_of_le hj with q|q
   · rw [q];exact ok
   · exact ok_share k q (Nat.le_refl H) ok (by have:=Nat.two_pow_pos (H-j);omega) (by have:=Nat.two_pow_pos (H-j);omega)
 · rw [List.length_eq_zero_iff.1 hp];exact List.Pairwise.nil
def wkK (first step:Int) (i:Nat):Int:=first+(i:Int)*step
structure WkI (c:Cfg) (first step:Int) (i:Nat) (d:SlC):Prop where
 may:pmE c d=0
 len:(prs d 0 d.ks.length).length=i
 has:∀j,j<i→fndL (prs d 0 d.ks.length) (wkK first step j)=some (wkK first step j,(j:Int))
 none:∀o,(∀j,j<i→o≠wkK first step j)→fndL (prs d 0 d.ks.length) o=none
 u:U64s d.ws
 num:d.ws.length≤1000000∧d.ks.length≤1000000∧d.vs.length≤1000000∧d.cs.length≤1000000
theorem wkK_ne {first step:Int} (hs:step≠0) {i j:Nat} (h:i≠j):wkK first step i≠wkK first step j:=by
 intro e;unfold wkK at e;have e2:(i:Int)*step=(j:Int)*step:=xo;have:=Int.eq_of_mul_eq_mul_right hs e2;omega
theorem wk_new {c:Cfg} (first step:Int) (h:cfMay c=true):WkI c first step 0 (newC c):=by
 obtain ⟨h1,h2⟩:=new_may h;have n:=new_nums9 c;refine ⟨h1,h2,fun j hj=>absurd hj (Nat.not_lt_zero j),fun o _=> ?_,n.2.2.2.2,n.1,n.2.1,n.2.2.1,n.2.2.2.1⟩;rw [List.length_eq_zero_iff.1 h2];rfl
theorem WkI.nohas {c:Cfg} {first step:Int} {i:Nat} {d:SlC} (w:WkI c first step i d) (hs:step≠0):hasB d (wkK first step i)=false:=by
 rw [hasB,w.none _ fun j hj=>wkK_ne hs xo];rfl
theorem WkI.many {c:Cfg} {first step:Int} {i:Nat} {d:SlC} (w:WkI c first step i d):manyC d=i:=by
 rw [←w.len,prs_length];rfl
theorem WkI.le {c:Cfg} {first step:Int} {i:Nat} {d:SlC} (w:WkI c first step i d):(i:Int)≤c.most:=by
 obtain ⟨hc,a,H,kn,hsg,hmost,hden⟩:=gap_zero (pm_zero w.may).1;rw [sum_many kn w.u,w.many] at hmost;exact hmost
theorem WkI.full {c:Cfg} {first step:Int} {i:Nat} {d:SlC} (w:WkI c first step i d) (hs:step≠0) (hm:c.most≤(i:Int)):pPutE c d (wkK first step i)=9:=by
 have:=w.le;rw [pPutE,if_pos w.may,w.nohas hs,if_neg xdd,w.many,if_pos xo]
theorem WkI.room {c:Cfg} {first step:Int} {i:Nat} {d:SlC} (w:WkI c first step i d) (hs:step≠0) (hm:(i:Int)<c.most):pPutE c d (wkK first step i)=0:=by
 rw [pPutE,if_pos w.may,w.nohas hs,if_neg xdd,w.many,if_neg xo]
theorem WkI.next {c:Cfg} {first step:Int} {i:Nat} {d:SlC} (w:WkI c first step i d) (hs:step≠0) (hm:(i:Int)<c.most):WkI c first step (i+1) (pPutC c d (wkK first step i) i):=by
 obtain ⟨p1,p2,p3,p4⟩:=pput_res (val:=(i:Int)) w.u (w.room hs hm);have n:=pput_nums c d w.u (wkK first step i) i;refine ⟨p1,by rw [p4,w.len,w.nohas hs];rfl,fun j hj=> ?_,fun o ho=> ?_,n.2.2.2.2,n.1,n.2.1,n.2.2.1,n.2.2.2.1⟩
 · rcases Nat.eq_or_lt_of_le (Nat.lt_succ_iff.1 hj) with q|q
   · subst q;exact p2
   · rw [p3 _ (wkK_ne hs xo)];exact w.has j q
 · rw [p3 o (ho i (Nat.lt_succ_self i))];exact w.none o fun j hj=>ho j xo
theorem WkI.got {c:Cfg} {first step:Int} {i j:Nat} {d:SlC} (w:WkI c first step i d) (hj:j<i):ansB (getPV c d (wkK first step j)) 0 j=true:=
  ansB_yes (getPV_some w.may (w.has j hj))
theorem WkI.size {c:Cfg} {first step:Int} {i:Nat} {d:SlC} (w:WkI c first step i d):ansB (szV c d) 0 i=true:=
  ansB_yes (by rw [szV_ok w.may,w.len])
end
section
open Go.RowKit
theorem PmaWalks_walk (w:World) (c:Cfg) (first step m:Int) (hm:0≤m∧m<256) (hT:TabAt w):
    Calls Tryd.prog 4 #[cfV c,.int .i64 first,.int .i64 step,.int .u8 m] w (AnsB w (.bool true)):=by
 obtain ⟨many,rfl⟩:=Int.eq_ofNat_of_zero_le hm.1;have n0:=new_nums9 c;refine PW_in c (newF c) (newC c) first step (cfE c) many n0.2.2.2.2 xo (fun i d=>WkI c first step i d∧step≠0) (fun i d=>pPutC c d (wkK first step i) i) (fun he hs=> ?_) (fun i d h hi=>⟨h.1.next h.2 hi,h.2⟩) (fun i d h=>⟨h.1.u,h.1.le⟩) w
   (hid fun W hb=>alive11_ok W (hT.below hb))
   (hid fun W _=>pmaNew_ok c W)
   (hid fun W d a i hb h hi hc hlt hmo=> ?_) (hid fun W d a i hb h hi hc hlt hmo=> ?_)
   (hid fun W d a i hb h hi hc=> ?_)
   (hid fun W d a i hb h hi hc=> ?_)
   (hid fun W d a i j hb h hi hc hj=> ?_)
 · have hc:cfMay c=true:=by
     unfold cfE at he;by_cases hc:cfMay c=true
     · exact hc
     · rw [if_neg hc] at he;exact absurd he xdd
   exact ⟨(if_pos hc).symm,wk_new first step hc,hs⟩
 · have n:=h.1.num;have:=pmaPut_ok c d a (wkK first step i) i xo xo hc W hi (hT.below hb);rw [pPutF,if_pos (h.1.room h.2 hmo),h.1.room h.2 hmo] at this;exact this
 · have n:=h.1.num;have:=pmaPut_ok c d a (wkK first step i) i xo xo hc W hi (hT.below hb);rw [pPutF,pPutC,h.1.full h.2 hmo,if_neg xdd,if_neg xdd] at this;exact this
 · have n:=h.1.num;have:=pmaCheck_ok c d a xo xo hc W hi;rw [h.1.may] at this;exact this
 · have n:=h.1.num;have:=size11_ok c d a i xo xo hc W hi;rw [h.1.size] at this;exact this
 · have n:=h.1.num;have:=got11_ok c d a (wkK first step j) j xo xo hc W hi (hT.below hb);rw [h.1.got hj] at this;exact this
end
section
open Go.ChangeShapes Go.WideShapes Go.ChangeAt Go.RowKit Go.Joins
end
section
open Go.ChangeShapes Go.WideShapes Go.ChangeAt Go.RowKit Go.Joins
end
section
open Go.ChangeShapes Go.WideShapes Go.ChangeAt Go.RowKit Go.Joins Go.Deep Go.WideElems
end
section
open Go.ChangeShapes Go.WideShapes Go.ChangeAt Go.RowKit Go.Joins Go.Deep Go.WideElems
theorem array_nine {α : Type} {cs:Array α} (h:cs.size=9):∃c0 c1 c2 c3 c4 c5 c6 c7 c8,cs= #[c0,c1,c2,c3,c4,c5,c6,c7,c8]:=by
 obtain ⟨l⟩:=cs;match l,h with
 | [c0,c1,c2,c3,c4,c5,c6,c7,c8],_=>exact ⟨c0,c1,c2,c3,c4,c5,c6,c7,c8,rfl⟩
theorem trod_struct_nine {P:Program} {H:Type} {enc:TypeId×Value→H} {w:World} {base:Nat} {spare:Nat→Bool} {held:Bool} {t:TypeId} {f0 f1 f2 f3 f4 f5 f6 f7 f8:Field} {fuel:Nat} {cs:List Value} {x:DataW H×List MemPlace} (ht:P.underlying t=some (.struct #[f0,f1,f2,f3,f4,f5,f6,f7,f8])) (h:DataW.trod enc P w base spare held fuel t cs=some x):
    ∃y0 y1 y2 y3 y4 y5 y6 y7 y8 n,DataW.trod enc P w base spare held n f0.type ((cs.drop f0.offset).take (P.cellsOf f0.type))=some y0∧DataW.trod enc P w base spare held n f1.type ((cs.drop f1.offset).take (P.cellsOf f1.type))=some y1∧DataW.trod enc P w base spare held n f2.type ((cs.drop f2.offset).take (P.cellsOf f2.type))=some y2∧DataW.trod enc P w base spare held n f3.type ((cs.drop f3.offset).take (P.cellsOf f3.type))=some y3∧DataW.trod enc P w base spare held n f4.type ((cs.drop f4.offset).take (P.cellsOf f4.type))=some y4∧DataW.trod enc P w base spare held n f5.type ((cs.drop f5.offset).take (P.cellsOf f5.type))=some y5∧DataW.trod enc P w base spare held n f6.type ((cs.drop f6.offset).take (P.cellsOf f6.type))=some y6∧DataW.trod enc P w base spare held n f7.type ((cs.drop f7.offset).take (P.cellsOf f7.type))=some y7∧DataW.trod enc P w base spare held n f8.type ((cs.drop f8.offset).take (P.cellsOf f8.type))=some y8:=by
 obtain ⟨xs,n,_,rfl,hl,hlen,hf⟩:=DataW.trod_struct ht h;match xs,hlen with
 | [y0,y1,y2,y3,y4,y5,y6,y7,y8],_=>exact ⟨y0,y1,y2,y3,y4,y5,y6,y7,y8,n,by simpa using hf 0 f0 rfl,by simpa using hf 1 f1 rfl,by simpa using hf 2 f2 rfl,by simpa using hf 3 f3 rfl,by simpa using hf 4 f4 rfl,by simpa using hf 5 f5 rfl,by simpa using hf 6 f6 rfl,by simpa using hf 7 f7 rfl,by simpa using hf 8 f8 rfl⟩
theorem open_nine {P:Program} {H:Type} {enc:TypeId×Value→H} {w:World} {base:Nat} {spare:Nat→Bool} {held:Bool} {r:Reach} {b0:Nat} {t:TypeId} {f0 f1 f2 f3 f4 f5 f6 f7 f8:Field} {v:Value} {d:DataW H} {p:List MemPlace} (hs:P.underlying t=some (.struct #[f0,f1,f2,f3,f4,f5,f6,f7,f8])) (hone:oneCellFields P #[f0,f1,f2,f3,f4,f5,f6,f7,f8]=true) (hC:P.cellsOf t=9)
    (hv:Value.okWide P w r b0 t v) (h:DataW.Trod enc P w base spare held t v d p):
    ∃ (v0 v1 v2 v3 v4 v5 v6 v7 v8:Value) (y0 y1 y2 y3 y4 y5 y6 y7 y8:DataW H×List MemPlace) (n:Nat),v= .agg #[v0,v1,v2,v3,v4,v5,v6,v7,v8]∧
      DataW.trod enc P w base spare held n f0.type [v0]=some y0∧DataW.trod enc P w base spare held n f1.type [v1]=some y1∧DataW.trod enc P w base spare held n f2.type [v2]=some y2∧DataW.trod enc P w base spare held n f3.type [v3]=some y3∧DataW.trod enc P w base spare held n f4.type [v4]=some y4∧DataW.trod enc P w base spare held n f5.type [v5]=some y5∧DataW.trod enc P w base spare held n f6.type [v6]=some y6∧DataW.trod enc P w base spare held n f7.type [v7]=some y7∧DataW.trod enc P w base spare held n f8.type [v8]=some y8:=by
 obtain ⟨cs,rfl,hsz⟩:=okWide_struct hs hv;obtain ⟨c0,c1,c2,c3,c4,c5,c6,c7,c8,rfl⟩:=array_nine (hsz.trans hC);obtain ⟨fuel,hf⟩:=h;obtain ⟨y0,y1,y2,y3,y4,y5,y6,y7,y8,n,h0,h1,h2,h3,h4,h5,h6,h7,h8⟩:=trod_struct_nine hs hf;obtain ⟨o0,k0⟩:=hone_of hone 0 f0 rfl;obtain ⟨o1,k1⟩:=hone_of hone 1 f1 rfl;obtain ⟨o2,k2⟩:=hone_of hone 2 f2 rfl;obtain ⟨o3,k3⟩:=hone_of hone 3 f3 rfl;obtain ⟨o4,k4⟩:=hone_of hone 4 f4 rfl;obtain ⟨o5,k5⟩:=hone_of hone 5 f5 rfl;obtain ⟨o6,k6⟩:=hone_of hone 6 f6 rfl;obtain ⟨o7,k7⟩:=hone_of hone 7 f7 rfl;obtain ⟨o8,k8⟩:=hone_of hone 8 f8 rfl;exact ⟨c0,c1,c2,c3,c4,c5,c6,c7,c8,y0,y1,y2,y3,y4,y5,y6,y7,y8,n,rfl,by simpa [Value.cells,o0,k0] using h0,by simpa [Value.cells,o1,k1] using h1,by simpa [Value.cells,o2,k2] using h2,by simpa [Value.cells,o3,k3] using h3,by simpa [Value.cells,o4,k4] using h4,by simpa [Value.cells,o5,k5] using h5,by simpa [Value.cells,o6,k6] using h6,by simpa [Value.cells,o7,k7] using h7,by simpa [Value.cells,o8,k8] using h8⟩
theorem open_cf {H:Type} {enc:TypeId×Value→H} {w:World} {base:Nat} {spare:Nat→Bool} {held:Bool} {r:Reach} {b0:Nat} {v:Value} {d:DataW H} {p:List MemPlace}
    (hv:Value.okWide Tryd.prog w r b0 23 v) (h:DataW.Trod enc Tryd.prog w base spare held 23 v d p):
    ∃c:Cfg,v=cfV c:=by
 obtain ⟨v0,v1,v2,v3,v4,v5,v6,v7,v8,y0,y1,y2,y3,y4,y5,y6,y7,y8,n,rfl,t0,t1,t2,t3,t4,t5,t6,t7,t8⟩:=open_nine Tryd.underlying23 xk xk hv h;obtain ⟨z0,e0,-,-⟩:=DataW.trod_int Tryd.underlying5 t0;obtain ⟨z1,e1,-,-⟩:=DataW.trod_int Tryd.underlying3 t1;obtain ⟨z2,e2,-,-⟩:=DataW.trod_int Tryd.underlying3 t2;obtain ⟨z3,e3,-,-⟩:=DataW.trod_int Tryd.underlying3 t3;obtain ⟨z4,e4,-,-⟩:=DataW.trod_int Tryd.underlying3 t4;obtain ⟨z5,e5,-,-⟩:=DataW.trod_int Tryd.underlying3 t5;obtain ⟨z6,e6,-,-⟩:=DataW.trod_int Tryd.underlying3 t6;obtain ⟨z7,e7,-,-⟩:=DataW.trod_int Tryd.underlying3 t7;obtain ⟨z8,e8,-,-⟩:=DataW.trod_int Tryd.underlying3 t8;simp only [List.cons.injEq,and_true] at e0 e1 e2 e3 e4 e5 e6 e7 e8;subst e0 e1 e2 e3 e4 e5 e6 e7 e8;exact ⟨⟨z0,z1,z2,z3,z4,z5,z6,z7,z8⟩,rfl⟩
end
section
open Go.ChangeShapes Go.WideShapes Go.ChangeAt Go.RowKit Go.Joins Go.Deep Go.WideElems
theorem u8_wf {n:Int} (h:(Lit.int .u8 n).wf=true):0≤n∧n<256:=by
 simp [Lit.wf,IntKind.min,IntKind.max,IntKind.signed,IntKind.bits] at h;omega
end
end Go.Proofs.YtmnlagmmbfjbeaaDoor

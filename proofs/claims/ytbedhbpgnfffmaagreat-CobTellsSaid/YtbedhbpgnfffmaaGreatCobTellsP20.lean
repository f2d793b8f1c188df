/- Merged: CbTw, CbLf, EffFact. -/
import Derived.Test.YtbedhbpgnfffmaaGreatCobTellsP18
import Derived.Test.YtbedhbpgnfffmaaGreatCobTellsP15
import Derived.Test.YtbedhbpgnfffmaaGreatCobTellsP6
import Derived.Test.YtbedhbpgnfffmaaGreatCobTellsP10
import Derived.Test.YtbedhbpgnfffmaaGreatCobTellsP19
import Derived.Test.YtbedhbpgnfffmaaGreatCobTellsP4
import Derived.Test.YtbedhbpgnfffmaaGreatCobTellsP5
namespace Go.Proofs.YtbedhbpgnfffmaaGreat
set_option maxRecDepth 100000
set_option maxHeartbeats 40000000
set_option linter.unusedVariables false
set_option linter.unusedSimpArgs false
section
open Go.RowKit Go.Shelf Go.Sort
attribute [local go_sem] Oper.semAt_some
theorem wpl_build2 {P:Program} {w:World} {ops:Array Oper} {rest:List Oper} {o:Oper} {a:Act} {Q:Exit→Act→World→Prop} (t:TypeId) (i j:Nat) (x y:Operand) (v u:Value) (cs:Array Value) (hw:Region.wanted o (yielded ops a.tmps)=true) (ho:o.op= .build t #[(i,x),(j,y)]) (hx:a.eval x=v) (hy:a.eval y=u)
    (hf:P.built t [(i,v),(j,u)]=some cs) (h:wpList P ops Q rest (a.put o.dst (.agg cs)) w):wpList P ops Q (o::rest) a w:=by
 refine Go.BigFrame.wpList_want hw fun K hK=> ?_
 have e:P.built t ((#[(i,x),(j,y)]:Array (Nat×Operand)).map fun (i,x)=>(i,a.eval x)).toList=some cs:=by simpa [hx,hy] using hf
 refine wp_build t _ ho (by rw [e];rfl) ?_;rw [e];exact hK _ _ h
theorem built_cob (r:CobR) (a:SlA) (A:CobA):Tryz.prog.built 35 [(0,.agg (pmL r.c r.s a).toArray),(1,.agg (ixL r A).toArray)]=some (cobL r ⟨a,A.ma,A.ca,A.mc,A.cc⟩).toArray:=by kernel_rfl
def nilR:CobR:=⟨nilF,nilC,0,[],[]⟩
def nilA:CobA:=⟨⟨none,none,none,none,0,0,0,0⟩,none,none,0,0⟩
theorem sz_nil:SzC nilR:=⟨by decide,by decide,by decide,by decide,by decide,by decide,by intro x hx;cases hx⟩
theorem owc_nil (w:World) (B M:Nat):OwC w B M nilR nilA:=
  ⟨World.ownsRow_nil _ _ _ _,World.ownsRow_nil _ _ _ _,World.ownsRow_nil _ _ _ _,World.ownsRow_nil _ _ _ _,World.ownsRow_nil _ _ _ _,World.ownsRow_nil _ _ _ _,fun k hk=>by simp [Value.ownBlock,nilA] at hk,fun k hk=>by simp [Value.ownBlock,nilA] at hk,fun k hk=>by simp [Value.ownBlock,nilA] at hk,fun k hk=>by simp [Value.ownBlock,nilA] at hk,fun k hk=>by simp [Value.ownBlock,nilA] at hk,fun k hk=>by simp [Value.ownBlock,nilA] at hk,sz_nil⟩
theorem cbTwin_c (r:CobR) (A:CobA) (w:World) (sz:SzC r)
    (PT:Hid (∀(W:World),Below w.heap.size w W→Calls Tryz.prog 26 #[.agg (pmL r.c r.s A.sa).toArray] W (FrP W r.c r.s)))
    (XT:Hid (∀(W:World),Below w.heap.size w W→Calls Tryz.prog 27 #[.agg (ixL r A).toArray] W (FrI W r))):
    Calls Tryz.prog 6 #[cobV r A] w (FrC1 w r):=by
 dsimp only [cobV];go_enter Tryz.func6,Tryz.ntmps6
 go_upto_region 1 with (fail)
 generalize hw0:(w.alloc _).alloc _=w0;obtain ⟨hb0,hx⟩:=bxs_two (l1:=cobL r A) (l2:=zcobL) hw0;have HX:Hid (BXs w0 [(w.heap.size+1,35,zcobL),(w.heap.size,35,cobL r A)]):=hid hx;have HB:=hid hb0;have hz0:=hb0.size;clear hw0 hb0 hx;have hl_o:w.heap.size+1<w0.heap.size:=bx_lt (HX.out.at 0 rfl);have hl_m:w.heap.size<w0.heap.size:=bx_lt (HX.out.at 1 rfl);refine wp_region_late 6 xk (N:=10) rfl xk xk xdd (fun w'=>Below w0.heap.size w0 w') RB (factRAt [.is (.pointer (some ⟨w.heap.size,0,none⟩)),.is (.agg (pmL r.c r.s A.sa).toArray),.P w0.heap.size r.c r.s,.is (.pointer (some ⟨w.heap.size,15,none⟩)),.is (.agg (ixL r A).toArray),.I w0.heap.size r]) (factRAt_stays _) br.drew ?steps ?fin
 case steps=>
  refine ⟨?o0,?o1,?o2,?o3,?o4,?o5,trivial⟩<;>intro u a w' ev hJ hd K hK
  case o0=>
   have e1:tg a 1= .pointer (some ⟨w.heap.size,0,none⟩):=ev 1 xdd;have HK:=hid hK;clear hK ev hd;go_simp;exact HK.out _ _ xzc hJ rfl br
  case o1=>
   have e3:tg a 3= .pointer (some ⟨w.heap.size,0,none⟩):=(ev 3 xdd).trans (hd 0 _ xk rfl);exact wp_op_load_mid 31 (.tmp 3) (w.heap.size) 0 (pmL r.c r.s A.sa) rfl e3 Tryz.underlying31 rfl xk (bx_part (bx_below hJ (HX.out.at 1 rfl) (bx_lt (HX.out.at 1 rfl))) 0 rfl) (hK _ _ xzc hJ rfl br)
  case o2=>
   have e4:tg a 4= .agg (pmL r.c r.s A.sa).toArray:=(ev 4 xdd).trans (hd 1 _ xk rfl);have HK:=hid hK;have HC:=hid (PT.out w' (below_via hJ HB.out HB.out.size));have hzJ:=hJ.size;have HJ:=hid hJ;clear hK ev hd hJ;go_simp;refine HC.out.mono ?_;rintro e w'' ⟨a',rfl,ho,hb⟩;exact HK.out _ _ xzc (HJ.out.trans (hb.mono hzJ)) (⟨a',rfl,ho.base hzJ⟩) hb
  case o3=>
   have e1:tg a 1= .pointer (some ⟨w.heap.size,0,none⟩):=ev 1 xdd;have HK:=hid hK;clear hK ev hd;go_simp;exact HK.out _ _ xzc hJ rfl br
  case o4=>
   have e6:tg a 6= .pointer (some ⟨w.heap.size,15,none⟩):=(ev 6 xdd).trans (hd 3 _ xk rfl);exact wp_op_load_mid 33 (.tmp 6) (w.heap.size) 15 (ixL r A) rfl e6 Tryz.underlying33 rfl xk (bx_part (bx_below hJ (HX.out.at 1 rfl) (bx_lt (HX.out.at 1 rfl))) 15 rfl) (hK _ _ xzc hJ rfl br)
  case o5=>
   have e7:tg a 7= .agg (ixL r A).toArray:=(ev 7 xdd).trans (hd 4 _ xk rfl);have HK:=hid hK;have HC:=hid (XT.out w' (below_via hJ HB.out HB.out.size));have hzJ:=hJ.size;have HJ:=hid hJ;clear hK ev hd hJ;go_simp;refine HC.out.mono ?_;rintro e w'' ⟨A',rfl,ho,hb⟩;exact HK.out _ _ xzc (HJ.out.trans (hb.mono hzJ)) (⟨A',rfl,ho.base hzJ⟩) hb
 case fin=>
  intro u w2 hJ hG;obtain ⟨a1,h5,hp⟩:(FactR.P w0.heap.size r.c r.s).holds (u 5) w2:=hG 2 _ rfl;obtain ⟨A2,h8,hi⟩:(FactR.I w0.heap.size r).holds (u 8) w2:=hG 5 _ rfl;replace hp:=hid hp;replace hi:=hid hi;replace HX:=hid (HX.out.below hJ);replace HB:=xv hJ HB;have hz2:=hJ.size;clear hG hJ;simp only [mixFrame,mixL,dstsOf,List.take_succ_cons,List.take_zero,List.filterMap_cons,List.filterMap_nil,List.contains_cons,List.contains_nil,Nat.reduceBEq,Bool.or_false,Bool.false_or,Bool.or_true,Bool.true_or,if_true,if_false,Bool.false_eq_true,Nat.reduceAdd,Nat.zero_add,List.drop_succ_cons,List.drop_zero,h5,h8];go_wp2_with (first|(refine wpl_build2 35 0 1 (.tmp 5) (.tmp 8) (.agg (pmL r.c r.s a1).toArray) (.agg (ixL r A2).toArray) (cobL r ⟨a1,A2.ma,A2.ca,A2.mc,A2.cc⟩).toArray xk rfl rfl rfl (built_cob r a1 A2) ?_)|(refine wpl_store_row 35 (.tmp 2) (.tmp 9) (w.heap.size+1) (zcobL) (cobL r ⟨a1,A2.ma,A2.ca,A2.mc,A2.cc⟩) rfl rfl rfl rfl xk rfl (cobL_one _ _) (HX.out.at 0 rfl) ?_;intro w3 hs hx))
  exact bodyPost_ret (results_c rfl rfl (run_loadVar_many _ Tryz.underlying35 rfl xk (bx_pb hx))) rfl ⟨⟨a1,A2.ma,A2.ca,A2.mc,A2.cc⟩,rfl,OwC.of ((hp.out.row hs xo).base xo) (OwI.base (OwI.row ⟨hi.out.o5,hi.out.o6⟩ hs xo) xo) sz,HB.out.trans (hs.bel _ xo)⟩
theorem Twin21_c (r:CobR) (A:CobA) (w:World) (sz:SzC r)
    (PT:Hid (∀(W:World),Below w.heap.size w W→Calls Tryz.prog 24 #[.agg (pmL r.c r.s A.sa).toArray] W (FrP W r.c r.s)))
    (XT:Hid (∀(W:World),Below w.heap.size w W→Calls Tryz.prog 25 #[.agg (ixL r A).toArray] W (FrI W r))):
    Calls Tryz.prog 5 #[cobV r A] w (FrC1 w r):=by
 dsimp only [cobV];go_enter Tryz.func5,Tryz.ntmps5
 go_upto_region 1 with (fail)
 generalize hw0:(w.alloc _).alloc _=w0;obtain ⟨hb0,hx⟩:=bxs_two (l1:=cobL r A) (l2:=zcobL) hw0;have HX:Hid (BXs w0 [(w.heap.size+1,35,zcobL),(w.heap.size,35,cobL r A)]):=hid hx;have HB:=hid hb0;have hz0:=hb0.size;clear hw0 hb0 hx;have hl_o:w.heap.size+1<w0.heap.size:=bx_lt (HX.out.at 0 rfl);have hl_m:w.heap.size<w0.heap.size:=bx_lt (HX.out.at 1 rfl);refine wp_region_late 6 xk (N:=10) rfl xk xk xdd (fun w'=>Below w0.heap.size w0 w') RB (factRAt [.is (.pointer (some ⟨w.heap.size,0,none⟩)),.is (.agg (pmL r.c r.s A.sa).toArray),.P w0.heap.size r.c r.s,.is (.pointer (some ⟨w.heap.size,15,none⟩)),.is (.agg (ixL r A).toArray),.I w0.heap.size r]) (factRAt_stays _) br.drew ?steps ?fin
 case steps=>
  refine ⟨?o0,?o1,?o2,?o3,?o4,?o5,trivial⟩<;>intro u a w' ev hJ hd K hK
  case o0=>
   have e1:tg a 1= .pointer (some ⟨w.heap.size,0,none⟩):=ev 1 xdd;have HK:=hid hK;clear hK ev hd;go_simp;exact HK.out _ _ xzc hJ rfl br
  case o1=>
   have e3:tg a 3= .pointer (some ⟨w.heap.size,0,none⟩):=(ev 3 xdd).trans (hd 0 _ xk rfl);exact wp_op_load_mid 31 (.tmp 3) (w.heap.size) 0 (pmL r.c r.s A.sa) rfl e3 Tryz.underlying31 rfl xk (bx_part (bx_below hJ (HX.out.at 1 rfl) (bx_lt (HX.out.at 1 rfl))) 0 rfl) (hK _ _ xzc hJ rfl br)
  case o2=>
   have e4:tg a 4= .agg (pmL r.c r.s A.sa).toArray:=(ev 4 xdd).trans (hd 1 _ xk rfl);have HK:=hid hK;have HC:=hid (PT.out w' (below_via hJ HB.out HB.out.size));have hzJ:=hJ.size;have HJ:=hid hJ;clear hK ev hd hJ;go_simp;refine HC.out.mono ?_;rintro e w'' ⟨a',rfl,ho,hb⟩;exact HK.out _ _ xzc (HJ.out.trans (hb.mono hzJ)) (⟨a',rfl,ho.base hzJ⟩) hb
  case o3=>
   have e1:tg a 1= .pointer (some ⟨w.heap.size,0,none⟩):=ev 1 xdd;have HK:=hid hK;clear hK ev hd;go_simp;exact HK.out _ _ xzc hJ rfl br
  case o4=>
   have e6:tg a 6= .pointer (some ⟨w.heap.size,15,none⟩):=(ev 6 xdd).trans (hd 3 _ xk rfl);exact wp_op_load_mid 33 (.tmp 6) (w.heap.size) 15 (ixL r A) rfl e6 Tryz.underlying33 rfl xk (bx_part (bx_below hJ (HX.out.at 1 rfl) (bx_lt (HX.out.at 1 rfl))) 15 rfl) (hK _ _ xzc hJ rfl br)
  case o5=>
   have e7:tg a 7= .agg (ixL r A).toArray:=(ev 7 xdd).trans (hd 4 _ xk rfl);have HK:=hid hK;have HC:=hid (XT.out w' (below_via hJ HB.out HB.out.size));have hzJ:=hJ.size;have HJ:=hid hJ;clear hK ev hd hJ;go_simp;refine HC.out.mono ?_;rintro e w'' ⟨A',rfl,ho,hb⟩;exact HK.out _ _ xzc (HJ.out.trans (hb.mono hzJ)) (⟨A',rfl,ho.base hzJ⟩) hb
 case fin=>
  intro u w2 hJ hG;obtain ⟨a1,h5,hp⟩:(FactR.P w0.heap.size r.c r.s).holds (u 5) w2:=hG 2 _ rfl;obtain ⟨A2,h8,hi⟩:(FactR.I w0.heap.size r).holds (u 8) w2:=hG 5 _ rfl;replace hp:=hid hp;replace hi:=hid hi;replace HX:=hid (HX.out.below hJ);replace HB:=xv hJ HB;have hz2:=hJ.size;clear hG hJ;simp only [mixFrame,mixL,dstsOf,List.take_succ_cons,List.take_zero,List.filterMap_cons,List.filterMap_nil,List.contains_cons,List.contains_nil,Nat.reduceBEq,Bool.or_false,Bool.false_or,Bool.or_true,Bool.true_or,if_true,if_false,Bool.false_eq_true,Nat.reduceAdd,Nat.zero_add,List.drop_succ_cons,List.drop_zero,h5,h8];go_wp2_with (first|(refine wpl_build2 35 0 1 (.tmp 5) (.tmp 8) (.agg (pmL r.c r.s a1).toArray) (.agg (ixL r A2).toArray) (cobL r ⟨a1,A2.ma,A2.ca,A2.mc,A2.cc⟩).toArray xk rfl rfl rfl (built_cob r a1 A2) ?_)|(refine wpl_store_row 35 (.tmp 2) (.tmp 9) (w.heap.size+1) (zcobL) (cobL r ⟨a1,A2.ma,A2.ca,A2.mc,A2.cc⟩) rfl rfl rfl rfl xk rfl (cobL_one _ _) (HX.out.at 0 rfl) ?_;intro w3 hs hx))
  exact bodyPost_ret (results_c rfl rfl (run_loadVar_many _ Tryz.underlying35 rfl xk (bx_pb hx))) rfl ⟨⟨a1,A2.ma,A2.ca,A2.mc,A2.cc⟩,rfl,OwC.of ((hp.out.row hs xo).base xo) (OwI.base (OwI.row ⟨hi.out.o5,hi.out.o6⟩ hs xo) xo) sz,HB.out.trans (hs.bel _ xo)⟩
theorem With21_c (r:CobR) (q:SlA) (w:World) (sz:SzC r)
    (PT:Hid (∀(W:World),Below w.heap.size w W→Calls Tryz.prog 24 #[.agg (pmL r.c r.s q).toArray] W (FrP W r.c r.s)))
    (BL:Hid (∀(W:World),Below w.heap.size w W→Calls Tryz.prog 44 #[.agg (slL r.s q).toArray] W (FrI W r))):
    Calls Tryz.prog 31 #[.agg (pmL r.c r.s q).toArray] w (FrC1 w r):=by
 go_enter Tryz.func31,Tryz.ntmps31
 go_upto_region 1 with (fail)
 generalize hw0:(w.alloc _).alloc _=w0;obtain ⟨hb0,hx⟩:=bxs_two (l1:=pmL r.c r.s q) (l2:=zcobL) hw0;have HX:Hid (BXs w0 [(w.heap.size+1,35,zcobL),(w.heap.size,31,pmL r.c r.s q)]):=hid hx;have HB:=hid hb0;have hz0:=hb0.size;clear hw0 hb0 hx;have hl_o:w.heap.size+1<w0.heap.size:=bx_lt (HX.out.at 0 rfl);have hl_m:w.heap.size<w0.heap.size:=bx_lt (HX.out.at 1 rfl);refine wp_region_late 5 xk (N:=9) rfl xk xk xdd (fun w'=>Below w0.heap.size w0 w') RB (factRAt [.is (.agg (pmL r.c r.s q).toArray),.P w0.heap.size r.c r.s,.is (.pointer (some ⟨w.heap.size,9,none⟩)),.is (.agg (slL r.s q).toArray),.I w0.heap.size r]) (factRAt_stays _) br.drew ?steps ?fin
 case steps=>
  refine ⟨?o0,?o1,?o2,?o3,?o4,trivial⟩<;>intro u a w' ev hJ hd K hK
  case o0=>
   have e1:tg a 1= .pointer (some ⟨w.heap.size,0,none⟩):=ev 1 xdd;exact wp_op_load_mid 31 (.tmp 1) (w.heap.size) 0 (pmL r.c r.s q) rfl e1 Tryz.underlying31 rfl xk (bx_part (bx_below hJ (HX.out.at 1 rfl) (bx_lt (HX.out.at 1 rfl))) 0 rfl) (hK _ _ xzc hJ rfl br)
  case o1=>
   have e3:tg a 3= .agg (pmL r.c r.s q).toArray:=(ev 3 xdd).trans (hd 0 _ xk rfl);have HK:=hid hK;have HC:=hid (PT.out w' (below_via hJ HB.out HB.out.size));have hzJ:=hJ.size;have HJ:=hid hJ;clear hK ev hd hJ;go_simp;refine HC.out.mono ?_;rintro e w'' ⟨a',rfl,ho,hb⟩;exact HK.out _ _ xzc (HJ.out.trans (hb.mono hzJ)) (⟨a',rfl,ho.base hzJ⟩) hb
  case o2=>
   have e1:tg a 1= .pointer (some ⟨w.heap.size,0,none⟩):=ev 1 xdd;have HK:=hid hK;clear hK ev hd;go_simp;exact HK.out _ _ xzc hJ rfl br
  case o3=>
   have e5:tg a 5= .pointer (some ⟨w.heap.size,9,none⟩):=(ev 5 xdd).trans (hd 2 _ xk rfl);exact wp_op_load_mid 29 (.tmp 5) (w.heap.size) 9 (slL r.s q) rfl e5 Tryz.underlying29 rfl xk (bx_part (bx_below hJ (HX.out.at 1 rfl) (bx_lt (HX.out.at 1 rfl))) 9 rfl) (hK _ _ xzc hJ rfl br)
  case o4=>
   have e6:tg a 6= .agg (slL r.s q).toArray:=(ev 6 xdd).trans (hd 3 _ xk rfl);have HK:=hid hK;have HC:=hid (BL.out w' (below_via hJ HB.out HB.out.size));have hzJ:=hJ.size;have HJ:=hid hJ;clear hK ev hd hJ;go_simp;refine HC.out.mono ?_;rintro e w'' ⟨A',rfl,ho,hb⟩;exact HK.out _ _ xzc (HJ.out.trans (hb.mono hzJ)) (⟨A',rfl,ho.base hzJ⟩) hb
 case fin=>
  intro u w2 hJ hG;obtain ⟨a1,h4,hp⟩:(FactR.P w0.heap.size r.c r.s).holds (u 4) w2:=hG 1 _ rfl;obtain ⟨A2,h7,hi⟩:(FactR.I w0.heap.size r).holds (u 7) w2:=hG 4 _ rfl;replace hp:=hid hp;replace hi:=hid hi;replace HX:=hid (HX.out.below hJ);replace HB:=xv hJ HB;have hz2:=hJ.size;clear hG hJ;simp only [mixFrame,mixL,dstsOf,List.take_succ_cons,List.take_zero,List.filterMap_cons,List.filterMap_nil,List.contains_cons,List.contains_nil,Nat.reduceBEq,Bool.or_false,Bool.false_or,Bool.or_true,Bool.true_or,if_true,if_false,Bool.false_eq_true,Nat.reduceAdd,Nat.zero_add,List.drop_succ_cons,List.drop_zero,h4,h7];go_wp2_with (first|(refine wpl_build2 35 0 1 (.tmp 4) (.tmp 7) (.agg (pmL r.c r.s a1).toArray) (.agg (ixL r A2).toArray) (cobL r ⟨a1,A2.ma,A2.ca,A2.mc,A2.cc⟩).toArray xk rfl rfl rfl (built_cob r a1 A2) ?_)|(refine wpl_store_row 35 (.tmp 2) (.tmp 8) (w.heap.size+1) (zcobL) (cobL r ⟨a1,A2.ma,A2.ca,A2.mc,A2.cc⟩) rfl rfl rfl rfl xk rfl (cobL_one _ _) (HX.out.at 0 rfl) ?_;intro w3 hs hx))
  exact bodyPost_ret (results_c rfl rfl (run_loadVar_many _ Tryz.underlying35 rfl xk (bx_pb hx))) rfl ⟨⟨a1,A2.ma,A2.ca,A2.mc,A2.cc⟩,rfl,OwC.of ((hp.out.row hs xo).base xo) (OwI.base (OwI.row ⟨hi.out.o5,hi.out.o6⟩ hs xo) xo) sz,HB.out.trans (hs.bel _ xo)⟩
theorem ixL_one (r:CobR) (A:CobA):(ixL r A).toArray.all (·.oneCell')=true:=by simp [ixL,Value.oneCell']
theorem cbOf_c (r:CobR) (q:SlA) (w:World) (sz:SzC r)
    (PC:Hid (∀(W:World),Below w.heap.size w W→Calls Tryz.prog 40 #[.agg (pmL r.c r.s q).toArray] W (AnsB W (.int .i64 0))))
    (BD:Hid (∀(W:World),Below w.heap.size w W→Calls Tryz.prog 54 #[.agg (slL r.s q).toArray] W (FrI2 W r 0)))
    (PT:Hid (∀(W:World),Below w.heap.size w W→Calls Tryz.prog 26 #[.agg (pmL r.c r.s q).toArray] W (FrP W r.c r.s))):
    Calls Tryz.prog 29 #[.agg (pmL r.c r.s q).toArray] w (FrC w r 0):=by
 go_enter Tryz.func29,Tryz.ntmps29
 go_upto_region 1 with (fail)
 generalize hw0:(w.alloc _).alloc _=w0;obtain ⟨hb0,hx⟩:=bxs_two (l1:=pmL r.c r.s q) (l2:=zcobL) hw0;have HX:Hid (BXs w0 [(w.heap.size+1,35,zcobL),(w.heap.size,31,pmL r.c r.s q)]):=hid hx;have HB:=hid hb0;have hz0:=hb0.size;clear hw0 hb0 hx;have hl_o:w.heap.size+1<w0.heap.size:=bx_lt (HX.out.at 0 rfl);have hl_p:w.heap.size<w0.heap.size:=bx_lt (HX.out.at 1 rfl);go_wp2_with (first|(refine wpl_load 31 (.tmp 1) (w.heap.size) (pmL r.c r.s q) xk rfl rfl Tryz.underlying31 rfl xk (bx_pb (HX.out.at 1 rfl)) ?_))
 refine (PC.out _ HB.out).mono ?_;rintro e w1 ⟨rfl,hb⟩;replace HX:=hid (HX.out.below hb);replace HB:=xv hb HB;have hz1:=hb.size;clear hb;go_wp2_with (first|(refine wpl_load_mid 29 (.tmp 14) (w.heap.size) 9 (slL r.s q) xk rfl rfl Tryz.underlying29 rfl xk (bx_part (HX.out.at 1 rfl) 9 rfl) ?_))
 refine (BD.out _ HB.out).mono ?_;rintro e w2 ⟨A2,rfl,ho,hb⟩;replace HX:=hid (HX.out.below hb);replace HB:=xv hb HB;have hz2:=hb.size;have HI:=hid ho;clear ho hb;go_upto_region 5 with (first|(refine wpl_store_new 33 (.tmp 5) (.tmp 17) (zixL).toArray (ixL r A2).toArray rfl rfl rfl rfl xk rfl (ixL_one _ _) ?_))
 have hx:=bx_new w2 (ixL r A2) 33;have hb:=(Below.refl w2.heap.size w2).alloc (Nat.le_refl _) (.cells (ixL r A2).toArray 33);generalize w2.alloc _=w3 at *;replace HX:=hid (HX.out.below hb);replace HB:=xv hb HB;have hz3:=hb.size;replace HI:=hid (HI.out.below hb);have hl_x:=bx_lt hx;replace HX:=hid (HX.out.cons' hx);clear hx hb;go_upto_region 7 with (fail)
 refine wp_region_late 3 xk (N:=27) rfl xk xk xdd (fun w'=>Below w3.heap.size w3 w') RB (factRAt [.is (.agg (pmL r.c r.s q).toArray),.P w3.heap.size r.c r.s,.is (.agg (ixL r A2).toArray)]) (factRAt_stays _) br.drew ?steps ?fin
 case steps=>
  refine ⟨?o0,?o1,?o2,trivial⟩<;>intro u a w' ev hJ hd K hK
  case o0=>
   have e1:tg a 1= .pointer (some ⟨w.heap.size,0,none⟩):=ev 1 xdd;exact wp_op_load_mid 31 (.tmp 1) (w.heap.size) 0 (pmL r.c r.s q) rfl e1 Tryz.underlying31 rfl xk (bx_part (bx_below hJ (HX.out.at 2 rfl) (bx_lt (HX.out.at 2 rfl))) 0 rfl) (hK _ _ xzc hJ rfl br)
  case o1=>
   have e23:tg a 23= .agg (pmL r.c r.s q).toArray:=(ev 23 xdd).trans (hd 0 _ xk rfl);have HK:=hid hK;have HC:=hid (PT.out w' (below_via hJ HB.out HB.out.size));have hzJ:=hJ.size;have HJ:=hid hJ;clear hK ev hd hJ;go_simp;refine HC.out.mono ?_;rintro e w'' ⟨a',rfl,ho,hb⟩;exact HK.out _ _ xzc (HJ.out.trans (hb.mono hzJ)) (⟨a',rfl,ho.base hzJ⟩) hb
  case o2=>
   have e5:tg a 5= .pointer (some ⟨w2.heap.size,0,none⟩):=ev 5 xdd;exact wp_op_load_mid 33 (.tmp 5) (w2.heap.size) 0 (ixL r A2) rfl e5 Tryz.underlying33 rfl xk (bx_part (bx_below hJ (HX.out.at 0 rfl) (bx_lt (HX.out.at 0 rfl))) 0 rfl) (hK _ _ xzc hJ rfl br)
 case fin=>
  intro u w4 hJ hG;have h25:u 25= .agg (ixL r A2).toArray:=hG 2 _ rfl;obtain ⟨a1,h24,hp⟩:(FactR.P w3.heap.size r.c r.s).holds (u 24) w4:=hG 1 _ rfl;replace hp:=hid hp;replace HX:=hid (HX.out.below hJ);replace HB:=xv hJ HB;replace HI:=hid (HI.out.below hJ);have hz4:=hJ.size;clear hG hJ;simp only [mixFrame,mixL,dstsOf,List.take_succ_cons,List.take_zero,List.filterMap_cons,List.filterMap_nil,List.contains_cons,List.contains_nil,Nat.reduceBEq,Bool.or_false,Bool.false_or,Bool.or_true,Bool.true_or,if_true,if_false,Bool.false_eq_true,Nat.reduceAdd,Nat.zero_add,List.drop_succ_cons,List.drop_zero,h24,h25];go_wp2_with (first|(refine wpl_build2 35 0 1 (.tmp 24) (.tmp 25) (.agg (pmL r.c r.s a1).toArray) (.agg (ixL r A2).toArray) (cobL r ⟨a1,A2.ma,A2.ca,A2.mc,A2.cc⟩).toArray xk rfl rfl rfl (built_cob r a1 A2) ?_)|(refine wpl_store_row 35 (.tmp 2) (.tmp 26) (w.heap.size+1) (zcobL) (cobL r ⟨a1,A2.ma,A2.ca,A2.mc,A2.cc⟩) rfl rfl rfl rfl xk rfl (cobL_one _ _) (HX.out.at 1 rfl) ?_;intro w5 hs hx))
  exact bodyPost_ret (results_ct rfl rfl (run_loadVar_many _ Tryz.underlying35 rfl xk (bx_pb hx))) rfl ⟨⟨a1,A2.ma,A2.ca,A2.mc,A2.cc⟩,rfl,OwC.of ((hp.out.row hs xo).base xo) (OwI.base (OwI.row ⟨HI.out.o5,HI.out.o6⟩ hs xo) xo) sz,HB.out.trans (hs.bel _ xo)⟩
theorem OwC.upto {w':World} {B M M':Nat} {r:CobR} {A:CobA} (h:OwC w' B M r A) (hs:M'=M):OwC w' B M' r A:=hs ▸ h
theorem cbNew_e (c d:Cfg) (s:SlC) (w:World) (e:Int) (he:e≠0)
    (PN:Hid (∀(W:World),Below w.heap.size w W→Calls Tryz.prog 28 #[.agg (cfL c).toArray] W (FrP2 W d s e))):
    Calls Tryz.prog 7 #[.agg (cfL c).toArray] w (FrC w nilR e):=by
 have ge:(e != 0)=true:=by simpa using he
 clear he;go_enter Tryz.func7,Tryz.ntmps7
 go_upto_region 1 with (fail)
 generalize hw0:(w.alloc _).alloc _=w0;obtain ⟨hb0,hx⟩:=bxs_two (l1:=cfL c) (l2:=zcobL) hw0;have HX:Hid (BXs w0 [(w.heap.size+1,35,zcobL),(w.heap.size,23,cfL c)]):=hid hx;have HB:=hid hb0;have hz0:=hb0.size;clear hw0 hb0 hx;have hl_o:w.heap.size+1<w0.heap.size:=bx_lt (HX.out.at 0 rfl);have hl_c:w.heap.size<w0.heap.size:=bx_lt (HX.out.at 1 rfl);go_wp2_with (first|(refine wpl_load 23 (.tmp 1) (w.heap.size) (cfL c) xk rfl rfl Tryz.underlying23 rfl xk (bx_pb (HX.out.at 1 rfl)) ?_))
 refine (PN.out _ HB.out).mono ?_;rintro e w1 ⟨a,rfl,ho,hb⟩;replace HX:=hid (HX.out.below hb);replace HB:=xv hb HB;have hz1:=hb.size;have HP:=hid ho;clear ho hb;go_upto_region 2 with (first|(refine wpl_store_new 31 (.tmp 4) (.tmp 9) (zpmL).toArray (pmL d s a).toArray rfl rfl rfl rfl xk rfl (pmL_one _ _ _) ?_))
 have hx:=bx_new w1 (pmL d s a) 31;have hb:=(Below.refl w1.heap.size w1).alloc (Nat.le_refl _) (.cells (pmL d s a).toArray 31);generalize w1.alloc _=w2 at *;replace HX:=hid (HX.out.below hb);replace HB:=xv hb HB;have hz2:=hb.size;replace HP:=hid (HP.out.below hb);have hl_p:=bx_lt hx;replace HX:=hid (HX.out.cons' hx);clear hx hb;go_wp2_with (first|(refine wpl_store_row 35 (.tmp 2) (.tmp 13) (w.heap.size+1) (zcobL) (cobL nilR nilA) rfl rfl rfl rfl xk rfl (cobL_one _ _) (HX.out.at 1 rfl) ?_;intro w3 hs hx))
 exact bodyPost_ret (results_ct rfl rfl (run_loadVar_many _ Tryz.underlying35 rfl xk (bx_pb hx))) rfl ⟨nilA,rfl,owc_nil _ _ _,HB.out.trans (hs.bel _ xo)⟩
theorem cbNew_c (c d:Cfg) (s:SlC) (w:World) (r:CobR) (x:Int)
    (PN:Hid (∀(W:World),Below w.heap.size w W→Calls Tryz.prog 28 #[.agg (cfL c).toArray] W (FrP2 W d s 0)))
    (OF:Hid (∀(W:World) (a:SlA),Below w.heap.size w W→OwP W w.heap.size s a→Calls Tryz.prog 29 #[.agg (pmL d s a).toArray] W (FrC W r x))):
    Calls Tryz.prog 7 #[.agg (cfL c).toArray] w (FrC w r x):=by
 go_enter Tryz.func7,Tryz.ntmps7
 go_upto_region 1 with (fail)
 generalize hw0:(w.alloc _).alloc _=w0;obtain ⟨hb0,hx⟩:=bxs_two (l1:=cfL c) (l2:=zcobL) hw0;have HX:Hid (BXs w0 [(w.heap.size+1,35,zcobL),(w.heap.size,23,cfL c)]):=hid hx;have HB:=hid hb0;have hz0:=hb0.size;clear hw0 hb0 hx;have hl_o:w.heap.size+1<w0.heap.size:=bx_lt (HX.out.at 0 rfl);have hl_c:w.heap.size<w0.heap.size:=bx_lt (HX.out.at 1 rfl);go_wp2_with (first|(refine wpl_load 23 (.tmp 1) (w.heap.size) (cfL c) xk rfl rfl Tryz.underlying23 rfl xk (bx_pb (HX.out.at 1 rfl)) ?_))
 refine (PN.out _ HB.out).mono ?_;rintro e w1 ⟨a,rfl,ho,hb⟩;replace HX:=hid (HX.out.below hb);replace HB:=xv hb HB;have hz1:=hb.size;have HP:=hid ho;clear ho hb;go_upto_region 2 with (first|(refine wpl_store_new 31 (.tmp 4) (.tmp 9) (zpmL).toArray (pmL d s a).toArray rfl rfl rfl rfl xk rfl (pmL_one _ _ _) ?_))
 have hx:=bx_new w1 (pmL d s a) 31;have hb:=(Below.refl w1.heap.size w1).alloc (Nat.le_refl _) (.cells (pmL d s a).toArray 31);generalize w1.alloc _=w2 at *;replace HX:=hid (HX.out.below hb);replace HB:=xv hb HB;have hz2:=hb.size;replace HP:=hid (HP.out.below hb);have hl_p:=bx_lt hx;replace HX:=hid (HX.out.cons' hx);clear hx hb;go_wp2_with (first|(refine wpl_load 31 (.tmp 4) (w1.heap.size) (pmL d s a) xk rfl rfl Tryz.underlying31 rfl xk (bx_pb (HX.out.at 0 rfl)) ?_))
 refine (OF.out _ a HB.out (HP.out.base xo)).mono ?_;rintro e w3 ⟨A,rfl,ho,hb⟩;replace HX:=hid (HX.out.below hb);replace HB:=xv hb HB;have hz3:=hb.size;replace HP:=hid (HP.out.below hb);have hzz:=hz3;clear hb;go_wp2_with (first|(refine wpl_store_row 35 (.tmp 2) (.tmp 17) (w.heap.size+1) (zcobL) (cobL r A) rfl rfl rfl rfl xk rfl (cobL_one _ _) (HX.out.at 1 rfl) ?_;intro w4 hs hx))
 exact bodyPost_ret (results_ct rfl rfl (run_loadVar_many _ Tryz.underlying35 rfl xk (bx_pb hx))) rfl ⟨A,rfl,(ho.row hs xo).base xo |>.upto hs.size,HB.out.trans (hs.bel _ xo)⟩
theorem New21_e (c:Cfg) (w:World) (e:Int) (he:e≠0)
    (CK:Hid (∀(W:World),Below w.heap.size w W→Calls Tryz.prog 30 #[.agg (cfL c).toArray] W (AnsB W (.int .i64 e)))):
    Calls Tryz.prog 8 #[.agg (cfL c).toArray] w (FrC w nilR e):=by
 have ge:(e != 0)=true:=by simpa using he
 clear he;go_enter Tryz.func8,Tryz.ntmps8
 go_upto_region 1 with (fail)
 generalize hw0:(w.alloc _).alloc _=w0;obtain ⟨hb0,hx⟩:=bxs_two (l1:=cfL c) (l2:=zcobL) hw0;have HX:Hid (BXs w0 [(w.heap.size+1,35,zcobL),(w.heap.size,23,cfL c)]):=hid hx;have HB:=hid hb0;have hz0:=hb0.size;clear hw0 hb0 hx;have hl_o:w.heap.size+1<w0.heap.size:=bx_lt (HX.out.at 0 rfl);have hl_c:w.heap.size<w0.heap.size:=bx_lt (HX.out.at 1 rfl);go_wp2_with (first|(refine wpl_load 23 (.tmp 1) (w.heap.size) (cfL c) xk rfl rfl Tryz.underlying23 rfl xk (bx_pb (HX.out.at 1 rfl)) ?_))
 refine (CK.out _ HB.out).mono ?_;rintro e w1 ⟨rfl,hb⟩;replace HX:=hid (HX.out.below hb);replace HB:=xv hb HB;have hz1:=hb.size;clear hb;go_wp2_with (first|(refine wpl_store_row 35 (.tmp 2) (.tmp 9) (w.heap.size+1) (zcobL) (cobL nilR nilA) rfl rfl rfl rfl xk rfl (cobL_one _ _) (HX.out.at 0 rfl) ?_;intro w3 hs hx))
 exact bodyPost_ret (results_ct rfl rfl (run_loadVar_many _ Tryz.underlying35 rfl xk (bx_pb hx))) rfl ⟨nilA,rfl,owc_nil _ _ _,HB.out.trans (hs.bel _ xo)⟩
theorem New21_c (c:Cfg) (s:SlC) (w:World) (r:CobR)
    (CK:Hid (∀(W:World),Below w.heap.size w W→Calls Tryz.prog 30 #[.agg (cfL c).toArray] W (AnsB W (.int .i64 0))))
    (EM:Hid (∀(W:World),Below w.heap.size w W→Calls Tryz.prog 32 #[.agg (cfL c).toArray] W (FrP W c s)))
    (WI:Hid (∀(W:World) (a:SlA),Below w.heap.size w W→OwP W w.heap.size s a→Calls Tryz.prog 31 #[.agg (pmL c s a).toArray] W (FrC1 W r))):
    Calls Tryz.prog 8 #[.agg (cfL c).toArray] w (FrC w r 0):=by
 go_enter Tryz.func8,Tryz.ntmps8
 go_upto_region 1 with (fail)
 generalize hw0:(w.alloc _).alloc _=w0;obtain ⟨hb0,hx⟩:=bxs_two (l1:=cfL c) (l2:=zcobL) hw0;have HX:Hid (BXs w0 [(w.heap.size+1,35,zcobL),(w.heap.size,23,cfL c)]):=hid hx;have HB:=hid hb0;have hz0:=hb0.size;clear hw0 hb0 hx;have hl_o:w.heap.size+1<w0.heap.size:=bx_lt (HX.out.at 0 rfl);have hl_c:w.heap.size<w0.heap.size:=bx_lt (HX.out.at 1 rfl);go_wp2_with (first|(refine wpl_load 23 (.tmp 1) (w.heap.size) (cfL c) xk rfl rfl Tryz.underlying23 rfl xk (bx_pb (HX.out.at 1 rfl)) ?_))
 refine (CK.out _ HB.out).mono ?_;rintro e w1 ⟨rfl,hb⟩;replace HX:=hid (HX.out.below hb);replace HB:=xv hb HB;have hz1:=hb.size;clear hb;go_wp2_with (first|(refine wpl_load 23 (.tmp 1) (w.heap.size) (cfL c) xk rfl rfl Tryz.underlying23 rfl xk (bx_pb (HX.out.at 1 rfl)) ?_))
 refine (EM.out _ HB.out).mono ?_;rintro e w2 ⟨a,rfl,ho,hb⟩;replace HX:=hid (HX.out.below hb);replace HB:=xv hb HB;have hz2:=hb.size;have HP:=hid ho;clear ho hb;go_wp2_with (fail)
 refine (WI.out _ a HB.out (HP.out.base xo)).mono ?_;rintro e w3 ⟨A,rfl,ho,hb⟩;replace HX:=hid (HX.out.below hb);replace HB:=xv hb HB;have hz3:=hb.size;replace HP:=hid (HP.out.below hb);have hzz:=hz3;clear hb;go_wp2_with (first|(refine wpl_store_row 35 (.tmp 2) (.tmp 13) (w.heap.size+1) (zcobL) (cobL r A) rfl rfl rfl rfl xk rfl (cobL_one _ _) (HX.out.at 0 rfl) ?_;intro w4 hs hx))
 exact bodyPost_ret (results_ct rfl rfl (run_loadVar_many _ Tryz.underlying35 rfl xk (bx_pb hx))) rfl ⟨A,rfl,(ho.row hs xo).base xo |>.upto hs.size,HB.out.trans (hs.bel _ xo)⟩
theorem cTwin (r:CobR) (A:CobA) (w:World) (h:InC w r A):Calls Tryz.prog 6 #[cobV r A] w (FrC1 w r):=by
 refine cbTwin_c r A w h.sz (hid fun W hB=> ?_) (hid fun W hB=> ?_)
 · exact (pmaTwin_ok r.c r.s A.sa.wa A.sa.ka A.sa.va A.sa.ca A.sa.wc A.sa.kc A.sa.vc A.sa.cc W (hid fun W' hB'=>slTwin_ok r.s A.sa W' ((h.sl.below hB).below hB') h.sz.w h.sz.k h.sz.v (Nat.le_trans h.sz.c xdd))).mono fun _ _ q=>frPN_of r.c r.s q
 · exact (Twin_ix r.l A.ma A.ca A.mc A.cc r.ms r.cs W (h.m.below hB) (h.n.below hB) h.sz.m h.sz.n).mono fun _ _ q=>frI_of r q
theorem tw11 (c:Cfg) (s:SlC) (a:SlA) (w:World) (h:SlIn w s a) (h1:s.ws.length≤100000) (h2:s.ks.length≤100000) (h3:s.vs.length≤100000) (h4:s.cs.length≤100000) (z:CapsZ a):Calls Tryz.prog 24 #[.agg (pmL c s a).toArray] w (FrP w c s):=
  (Twin11_ok c s a.wa a.ka a.va a.ca a.wc a.kc a.vc a.cc w (hid fun W hB=>Twin4_ok s a W (h.below hB) h1 h2 h3 h4 z.1 z.2.1 z.2.2.1 z.2.2.2)).mono fun _ _ q=>frP_of c s q
theorem rTwin (r:CobR) (A:CobA) (w:World) (h:InC w r A) (z:CapsZ A.sa) (z1:A.ma=none→A.mc=0) (z2:A.ca=none→A.cc=0):Calls Tryz.prog 5 #[cobV r A] w (FrC1 w r):=by
 refine Twin21_c r A w h.sz (hid fun W hB=>tw11 r.c r.s A.sa W (h.sl.below hB) h.sz.w h.sz.k h.sz.v (Nat.le_trans h.sz.c xdd) z) (hid fun W hB=> ?_);exact (Twin18_ok r.l A.ma A.ca A.mc A.cc r.ms r.cs W (h.m.below hB) (h.n.below hB) h.sz.m h.sz.n (fun e=>⟨by have:=h.m;rw [e] at this;rw [row_none this];rfl,z1 e⟩) (fun e=>⟨by have:=h.n;rw [e] at this;rw [row_none this];rfl,z2 e⟩)).mono fun _ _ q=>frI_of r q
theorem caps_own {w:World} {B:Nat} {s:SlC} {a:SlA} (h:OwP w B s a):CapsZ a:=by
 obtain ⟨y,m,hy,-,-,n1,-,-⟩:=row_of_owns h.o1;cases hy;obtain ⟨y,m,hy,-,-,n2,-,-⟩:=row_of_owns h.o2;cases hy;obtain ⟨y,m,hy,-,-,n3,-,-⟩:=row_of_owns h.o3;cases hy;obtain ⟨y,m,hy,-,-,n4,-,-⟩:=row_of_owns h.o4;cases hy;exact ⟨fun e=>(n1 e).2,fun e=>(n2 e).2,fun e=>(n3 e).2,fun e=>(n4 e).2⟩
def ofR (c:Cfg) (s:SlC):CobR:=⟨c,s,bldL s,bldM s,bldC s⟩
theorem sz_of (c:Cfg) (s:SlC) (h1:s.ws.length≤100000) (h2:s.ks.length≤100000) (h3:s.vs.length≤100000) (h4:s.cs.length≤8192) (hu:U64s s.ws):SzC (ofR c s):=⟨h1,h2,h3,h4,(bld_len s).1,(bld_len s).2,hu⟩
theorem cOf {c:Cfg} {s:SlC} (hp:pmE c s=0) (a:SlA) (w:World) (h:SlIn w s a) (hc:s.cs.length≤a.cc) (sz:SzC (ofR c s)):Calls Tryz.prog 29 #[.agg (pmL c s a).toArray] w (FrC w (ofR c s) 0):=by
 have h8:s.cs.length≤8192:=sz.c;have h1:s.ws.length≤100000:=sz.w;have h2:s.ks.length≤100000:=sz.k;have h3:s.vs.length≤100000:=sz.v;have hb:=pm_bld hp h8;refine cbOf_c (ofR c s) a w sz (hid fun W hB=> ?_) (hid fun W hB=> ?_) (hid fun W hB=> ?_)
 · have:=pmaCheck_ok c s a (Nat.le_trans h1 xdd) (Nat.le_trans h2 xdd) hc W (h.below hB);rw [hp] at this;exact this
 · refine (BuildIx_ok s a (Nat.le_trans h1 xdd) (Nat.le_trans h2 xdd) W (h.below hB)).mono fun _ _ q=>frI2_of (ofR c s) 0 ?_
   rw [hb] at q;exact q
 · exact (pmaTwin_ok c s a.wa a.ka a.va a.ca a.wc a.kc a.vc a.cc W (hid fun W' hB'=>slTwin_ok s a W' ((h.below hB).below hB') h1 h2 h3 (Nat.le_trans h8 xdd))).mono fun _ _ q=>frPN_of c s q
theorem rWith {c:Cfg} {s:SlC} (hp:pmE c s=0) (a:SlA) (w:World) (h:SlIn w s a) (sz:SzC (ofR c s)) (z:CapsZ a):Calls Tryz.prog 31 #[.agg (pmL c s a).toArray] w (FrC1 w (ofR c s)):=by
 have h8:s.cs.length≤8192:=sz.c;refine With21_c (ofR c s) a w sz (hid fun W hB=>tw11 c s a W (h.below hB) sz.w sz.k sz.v (Nat.le_trans h8 xdd) z) (hid fun W hB=> ?_);exact cBuilt (r:=ofR c s) (A:=⟨a,none,none,0,0⟩) hp (h.below hB) h8
def newR (c:Cfg):CobR:=if cfMay c=true then ofR c (newC c) else nilR
theorem new_sz {c:Cfg} (h:cfMay c=true):SzC (ofR c (newC c)):=by
 obtain ⟨n1,n2,n3,n4,u⟩:=new_nums9 c;have hn:newC c=emptyC c:=by rw [newC,if_pos h]
 obtain ⟨d0,d1,d2,d3,d4,d5,d6,d7,d8,d9,d10,d11,d12,d13,d14,d15,d16,d17⟩:=cfHead_num (cfMay_head h);have h1:=Nat.mul_div_le c.least.toNat c.seg.toNat;have h2:=Nat.div_le_self c.least.toNat c.seg.toNat;have hl:c.least.toNat≤256:=xo;refine sz_of c _ ?_ ?_ ?_ ?_ u<;>rw [hn]<;>simp only [emptyC,emptyL,List.length_replicate]<;>omega
theorem cNew (c:Cfg) (w:World):Calls Tryz.prog 7 #[.agg (cfL c).toArray] w (FrC w (newR c) (cfE c)):=by
 by_cases h:cfMay c=true
 · have hn:newR c=ofR c (newC c):=if_pos h;rw [hn,cfE_ok h];have sz:=new_sz h;refine cbNew_c c c (newC c) w (ofR c (newC c)) 0 (hid fun W hB=> ?_) (hid fun W a hB ho=> ?_)
   · have:=pmaNew_ok c W;rw [newF,if_pos h,cfE_ok h] at this;exact this.mono fun _ _ q=>frP2_of c (newC c) 0 q
   · obtain ⟨i1,i2⟩:=ho.sl sz.u;exact cOf (new_may h).1 a W i1 i2 sz
 · have e:cfE c=50:=by simp [cfE,h]
   have hn:newR c=nilR:=if_neg h;rw [hn,e];refine cbNew_e c (newF c) (newC c) w 50 xdd (hid fun W hB=> ?_);have:=pmaNew_ok c W;rw [e] at this;exact this.mono fun _ _ q=>frP2_of (newF c) (newC c) 50 q
theorem rNew (c:Cfg) (w:World):Calls Tryz.prog 8 #[.agg (cfL c).toArray] w (FrC w (newR c) (cfE c)):=by
 by_cases h:cfMay c=true
 · have hn:newR c=ofR c (newC c):=if_pos h;rw [hn,cfE_ok h];have sz:=new_sz h;refine New21_c c (newC c) w (ofR c (newC c)) (hid fun W hB=> ?_) (hid fun W hB=> ?_) (hid fun W a hB ho=> ?_)
   · have:=Check05_ok c W;rw [cfE_ok h] at this;exact this
   · rw [show newC c=emptyC c by rw [newC,if_pos h]];exact (Empty11_ok c (emptyC c) W (hid fun W'=>emptySl_ok h W')).mono fun _ _ q=>frP_of c (emptyC c) q
   · obtain ⟨i1,i2⟩:=ho.sl sz.u;exact rWith (new_may h).1 a W i1 sz (caps_own ho)
 · have e:cfE c=50:=by simp [cfE,h]
   have hn:newR c=nilR:=if_neg h;rw [hn,e];refine New21_e c w 50 xdd (hid fun W hB=> ?_);have:=Check05_ok c W;rw [e] at this;exact this
end
section
open Go.RowKit Go.Shelf Go.Sort
def KpC (W W':World):Prop:=∀(k:Nat) (o:Obj),W.heap[k]? =some o→o.isCells=true→W'.heap[k]? =some o
theorem KpC.cell {W W':World} (h:KpC W W') {a:Addr} {v:Value} (hc:W.cell? a=some v):W'.cell? a=some v:=by
 obtain ⟨o,ho,hoc⟩:=cells_of_cell hc;rw [World.cell?_of_block (w:=W) ((h _ _ ho hoc).trans ho.symm)];exact hc
theorem KpC.trans {A B C:World} (h:KpC A B) (k:KpC B C):KpC A C:=fun q o h1 h2=>k q o (h q o h1 h2) h2
theorem KpC.below {W W':World} (h:Below W.heap.size W W'):KpC W W':=fun k o hk _=>(h.block k (Array.getElem?_eq_some_iff.1 hk).1).trans hk
theorem KpC.row {W W':World} (h:KpC W W') {k:IntKind} {a:Option Addr} {xs:List Int} (hi:IsRow k W a xs):IsRow k W' a xs:=by
 intro i hl;obtain ⟨b,off,ha,hlt,hc⟩:=hi i hl;have h0:=h.cell (hc i hl);exact ⟨b,off,ha,World.block_lt_of_cell? _ _ h0,fun j hj=>h.cell (hc j hj)⟩
theorem BXs.kpc {w w':World} {l:List (Nat×TypeId×List Value)} (h:BXs w l) (k:KpC w w'):BXs w' l:=by
 induction l with
 | nil=>trivial
 | cons y l ih=>exact ⟨k _ _ h.1 rfl,ih h.2⟩
theorem BXs.calm {B:Nat} {w w':World} {l:List (Nat×TypeId×List Value)} (h:BXs w l) (k:Calm B w w'):BXs w' l:=h.kpc k.cells
def leafX (L:List (Int×Int)):List (Array Value):=(List.range L.length).map fun (k:Nat)=> #[.int .i64 (k:Int),.agg #[.int .i64 (L.getD k (0,0)).1,.int .i64 (L.getD k (0,0)).2]]
theorem leafX_length (L:List (Int×Int)):(leafX L).length=L.length:=by simp [leafX]
theorem leafX_get (L:List (Int×Int)) {k:Nat} (h:k<L.length):(leafX L).getD k #[]= #[.int .i64 (k:Int),.agg #[.int .i64 (L.getD k (0,0)).1,.int .i64 (L.getD k (0,0)).2]]:=by
 rw [List.getD_eq_getElem?_getD,leafX,List.getElem?_map,List.getElem?_range h];rfl
def zslL:List Value:=[.int .i64 0,.slice none 0 0,.slice none 0 0,.slice none 0 0,.slice none 0 0,.int .u64 0]
theorem slL_one (s:SlC) (a:SlA):(slL s a).toArray.all (·.oneCell')=true:=by simp [slL,Value.oneCell']
theorem leaf1_iter (r:CobR) (A:CobA) (i:Nat) (sg lo hi:Int) (L:List (Int×Int)) (hL:L.length≤100000) (hsg:r.s.seg=sg) (hlo:(i:Int)*sg=lo) (hhi:((i:Int)+1)*sg=hi) (hi0:i≤65536) (h0:0≤lo) (h1:lo≤65536) (h2:0≤hi) (h3:hi≤65536) (b1 b2 bu:Nat) (w:World)
    (c1:w.cell? ⟨b1,0,none⟩=some (.pointer (some ⟨bu,0,none⟩))) (c2:w.cell? ⟨b2,0,none⟩=some (.int .i64 i)) (hx:BX w bu 76 (cobL r A))
    (PR:Hid (∀(W:World),Below w.heap.size w W→Calls Tryz.prog 63 #[.agg (slL r.s A.sa).toArray,.int .i64 lo,.int .i64 hi] W (FreshPr2 W L (.int .i64 0)))):
    Iter Tryz.prog 62 #[.pointer (some ⟨b1,0,none⟩),.pointer (some ⟨b2,0,none⟩)] (leafX L) KpC w:=by
 intro l J Jx W hW hJ hJx hY h0;have HX:Hid (BXs W [(bu,76,cobL r A)]):=hid ⟨bx_below hW hx (bx_lt hx),trivial⟩;have q1:=(hW.cell (World.block_lt_of_cell? _ _ c1)).trans c1;have q2:=(hW.cell (World.block_lt_of_cell? _ _ c2)).trans c2;have HB0:=hid hW;have HY:=hid hY;have HJ:=hid hJ;have HH0:=hid h0;have HLN:=hid (leafX_length L);have HGT:=hid (fun k (h:k<L.length)=>leafX_get L h);have m1:IntKind.i64.wrap ((i:Int)*sg)=lo:=by rw [hlo];exact IntWalk.i64_in _ xo
 have m2:IntKind.i64.wrap ((i:Int)+1)=(i:Int)+1:=IntWalk.i64_in _ xo;have m3:IntKind.i64.wrap (((i:Int)+1)*sg)=hi:=by rw [hhi];exact IntWalk.i64_in _ xo
 clear hW hJ hJx hY h0 c1 c2 hx hlo hhi;generalize leafX L=xs at *;refine callsIn_of_wp Tryz.func62 rfl trivial ?_ rfl;simp only [Tryz.ntmps62,List.size_toArray,List.length_cons,List.length_nil,Nat.reduceAdd,Nat.reduceSub,Array.replicate_succ,Array.replicate_zero,List.push_toArray,List.append_toArray,List.nil_append,List.cons_append];refine wpIn_wide.2 ?_;have HB:=hid (Below.refl W.heap.size W);go_upto_region 1 with (first|(refine wpl_load_mid 29 (.tmp 13) (bu) 9 (slL r.s A.sa) xk rfl rfl Tryz.underlying29 rfl xk (bx_part (HX.out.at 0 rfl) 9 rfl) ?_)|(refine wpl_store_new 29 (.tmp 4) (.tmp 14) (zslL).toArray (slL r.s A.sa).toArray rfl rfl rfl rfl xk rfl (slL_one _ _) ?_))
 have hx:=bx_new W (slL r.s A.sa) 29;have hb:=(Below.refl W.heap.size W).alloc (Nat.le_refl _) (.cells (slL r.s A.sa).toArray 29);generalize W.alloc _=w1 at *;replace HX:=hid (HX.out.below hb);replace HB:=xv hb HB;have hz1:=hb.size;have hl_s:=bx_lt hx;replace HX:=hid (HX.out.cons' hx);clear hx hb;have e1:w1.cell? ⟨W.heap.size,0,none⟩=some (.int .i64 sg):=hsg ▸ bx_pb (HX.out.at 0 rfl) 0 _ rfl;replace q2:=(HB.out.cell (World.block_lt_of_cell? _ _ q2)).trans q2;clear q1;go_wp2_with (first|(refine wpl_load 29 (.tmp 4) (W.heap.size) (slL r.s A.sa) xk rfl rfl Tryz.underlying29 rfl xk (bx_pb (HX.out.at 0 rfl)) ?_))
 refine (PR.out _ (below_via HB.out HB0.out HB0.out.size)).mono ?_;rintro e w2 ⟨v,rfl,ho,hb⟩;replace HX:=hid (HX.out.below hb);replace HB:=xv hb HB;have hz2:=hb.size;obtain ⟨la,pl,rfl,hla,-⟩:=row_of_owns ho;have HR:=hid hla;clear e1 q2 ho hla hb HX m1 m2 m3;have HJ2:=hid (HJ.out _ _ _ HH0.out HB.out);go_wp2
 refine wpIn_wide (n:=0).1 ?_;gi_loopg [31] L.length (fun g iv wr=>∃k:Nat,k+g=L.length∧iv= .int .i64 k∧Hid (J k wr)∧Hid (IsRow .i64 wr la (prI L)))
 case atStart=>exact ⟨0,by omega,rfl,HJ2,HR⟩
 case round=>
  obtain ⟨k,hk,rfl,HJ0,HRK⟩:=hrel;by_cases hlt:k<L.length
  · obtain ⟨bl,ol,rfl,e0,e1,zl⟩:=pr_get HRK.out hlt;have hpa:=HGT.out k hlt;generalize (L.getD k (0,0)).1=x at *;generalize (L.getD k (0,0)).2=y at *;have hab:Below wr.heap.size wr (wr.alloc (.cells #[.int .i64 x,.int .i64 y] 52)):=br.alloc (Nat.le_refl _) _;have HK2:=hid hk;have HR2:=hid (HRK.out.below hab);obtain ⟨fn,tmps,assign,body,hy,hR⟩:=HY.out k _ (by rw [HLN.out];exact hlt) (HJ.out _ _ _ HJ0.out hab);rw [hpa] at hy;clear hpa hk hab;gi_wp2
    refine ⟨rfl,hR.mono ?_⟩;rintro e W3 (⟨rfl,hJ3,hk3⟩ | ⟨rfl,hJx3⟩)
    · have HJ3:=hid hJ3;have HR3:=hid (KpC.row hk3 HR2.out);clear hJ3 hk3 hy hR e0 e1;gi_wp2
      gi_roundg (gk-1)
      case measure=>have:=HK2.out;omega
      case rel=>exact ⟨k+1,by have:=HK2.out;omega,by go_num,HJ3,HR3⟩
    · have HJ3:=hid hJx3;clear hJx3 hy hR e0 e1;gi_wp2
      exact bodyPost_ret (results_none rfl _ _ _) rfl ⟨⟨_,rfl⟩,.inr ⟨k+1,by rw [HLN.out];omega,HJ3.out⟩⟩
  · obtain rfl:k=L.length:=xo;gi_wp2
    exact bodyPost_end (results_none rfl _ _ _) rfl ⟨⟨_,rfl⟩,.inl (by rw [HLN.out];exact HJ0.out)⟩
theorem cbLeaf_ok (p:Option Addr) (i:Int) (w:World):Calls Tryz.prog 39 #[.pointer p,.int .i64 i] w fun e w'=>e= .returned (.func (.func 62) #[] #[.pointer (some ⟨w.heap.size,0,none⟩),.pointer (some ⟨w.heap.size+1,0,none⟩)])∧(w.alloc (.cells #[.pointer p] 74)).alloc (.cells #[.int .i64 i] 3)=w':=by
 go_enter Tryz.func39,Tryz.ntmps39
 go_wp2
 go_ret
 exact ⟨rfl,rfl⟩
end
section
open Go.RowKit
def StT (t:TypeId) (w w':World):Prop:=∃(b:Nat) (cs cs':Array Value),w.heap[b]? =some (Obj.cells cs t (0,0))∧w'.heap[b]? =some (Obj.cells cs' t (0,0))∧cs'.size=cs.size∧w'.heap.size=w.heap.size∧∀q,q≠b→w'.heap[q]? =w.heap[q]?
theorem owns_stT {t e:TypeId} {w w':World} {B s n:Nat} {v:Value} {xs:List Value} (hs:StT t w w') (hne:e≠t) (h:w.ownsRow B e s v n xs):w'.ownsRow B e s v n xs:=by
 obtain ⟨b,cs,cs',h1,h2,h3,h4,h5⟩:=hs;exact owns_heap h fun k hk=>h5 k (row_apart h1 h hne k hk)
structure FactE (t:TypeId) extends FactR RB where
 bears:∀v w w',StT t w w'→holds v w→holds v w'
def FactE.any (t:TypeId):FactE t:=⟨FactR.any RB,fun _ _ _ _ _=>trivial⟩
def FactE.is {t:TypeId} (x:Value):FactE t:=⟨FactR.is x,fun _ _ _ _ h=>h⟩
def FactE.sl (base:Nat) (c:SlC):FactE 33:=
  ⟨FactR.sl base c,fun _ _ _ h ⟨v1,v2,v3,v4,e,h1,h2,h3,h4⟩=>⟨v1,v2,v3,v4,e,owns_stT h xdd h1,owns_stT h xdd h2,owns_stT h xdd h3,owns_stT h xdd h4⟩⟩
def FactE.box (base:Nat) (t:TypeId) (n:Nat):FactE t:=
  ⟨FactR.box base t n,fun v w w' h ⟨b,cs,e,hb,hh,hn⟩=>by
   obtain ⟨b',c0,c1,h1,h2,h3,h4,h5⟩:=h;by_cases eb:b=b'
   · subst eb;rw [h1] at hh;cases hh;exact ⟨b,c1,e,hb,h2,h3.trans hn⟩
   · exact ⟨b,cs,e,hb,(h5 b eb).trans hh,hn⟩⟩
def effAt {t:TypeId} (m:Nat) (ds:List Nat) (fs:List (FactE t)) (X:(Nat→Value)→World→Prop) (k:Nat) (u:Nat→Value) (w:World):Prop:=(fs.getD k (FactE.any t)).holds (u (ds.getD k 0)) w∧(k=m→X u w)
def effExt (t:TypeId) (m i:Nat) (w w':World):Prop:=(i≠m→RB w w')∧(i=m→StT t w w')
theorem effAt_stays {t:TypeId} {m:Nat} {ds:List Nat} {fs:List (FactE t)} {X:(Nat→Value)→World→Prop} (hX:∀u w w',RB w w'→X u w→X u w'):∀i k u w w',k≠i→effExt t m i w w'→effAt m ds fs X k u w→effAt m ds fs X k u w':=by
 intro i k u w w' hne hE hG;by_cases h:i=m
 · exact ⟨(fs.getD k (FactE.any t)).bears _ _ _ (hE.2 h) hG.1,fun e=>absurd (e.trans h.symm) hne⟩
 · exact ⟨(fs.getD k (FactE.any t)).stays _ _ _ (hE.1 h) hG.1,fun e=>hX _ _ _ (hE.1 h) (hG.2 e)⟩
theorem effAt_dep {t:TypeId} {l:List Oper} {m n:Nat} {ds:List Nat} {fs:List (FactE t)} {X:(Nat→Value)→World→Prop} (dps:List Nat) (hX:∀u u' w,(∀s ∈ dps,u' s=u s)→X u w→X u' w)
    (h:(List.range l.length).all (fun k=>match l[k]? with|some o=>decide (n≤k)||o.dst==some (ds.getD k 0)|none=>true)=true)
    (h7:dps.all (fun s=>(List.range l.length).any fun j=>match l[j]?,l[m]? with|some p,some o=>p.dst==some s&&(o.after.any fun e=>Region.binds .any e&&e.on==j)|_,_=>false)=true) (hfs:fs.length≤n) (hll:n≤l.length):
    ∀(k:Nat) (u u':Nat→Value) (w:World),(∀(j:Nat) (p o:Oper),l[j]? =some p→l[k]? =some o→(j=k∨(o.after.any fun e=>Region.binds .any e&&e.on==j)=true)→valOf u' p=valOf u p)→effAt m ds fs X k u w→effAt m ds fs X k u' w:=by
 intro k u u' w hv hg;refine ⟨?_,?_⟩
 · by_cases hk:n≤k
   · rw [List.getD_eq_getElem?_getD,List.getElem?_eq_none xo];trivial
   · by_cases hl:k<l.length
     · have h1:=List.all_eq_true.1 h k (List.mem_range.2 hl);have ho:l[k]? =some l[k]:=List.getElem?_eq_getElem hl;rw [ho] at h1;simp only [Bool.or_eq_true,decide_eq_true_eq,beq_iff_eq] at h1;have h2:=h1.resolve_left hk;have h3:=hv k _ _ ho ho (.inl rfl);simp only [valOf,h2] at h3;rw [h3];exact hg.1
     · omega
 · rintro rfl;refine hX u u' w (fun s hs=> ?_) (hg.2 rfl);have h1:=List.all_eq_true.1 h7 s hs;obtain ⟨j,hj,h2⟩:=List.any_eq_true.1 h1;cases hp:l[j]? with
   | none=>rw [hp] at h2;cases h2
   | some p=>
    cases ho:l[k]? with
    | none=>rw [hp,ho] at h2;cases h2
    | some o=>
     rw [hp,ho] at h2;simp only [Bool.and_eq_true,beq_iff_eq] at h2;have e1:=hv j p o hp ho (.inr h2.2);simp only [valOf,h2.1] at e1;exact e1
end
end Go.Proofs.YtbedhbpgnfffmaaGreat

/- Merged: CbCk, PmTwR, PmNw, IdxTw. -/
import Derived.Test.YtbedhbpgnfffmaaGreatCobTellsP16
import Derived.Test.YtbedhbpgnfffmaaGreatCobTellsP9
import Derived.Test.YtbedhbpgnfffmaaGreatCobTellsP10
import Derived.Test.YtbedhbpgnfffmaaGreatCobTellsP17
import Derived.Test.YtbedhbpgnfffmaaGreatCobTellsP8
import Derived.Test.YtbedhbpgnfffmaaGreatCobTellsP15
import Derived.Test.YtbedhbpgnfffmaaGreatCobTellsP4
import Derived.Test.YtbedhbpgnfffmaaGreatCobTellsP13
import Derived.Test.YtbedhbpgnfffmaaGreatCobTellsP12
import Derived.Test.YtbedhbpgnfffmaaGreatCobTellsP14
import Derived.Test.YtbedhbpgnfffmaaGreatCobTellsP6
namespace Go.Proofs.YtbedhbpgnfffmaaGreat
set_option maxRecDepth 100000
set_option maxHeartbeats 40000000
set_option linter.unusedVariables false
set_option linter.unusedSimpArgs false
section
open Go.RowKit Go.Shelf Go.Sort
attribute [local go_sem] Oper.semAt_some
theorem wp_op_load_mid {P:Program} {w:World} {o:Oper} {a:Act} {K:Act→World→Prop} {Q:Exit→Act→World→Prop} (ty:TypeId) (x:Operand) (b n:Nat) (vs:List Value) {d:TypeDesc}
    (ho:o.op= .load ty x) (hx:a.eval x= .pointer (some ⟨b,n,none⟩))
    (hu:P.underlying ty=some d) (hd:d.isRow=true) (hi:(P.info? ty).map (·.size)=some vs.length) (hc:∀j v,vs[j]? =some v→w.cell? ⟨b,n+j,none⟩=some v)
    (h:K (a.put o.dst (.agg vs.toArray)) w):Oper.wp P o a w K Q:=by
 have e:=exec_load_mid (P:=P) (o:=o) (a:=a) (w:=w) ty x b n vs ho hx hu hd hi hc;unfold Oper.wp;simp only [e];exact h
def FactR.P (base:Nat) (c:Cfg) (s:SlC):FactR RB:=⟨fun v w=>∃a,v= .agg (pmL c s a).toArray∧OwP w base s a,fun _ _ _ h ⟨a,e,k⟩=>⟨a,e,k.below h⟩⟩
def FactR.I (base:Nat) (r:CobR):FactR RB:=⟨fun v w=>∃A,v= .agg (ixL r A).toArray∧OwI w base r A,fun _ _ _ h ⟨a,e,k⟩=>⟨a,e,k.below h⟩⟩
def bltR (r:CobR):CobR:=⟨r.c,r.s,bldL r.s,bldM r.s,bldC r.s⟩
theorem cbCheck_c (r:CobR) (A:CobA) (w:World) (e:Int) (b:Bool)
    (PC:Hid (∀(W:World),Below w.heap.size w W→Calls Tryz.prog 40 #[.agg (pmL r.c r.s A.sa).toArray] W (AnsB W (.int .i64 e))))
    (OF:Hid (∀(W:World),Below w.heap.size w W→e=0→Calls Tryz.prog 41 #[.agg (ixL r A).toArray,.agg (slL r.s A.sa).toArray] W (AnsB W (.tuple #[.bool b,.int .i64 0])))):
    Calls Tryz.prog 17 #[cobV r A] w (AnsB w (.int .i64 (if e=0 then (if b=true then 0 else 8) else e))):=by
 dsimp only [cobV];by_cases he:e=0
 · subst he;rw [if_pos rfl];cases b with
   | true=>
    rw [if_pos rfl];go_enter Tryz.func17,Tryz.ntmps17
    go_upto_region 1 with (fail)
    generalize hw0:w.alloc _=w0;obtain ⟨hb0,hx⟩:=bxs_one (l1:=cobL r A) hw0;have HX:Hid (BXs w0 [(w.heap.size,35,cobL r A)]):=hid hx;have HB:=hid hb0;have hz0:=hb0.size;clear hw0 hb0 hx;have hl_m:w.heap.size<w0.heap.size:=bx_lt (HX.out.at 0 rfl);go_wp2_with (first|(refine wpl_load_mid 31 (.tmp 6) (w.heap.size) 0 (pmL r.c r.s A.sa) xk rfl rfl Tryz.underlying31 rfl xk (bx_part (HX.out.at 0 rfl) 0 rfl) ?_))
    refine (PC.out _ HB.out).mono ?_;rintro e w1 ⟨rfl,hb⟩;replace HX:=hid (HX.out.below hb);replace HB:=xv hb HB;have hz1:=hb.size;clear hb;go_wp2_with (first|(refine wpl_load_mid 33 (.tmp 13) (w.heap.size) 15 (ixL r A) xk rfl rfl Tryz.underlying33 rfl xk (bx_part (HX.out.at 0 rfl) 15 rfl) ?_)|(refine wpl_load_mid 29 (.tmp 16) (w.heap.size) 9 (slL r.s A.sa) xk rfl rfl Tryz.underlying29 rfl xk (bx_part (HX.out.at 0 rfl) 9 rfl) ?_))
    refine (OF.out _ HB.out (by trivial)).mono ?_;rintro e w2 ⟨rfl,hb⟩;replace HX:=hid (HX.out.below hb);replace HB:=xv hb HB;have hz2:=hb.size;clear hb;go_wp2
    go_ret
    exact ⟨rfl,HB.out⟩
   | false=>
    rw [if_neg xdd];go_enter Tryz.func17,Tryz.ntmps17
    go_upto_region 1 with (fail)
    generalize hw0:w.alloc _=w0;obtain ⟨hb0,hx⟩:=bxs_one (l1:=cobL r A) hw0;have HX:Hid (BXs w0 [(w.heap.size,35,cobL r A)]):=hid hx;have HB:=hid hb0;have hz0:=hb0.size;clear hw0 hb0 hx;have hl_m:w.heap.size<w0.heap.size:=bx_lt (HX.out.at 0 rfl);go_wp2_with (first|(refine wpl_load_mid 31 (.tmp 6) (w.heap.size) 0 (pmL r.c r.s A.sa) xk rfl rfl Tryz.underlying31 rfl xk (bx_part (HX.out.at 0 rfl) 0 rfl) ?_))
    refine (PC.out _ HB.out).mono ?_;rintro e w1 ⟨rfl,hb⟩;replace HX:=hid (HX.out.below hb);replace HB:=xv hb HB;have hz1:=hb.size;clear hb;go_wp2_with (first|(refine wpl_load_mid 33 (.tmp 13) (w.heap.size) 15 (ixL r A) xk rfl rfl Tryz.underlying33 rfl xk (bx_part (HX.out.at 0 rfl) 15 rfl) ?_)|(refine wpl_load_mid 29 (.tmp 16) (w.heap.size) 9 (slL r.s A.sa) xk rfl rfl Tryz.underlying29 rfl xk (bx_part (HX.out.at 0 rfl) 9 rfl) ?_))
    refine (OF.out _ HB.out (by trivial)).mono ?_;rintro e w2 ⟨rfl,hb⟩;replace HX:=hid (HX.out.below hb);replace HB:=xv hb HB;have hz2:=hb.size;clear hb;go_wp2
    go_ret
    exact ⟨rfl,HB.out⟩
 · rw [if_neg he];have ge:(e != 0)=true:=by simpa using he
   clear he;go_enter Tryz.func17,Tryz.ntmps17
   go_upto_region 1 with (fail)
   generalize hw0:w.alloc _=w0;obtain ⟨hb0,hx⟩:=bxs_one (l1:=cobL r A) hw0;have HX:Hid (BXs w0 [(w.heap.size,35,cobL r A)]):=hid hx;have HB:=hid hb0;have hz0:=hb0.size;clear hw0 hb0 hx;have hl_m:w.heap.size<w0.heap.size:=bx_lt (HX.out.at 0 rfl);go_wp2_with (first|(refine wpl_load_mid 31 (.tmp 6) (w.heap.size) 0 (pmL r.c r.s A.sa) xk rfl rfl Tryz.underlying31 rfl xk (bx_part (HX.out.at 0 rfl) 0 rfl) ?_))
   refine (PC.out _ HB.out).mono ?_;rintro e w1 ⟨rfl,hb⟩;replace HX:=hid (HX.out.below hb);replace HB:=xv hb HB;have hz1:=hb.size;clear hb;go_wp2
   go_ret
   exact ⟨rfl,HB.out⟩
theorem Check21_c (r:CobR) (A:CobA) (w:World) (e:Int) (b:Bool)
    (PC:Hid (∀(W:World),Below w.heap.size w W→Calls Tryz.prog 42 #[.agg (pmL r.c r.s A.sa).toArray] W (AnsB W (.int .i64 e))))
    (BL:Hid (∀(W:World),Below w.heap.size w W→e=0→Calls Tryz.prog 44 #[.agg (slL r.s A.sa).toArray] W (FrI W (bltR r))))
    (SM:Hid (∀(W:World) (A':CobA) (B:Nat),Below w.heap.size w W→OwI W B (bltR r) A'→Calls Tryz.prog 43 #[.agg (ixL r A).toArray,.agg (ixL (bltR r) A').toArray] W (AnsB W (.bool b)))):
    Calls Tryz.prog 18 #[cobV r A] w (AnsB w (.int .i64 (if e=0 then (if b=true then 0 else 8) else e))):=by
 dsimp only [cobV];by_cases he:e=0
 · subst he;rw [if_pos rfl];cases b with
   | true=>
    rw [if_pos rfl];go_enter Tryz.func18,Tryz.ntmps18
    go_upto_region 1 with (fail)
    generalize hw0:w.alloc _=w0;obtain ⟨hb0,hx⟩:=bxs_one (l1:=cobL r A) hw0;have HX:Hid (BXs w0 [(w.heap.size,35,cobL r A)]):=hid hx;have HB:=hid hb0;have hz0:=hb0.size;clear hw0 hb0 hx;have hl_m:w.heap.size<w0.heap.size:=bx_lt (HX.out.at 0 rfl);go_wp2_with (first|(refine wpl_load_mid 31 (.tmp 4) (w.heap.size) 0 (pmL r.c r.s A.sa) xk rfl rfl Tryz.underlying31 rfl xk (bx_part (HX.out.at 0 rfl) 0 rfl) ?_))
    refine (PC.out _ HB.out).mono ?_;rintro e w1 ⟨rfl,hb⟩;replace HX:=hid (HX.out.below hb);replace HB:=xv hb HB;have hz1:=hb.size;clear hb;go_upto_region 4 with (fail)
    refine wp_region_late 8 xk (N:=18) rfl xk xk xdd (fun w'=>Below w1.heap.size w1 w') RB (factRAt [.is (.pointer (some ⟨w.heap.size,15,none⟩)),.is (.agg (ixL r A).toArray),.is (.pointer (some ⟨w.heap.size,0,none⟩)),.is (.pointer (some ⟨w.heap.size,9,none⟩)),.is (.agg (slL r.s A.sa).toArray),.I w1.heap.size (bltR r),.is (.bool true),.is (.bool (!true))]) (factRAt_stays _) br.drew ?steps ?fin
    case steps=>
     refine ⟨?o0,?o1,?o2,?o3,?o4,?o5,?o6,?o7,trivial⟩<;>intro u a w' ev hJ hd K hK
     case o0=>
      have e1:tg a 1= .pointer (some ⟨w.heap.size,0,none⟩):=ev 1 xdd;have HK:=hid hK;clear hK ev hd;go_simp;exact HK.out _ _ xzc hJ rfl br
     case o1=>
      have e10:tg a 10= .pointer (some ⟨w.heap.size,15,none⟩):=(ev 10 xdd).trans (hd 0 _ xk rfl);exact wp_op_load_mid 33 (.tmp 10) (w.heap.size) 15 (ixL r A) rfl e10 Tryz.underlying33 rfl xk (bx_part (bx_below hJ (HX.out.at 0 rfl) (bx_lt (HX.out.at 0 rfl))) 15 rfl) (hK _ _ xzc hJ rfl br)
     case o2=>
      have e1:tg a 1= .pointer (some ⟨w.heap.size,0,none⟩):=ev 1 xdd;have HK:=hid hK;clear hK ev hd;go_simp;exact HK.out _ _ xzc hJ rfl br
     case o3=>
      have e12:tg a 12= .pointer (some ⟨w.heap.size,0,none⟩):=(ev 12 xdd).trans (hd 2 _ xk rfl);have HK:=hid hK;clear hK ev hd;go_simp;exact HK.out _ _ xzc hJ rfl br
     case o4=>
      have e13:tg a 13= .pointer (some ⟨w.heap.size,9,none⟩):=(ev 13 xdd).trans (hd 3 _ xk rfl);exact wp_op_load_mid 29 (.tmp 13) (w.heap.size) 9 (slL r.s A.sa) rfl e13 Tryz.underlying29 rfl xk (bx_part (bx_below hJ (HX.out.at 0 rfl) (bx_lt (HX.out.at 0 rfl))) 9 rfl) (hK _ _ xzc hJ rfl br)
     case o5=>
      have e14:tg a 14= .agg (slL r.s A.sa).toArray:=(ev 14 xdd).trans (hd 4 _ xk rfl);have HK:=hid hK;have HC:=hid (BL.out w' (below_via hJ HB.out HB.out.size) (by trivial));have hzJ:=hJ.size;have HJ:=hid hJ;clear hK ev hd hJ;go_simp;refine HC.out.mono ?_;rintro e w'' ⟨A',rfl,ho,hb⟩;exact HK.out _ _ xzc (HJ.out.trans (hb.mono hzJ)) (⟨A',rfl,ho.base hzJ⟩) hb
     case o6=>
      have HK:=hid hK;have e11:tg a 11= .agg (ixL r A).toArray:=(ev 11 xdd).trans (hd 1 _ xk rfl);obtain ⟨A',e15,ho⟩:(FactR.I w1.heap.size (bltR r)).holds (a.tmps.getD 15 undef) w':=by rw [ev 15 xdd];exact hd 5 _ xk rfl
      have HC:=hid (SM.out w' A' _ (below_via hJ HB.out HB.out.size) ho);have hzJ:=hJ.size;have HJ:=hid hJ;clear hK ev hd hJ ho;go_simp;refine HC.out.mono ?_;rintro e w'' ⟨rfl,hb⟩;exact HK.out _ _ xzc (HJ.out.trans (hb.mono hzJ)) rfl hb
     case o7=>
      have e16:tg a 16= .bool true:=(ev 16 xdd).trans (hd 6 _ xk rfl);have HK:=hid hK;clear hK ev hd;go_simp;exact HK.out _ _ xzc hJ rfl br
    case fin=>
     intro u w2 hJ hG;have h17:u 17= .bool (!true):=hG 7 _ rfl;replace HX:=hid (HX.out.below hJ);replace HB:=xv hJ HB;have hz2:=hJ.size;clear hG hJ;simp only [mixFrame,mixL,dstsOf,List.take_succ_cons,List.take_zero,List.filterMap_cons,List.filterMap_nil,List.contains_cons,List.contains_nil,Nat.reduceBEq,Bool.or_false,Bool.false_or,Bool.or_true,Bool.true_or,if_true,if_false,Bool.false_eq_true,Nat.reduceAdd,Nat.zero_add,List.drop_succ_cons,List.drop_zero,h17];go_wp2
     go_ret
     exact ⟨rfl,HB.out⟩
   | false=>
    rw [if_neg xdd];go_enter Tryz.func18,Tryz.ntmps18
    go_upto_region 1 with (fail)
    generalize hw0:w.alloc _=w0;obtain ⟨hb0,hx⟩:=bxs_one (l1:=cobL r A) hw0;have HX:Hid (BXs w0 [(w.heap.size,35,cobL r A)]):=hid hx;have HB:=hid hb0;have hz0:=hb0.size;clear hw0 hb0 hx;have hl_m:w.heap.size<w0.heap.size:=bx_lt (HX.out.at 0 rfl);go_wp2_with (first|(refine wpl_load_mid 31 (.tmp 4) (w.heap.size) 0 (pmL r.c r.s A.sa) xk rfl rfl Tryz.underlying31 rfl xk (bx_part (HX.out.at 0 rfl) 0 rfl) ?_))
    refine (PC.out _ HB.out).mono ?_;rintro e w1 ⟨rfl,hb⟩;replace HX:=hid (HX.out.below hb);replace HB:=xv hb HB;have hz1:=hb.size;clear hb;go_upto_region 4 with (fail)
    refine wp_region_late 8 xk (N:=18) rfl xk xk xdd (fun w'=>Below w1.heap.size w1 w') RB (factRAt [.is (.pointer (some ⟨w.heap.size,15,none⟩)),.is (.agg (ixL r A).toArray),.is (.pointer (some ⟨w.heap.size,0,none⟩)),.is (.pointer (some ⟨w.heap.size,9,none⟩)),.is (.agg (slL r.s A.sa).toArray),.I w1.heap.size (bltR r),.is (.bool false),.is (.bool (!false))]) (factRAt_stays _) br.drew ?steps ?fin
    case steps=>
     refine ⟨?o0,?o1,?o2,?o3,?o4,?o5,?o6,?o7,trivial⟩<;>intro u a w' ev hJ hd K hK
     case o0=>
      have e1:tg a 1= .pointer (some ⟨w.heap.size,0,none⟩):=ev 1 xdd;have HK:=hid hK;clear hK ev hd;go_simp;exact HK.out _ _ xzc hJ rfl br
     case o1=>
      have e10:tg a 10= .pointer (some ⟨w.heap.size,15,none⟩):=(ev 10 xdd).trans (hd 0 _ xk rfl);exact wp_op_load_mid 33 (.tmp 10) (w.heap.size) 15 (ixL r A) rfl e10 Tryz.underlying33 rfl xk (bx_part (bx_below hJ (HX.out.at 0 rfl) (bx_lt (HX.out.at 0 rfl))) 15 rfl) (hK _ _ xzc hJ rfl br)
     case o2=>
      have e1:tg a 1= .pointer (some ⟨w.heap.size,0,none⟩):=ev 1 xdd;have HK:=hid hK;clear hK ev hd;go_simp;exact HK.out _ _ xzc hJ rfl br
     case o3=>
      have e12:tg a 12= .pointer (some ⟨w.heap.size,0,none⟩):=(ev 12 xdd).trans (hd 2 _ xk rfl);have HK:=hid hK;clear hK ev hd;go_simp;exact HK.out _ _ xzc hJ rfl br
     case o4=>
      have e13:tg a 13= .pointer (some ⟨w.heap.size,9,none⟩):=(ev 13 xdd).trans (hd 3 _ xk rfl);exact wp_op_load_mid 29 (.tmp 13) (w.heap.size) 9 (slL r.s A.sa) rfl e13 Tryz.underlying29 rfl xk (bx_part (bx_below hJ (HX.out.at 0 rfl) (bx_lt (HX.out.at 0 rfl))) 9 rfl) (hK _ _ xzc hJ rfl br)
     case o5=>
      have e14:tg a 14= .agg (slL r.s A.sa).toArray:=(ev 14 xdd).trans (hd 4 _ xk rfl);have HK:=hid hK;have HC:=hid (BL.out w' (below_via hJ HB.out HB.out.size) (by trivial));have hzJ:=hJ.size;have HJ:=hid hJ;clear hK ev hd hJ;go_simp;refine HC.out.mono ?_;rintro e w'' ⟨A',rfl,ho,hb⟩;exact HK.out _ _ xzc (HJ.out.trans (hb.mono hzJ)) (⟨A',rfl,ho.base hzJ⟩) hb
     case o6=>
      have HK:=hid hK;have e11:tg a 11= .agg (ixL r A).toArray:=(ev 11 xdd).trans (hd 1 _ xk rfl);obtain ⟨A',e15,ho⟩:(FactR.I w1.heap.size (bltR r)).holds (a.tmps.getD 15 undef) w':=by rw [ev 15 xdd];exact hd 5 _ xk rfl
      have HC:=hid (SM.out w' A' _ (below_via hJ HB.out HB.out.size) ho);have hzJ:=hJ.size;have HJ:=hid hJ;clear hK ev hd hJ ho;go_simp;refine HC.out.mono ?_;rintro e w'' ⟨rfl,hb⟩;exact HK.out _ _ xzc (HJ.out.trans (hb.mono hzJ)) rfl hb
     case o7=>
      have e16:tg a 16= .bool false:=(ev 16 xdd).trans (hd 6 _ xk rfl);have HK:=hid hK;clear hK ev hd;go_simp;exact HK.out _ _ xzc hJ rfl br
    case fin=>
     intro u w2 hJ hG;have h17:u 17= .bool (!false):=hG 7 _ rfl;replace HX:=hid (HX.out.below hJ);replace HB:=xv hJ HB;have hz2:=hJ.size;clear hG hJ;simp only [mixFrame,mixL,dstsOf,List.take_succ_cons,List.take_zero,List.filterMap_cons,List.filterMap_nil,List.contains_cons,List.contains_nil,Nat.reduceBEq,Bool.or_false,Bool.false_or,Bool.or_true,Bool.true_or,if_true,if_false,Bool.false_eq_true,Nat.reduceAdd,Nat.zero_add,List.drop_succ_cons,List.drop_zero,h17];go_wp2
     go_ret
     exact ⟨rfl,HB.out⟩
 · rw [if_neg he];have ge:(e != 0)=true:=by simpa using he
   clear he;go_enter Tryz.func18,Tryz.ntmps18
   go_upto_region 1 with (fail)
   generalize hw0:w.alloc _=w0;obtain ⟨hb0,hx⟩:=bxs_one (l1:=cobL r A) hw0;have HX:Hid (BXs w0 [(w.heap.size,35,cobL r A)]):=hid hx;have HB:=hid hb0;have hz0:=hb0.size;clear hw0 hb0 hx;have hl_m:w.heap.size<w0.heap.size:=bx_lt (HX.out.at 0 rfl);go_wp2_with (first|(refine wpl_load_mid 31 (.tmp 4) (w.heap.size) 0 (pmL r.c r.s A.sa) xk rfl rfl Tryz.underlying31 rfl xk (bx_part (HX.out.at 0 rfl) 0 rfl) ?_))
   refine (PC.out _ HB.out).mono ?_;rintro e w1 ⟨rfl,hb⟩;replace HX:=hid (HX.out.below hb);replace HB:=xv hb HB;have hz1:=hb.size;clear hb;go_wp2
   go_ret
   exact ⟨rfl,HB.out⟩
theorem cbSame_c (r r':CobR) (A A':CobA) (w:World) (p q:Bool)
    (PS:Hid (∀(W:World),Below w.heap.size w W→Calls Tryz.prog 45 #[.agg (pmL r.c r.s A.sa).toArray,.agg (pmL r'.c r'.s A'.sa).toArray] W (AnsB W (.bool p))))
    (XS:Hid (∀(W:World),Below w.heap.size w W→Calls Tryz.prog 46 #[.agg (ixL r A).toArray,.agg (ixL r' A').toArray] W (AnsB W (.bool q)))):
    Calls Tryz.prog 19 #[cobV r A,cobV r' A'] w (AnsB w (.bool (p&&q))):=by
 dsimp only [cobV];cases p with
 | true=>
  go_enter Tryz.func19,Tryz.ntmps19
  go_upto_region 1 with (fail)
  generalize hw0:(w.alloc _).alloc _=w0;obtain ⟨hb0,hx⟩:=bxs_two (l1:=cobL r A) (l2:=cobL r' A') hw0;have HX:Hid (BXs w0 [(w.heap.size+1,35,cobL r' A'),(w.heap.size,35,cobL r A)]):=hid hx;have HB:=hid hb0;have hz0:=hb0.size;clear hw0 hb0 hx;have hl_n:w.heap.size+1<w0.heap.size:=bx_lt (HX.out.at 0 rfl);have hl_m:w.heap.size<w0.heap.size:=bx_lt (HX.out.at 1 rfl);go_wp2_with (first|(refine wpl_load_mid 31 (.tmp 5) (w.heap.size) 0 (pmL r.c r.s A.sa) xk rfl rfl Tryz.underlying31 rfl xk (bx_part (HX.out.at 1 rfl) 0 rfl) ?_)|(refine wpl_load_mid 31 (.tmp 7) (w.heap.size+1) 0 (pmL r'.c r'.s A'.sa) xk rfl rfl Tryz.underlying31 rfl xk (bx_part (HX.out.at 0 rfl) 0 rfl) ?_))
  refine (PS.out _ HB.out).mono ?_;rintro e w1 ⟨rfl,hb⟩;replace HX:=hid (HX.out.below hb);replace HB:=xv hb HB;have hz1:=hb.size;clear hb;go_wp2_with (first|(refine wpl_load_mid 33 (.tmp 11) (w.heap.size) 15 (ixL r A) xk rfl rfl Tryz.underlying33 rfl xk (bx_part (HX.out.at 1 rfl) 15 rfl) ?_)|(refine wpl_load_mid 33 (.tmp 13) (w.heap.size+1) 15 (ixL r' A') xk rfl rfl Tryz.underlying33 rfl xk (bx_part (HX.out.at 0 rfl) 15 rfl) ?_))
  refine (XS.out _ HB.out).mono ?_;rintro e w2 ⟨rfl,hb⟩;replace HX:=hid (HX.out.below hb);replace HB:=xv hb HB;have hz2:=hb.size;clear hb;go_wp2
  go_ret
  exact ⟨rfl,HB.out⟩
 | false=>
  go_enter Tryz.func19,Tryz.ntmps19
  go_upto_region 1 with (fail)
  generalize hw0:(w.alloc _).alloc _=w0;obtain ⟨hb0,hx⟩:=bxs_two (l1:=cobL r A) (l2:=cobL r' A') hw0;have HX:Hid (BXs w0 [(w.heap.size+1,35,cobL r' A'),(w.heap.size,35,cobL r A)]):=hid hx;have HB:=hid hb0;have hz0:=hb0.size;clear hw0 hb0 hx;have hl_n:w.heap.size+1<w0.heap.size:=bx_lt (HX.out.at 0 rfl);have hl_m:w.heap.size<w0.heap.size:=bx_lt (HX.out.at 1 rfl);go_wp2_with (first|(refine wpl_load_mid 31 (.tmp 5) (w.heap.size) 0 (pmL r.c r.s A.sa) xk rfl rfl Tryz.underlying31 rfl xk (bx_part (HX.out.at 1 rfl) 0 rfl) ?_)|(refine wpl_load_mid 31 (.tmp 7) (w.heap.size+1) 0 (pmL r'.c r'.s A'.sa) xk rfl rfl Tryz.underlying31 rfl xk (bx_part (HX.out.at 0 rfl) 0 rfl) ?_))
  refine (PS.out _ HB.out).mono ?_;rintro e w1 ⟨rfl,hb⟩;replace HX:=hid (HX.out.below hb);replace HB:=xv hb HB;have hz1:=hb.size;clear hb;go_wp2
  go_ret
  exact ⟨rfl,HB.out⟩
theorem Same21_c (r r':CobR) (A A':CobA) (w:World) (p q:Bool)
    (PS:Hid (∀(W:World),Below w.heap.size w W→Calls Tryz.prog 47 #[.agg (pmL r.c r.s A.sa).toArray,.agg (pmL r'.c r'.s A'.sa).toArray] W (AnsB W (.bool p))))
    (XS:Hid (∀(W:World),Below w.heap.size w W→Calls Tryz.prog 43 #[.agg (ixL r A).toArray,.agg (ixL r' A').toArray] W (AnsB W (.bool q)))):
    Calls Tryz.prog 20 #[cobV r A,cobV r' A'] w (AnsB w (.bool (p&&q))):=by
 dsimp only [cobV];cases p with
 | true=>
  go_enter Tryz.func20,Tryz.ntmps20
  go_upto_region 1 with (fail)
  generalize hw0:(w.alloc _).alloc _=w0;obtain ⟨hb0,hx⟩:=bxs_two (l1:=cobL r A) (l2:=cobL r' A') hw0;have HX:Hid (BXs w0 [(w.heap.size+1,35,cobL r' A'),(w.heap.size,35,cobL r A)]):=hid hx;have HB:=hid hb0;have hz0:=hb0.size;clear hw0 hb0 hx;have hl_n:w.heap.size+1<w0.heap.size:=bx_lt (HX.out.at 0 rfl);have hl_m:w.heap.size<w0.heap.size:=bx_lt (HX.out.at 1 rfl);go_wp2_with (first|(refine wpl_load_mid 31 (.tmp 5) (w.heap.size) 0 (pmL r.c r.s A.sa) xk rfl rfl Tryz.underlying31 rfl xk (bx_part (HX.out.at 1 rfl) 0 rfl) ?_)|(refine wpl_load_mid 31 (.tmp 7) (w.heap.size+1) 0 (pmL r'.c r'.s A'.sa) xk rfl rfl Tryz.underlying31 rfl xk (bx_part (HX.out.at 0 rfl) 0 rfl) ?_))
  refine (PS.out _ HB.out).mono ?_;rintro e w1 ⟨rfl,hb⟩;replace HX:=hid (HX.out.below hb);replace HB:=xv hb HB;have hz1:=hb.size;clear hb;go_wp2_with (first|(refine wpl_load_mid 33 (.tmp 11) (w.heap.size) 15 (ixL r A) xk rfl rfl Tryz.underlying33 rfl xk (bx_part (HX.out.at 1 rfl) 15 rfl) ?_)|(refine wpl_load_mid 33 (.tmp 13) (w.heap.size+1) 15 (ixL r' A') xk rfl rfl Tryz.underlying33 rfl xk (bx_part (HX.out.at 0 rfl) 15 rfl) ?_))
  refine (XS.out _ HB.out).mono ?_;rintro e w2 ⟨rfl,hb⟩;replace HX:=hid (HX.out.below hb);replace HB:=xv hb HB;have hz2:=hb.size;clear hb;go_wp2
  go_ret
  exact ⟨rfl,HB.out⟩
 | false=>
  go_enter Tryz.func20,Tryz.ntmps20
  go_upto_region 1 with (fail)
  generalize hw0:(w.alloc _).alloc _=w0;obtain ⟨hb0,hx⟩:=bxs_two (l1:=cobL r A) (l2:=cobL r' A') hw0;have HX:Hid (BXs w0 [(w.heap.size+1,35,cobL r' A'),(w.heap.size,35,cobL r A)]):=hid hx;have HB:=hid hb0;have hz0:=hb0.size;clear hw0 hb0 hx;have hl_n:w.heap.size+1<w0.heap.size:=bx_lt (HX.out.at 0 rfl);have hl_m:w.heap.size<w0.heap.size:=bx_lt (HX.out.at 1 rfl);go_wp2_with (first|(refine wpl_load_mid 31 (.tmp 5) (w.heap.size) 0 (pmL r.c r.s A.sa) xk rfl rfl Tryz.underlying31 rfl xk (bx_part (HX.out.at 1 rfl) 0 rfl) ?_)|(refine wpl_load_mid 31 (.tmp 7) (w.heap.size+1) 0 (pmL r'.c r'.s A'.sa) xk rfl rfl Tryz.underlying31 rfl xk (bx_part (HX.out.at 0 rfl) 0 rfl) ?_))
  refine (PS.out _ HB.out).mono ?_;rintro e w1 ⟨rfl,hb⟩;replace HX:=hid (HX.out.below hb);replace HB:=xv hb HB;have hz1:=hb.size;clear hb;go_wp2
  go_ret
  exact ⟨rfl,HB.out⟩
theorem Great21_c (r:CobR) (A:CobA) (w:World) (p q:Bool)
    (PG:Hid (∀(W:World),Below w.heap.size w W→Calls Tryz.prog 22 #[.agg (pmL r.c r.s A.sa).toArray,.int .i64 600] W (AnsB W (.bool p))))
    (XG:Hid (∀(W:World),Below w.heap.size w W→Calls Tryz.prog 23 #[.agg (ixL r A).toArray] W (AnsB W (.bool q)))):
    Calls Tryz.prog 4 #[cobV r A,.int .i64 600] w (AnsB w (.bool (p||q))):=by
 dsimp only [cobV];cases p with
 | false=>
  go_enter Tryz.func4,Tryz.ntmps4
  go_upto_region 1 with (fail)
  generalize hw0:w.alloc _=w0;obtain ⟨hb0,hx⟩:=bxs_one (l1:=cobL r A) hw0;have HX:Hid (BXs w0 [(w.heap.size,35,cobL r A)]):=hid hx;have HB:=hid hb0;have hz0:=hb0.size;clear hw0 hb0 hx;have hl_m:w.heap.size<w0.heap.size:=bx_lt (HX.out.at 0 rfl);go_wp2_with (first|(refine wpl_load_mid 31 (.tmp 5) (w.heap.size) 0 (pmL r.c r.s A.sa) xk rfl rfl Tryz.underlying31 rfl xk (bx_part (HX.out.at 0 rfl) 0 rfl) ?_))
  refine (PG.out _ HB.out).mono ?_;rintro e w1 ⟨rfl,hb⟩;replace HX:=hid (HX.out.below hb);replace HB:=xv hb HB;have hz1:=hb.size;clear hb;go_wp2_with (first|(refine wpl_load_mid 33 (.tmp 10) (w.heap.size) 15 (ixL r A) xk rfl rfl Tryz.underlying33 rfl xk (bx_part (HX.out.at 0 rfl) 15 rfl) ?_))
  refine (XG.out _ HB.out).mono ?_;rintro e w2 ⟨rfl,hb⟩;replace HX:=hid (HX.out.below hb);replace HB:=xv hb HB;have hz2:=hb.size;clear hb;go_wp2
  go_ret
  exact ⟨rfl,HB.out⟩
 | true=>
  go_enter Tryz.func4,Tryz.ntmps4
  go_upto_region 1 with (fail)
  generalize hw0:w.alloc _=w0;obtain ⟨hb0,hx⟩:=bxs_one (l1:=cobL r A) hw0;have HX:Hid (BXs w0 [(w.heap.size,35,cobL r A)]):=hid hx;have HB:=hid hb0;have hz0:=hb0.size;clear hw0 hb0 hx;have hl_m:w.heap.size<w0.heap.size:=bx_lt (HX.out.at 0 rfl);go_wp2_with (first|(refine wpl_load_mid 31 (.tmp 5) (w.heap.size) 0 (pmL r.c r.s A.sa) xk rfl rfl Tryz.underlying31 rfl xk (bx_part (HX.out.at 0 rfl) 0 rfl) ?_))
  refine (PG.out _ HB.out).mono ?_;rintro e w1 ⟨rfl,hb⟩;replace HX:=hid (HX.out.below hb);replace HB:=xv hb HB;have hz1:=hb.size;clear hb;go_wp2
  go_ret
  exact ⟨rfl,HB.out⟩
theorem slMay_of {c:Cfg} {s:SlC} (h:pmE c s=0):slMay s=true:=seekE_may (pm_zero h).2
theorem cCheck (r:CobR) (A:CobA) (w:World) (h:InC w r A):Calls Tryz.prog 17 #[cobV r A] w (AnsB w (.int .i64 r.E)):=by
 refine cbCheck_c r A w (pmE r.c r.s) (ixEq r.l r.ms r.cs (bldL r.s) (bldM r.s) (bldC r.s)) (hid fun W hB=>pmaCheck_ok r.c r.s A.sa (Nat.le_trans h.sz.w xdd) (Nat.le_trans h.sz.k xdd) h.cc W (h.sl.below hB)) (hid fun W hB hp=> ?_);have hb:=pm_bld hp h.sz.c;have:=OfIx_ok r.l A.ma A.ca A.mc A.cc r.ms r.cs r.s A.sa (Nat.le_trans h.sz.w xdd) (Nat.le_trans h.sz.k xdd) W (h.sl.below hB) (h.m.below hB) (h.n.below hB) h.sz.m h.sz.n;rw [hb,show ofB r.l r.ms r.cs r.s=ixEq r.l r.ms r.cs (bldL r.s) (bldM r.s) (bldC r.s) by rw [ofB,hb];rfl] at this;exact this
theorem cBuilt {r:CobR} {A:CobA} {w:World} (hp:pmE r.c r.s=0) (h:SlIn w r.s A.sa) (h8:r.s.cs.length≤8192):Calls Tryz.prog 44 #[.agg (slL r.s A.sa).toArray] w (FrI w (bltR r)):=by
 have hb:=pm_bld hp h8;refine (Built18_ok r.s A.sa (slMay_of hp) h8 w h).mono fun e w' q=>frI_of (bltR r) ?_
 show FreshIx w (bldL r.s) (bldM r.s) (bldC r.s) e w';rw [bldL,bldM,bldC,if_pos hb,if_pos hb,if_pos hb];exact q
theorem OwI.rows {w:World} {B:Nat} {r:CobR} {A:CobA} (h:OwI w B r A):IsRow .i64 w A.ma r.ms∧IsRow .i64 w A.ca r.cs:=by
 obtain ⟨y,m,hy,i1,-,-,-,-⟩:=row_of_owns h.o5;cases hy;obtain ⟨y,m,hy,i2,-,-,-,-⟩:=row_of_owns h.o6;cases hy;exact ⟨i1,i2⟩
theorem rCheck (r:CobR) (A:CobA) (w:World) (h:InC w r A):Calls Tryz.prog 18 #[cobV r A] w (AnsB w (.int .i64 r.E)):=by
 refine Check21_c r A w (pmE r.c r.s) (ixEq r.l r.ms r.cs (bldL r.s) (bldM r.s) (bldC r.s)) (hid fun W hB=>Check11_ok r.c r.s A.sa (Nat.le_trans h.sz.w xdd) (Nat.le_trans h.sz.k xdd) W (h.sl.below hB)) (hid fun W hB hp=>cBuilt hp (h.sl.below hB) h.sz.c) (hid fun W A' B hB ho=> ?_);obtain ⟨i1,i2⟩:=ho.rows;exact Same18_ix r.l (bldL r.s) A.ma A.ca A'.ma A'.ca A.mc A.cc A'.mc A'.cc r.ms r.cs (bldM r.s) (bldC r.s) W (h.m.below hB) (h.n.below hB) i1 i2 h.sz.m h.sz.n
def CobR.same (r r':CobR):Bool:=pmB r.c r.s r'.c r'.s&&ixEq r.l r.ms r.cs r'.l r'.ms r'.cs
theorem cSame (r r':CobR) (A A':CobA) (w:World) (h:InC w r A) (h':InC w r' A'):Calls Tryz.prog 19 #[cobV r A,cobV r' A'] w (AnsB w (.bool (r.same r'))):=
  cbSame_c r r' A A' w _ _ (hid fun W hB=>SmPm_ok r.c r'.c r.s r'.s A.sa A'.sa W (h.sl.below hB) (h'.sl.below hB) (Nat.le_trans h.sz.w xdd) (Nat.le_trans h.sz.k xdd) (Nat.le_trans h.sz.v xdd) (Nat.le_trans h.sz.c xdd))
    (hid fun W hB=>Same_ix r.l r'.l A.ma A.ca A'.ma A'.ca A.mc A.cc A'.mc A'.cc r.ms r.cs r'.ms r'.cs W (h.m.below hB) (h.n.below hB) (h'.m.below hB) (h'.n.below hB) h.sz.m h.sz.n)
theorem rSame (r r':CobR) (A A':CobA) (w:World) (h:InC w r A) (h':InC w r' A'):Calls Tryz.prog 20 #[cobV r A,cobV r' A'] w (AnsB w (.bool (r.same r'))):=
  Same21_c r r' A A' w _ _ (hid fun W hB=>Sm11_ok r.c r'.c r.s r'.s A.sa A'.sa W (h.sl.below hB) (h'.sl.below hB) (Nat.le_trans h.sz.w xdd) (Nat.le_trans h.sz.k xdd) (Nat.le_trans h.sz.v xdd) (Nat.le_trans h.sz.c xdd))
    (hid fun W hB=>Same18_ix r.l r'.l A.ma A.ca A'.ma A'.ca A.mc A.cc A'.mc A'.cc r.ms r.cs r'.ms r'.cs W (h.m.below hB) (h.n.below hB) (h'.m.below hB) (h'.n.below hB) h.sz.m h.sz.n)
theorem rGreat (r:CobR) (A:CobA) (w:World):Calls Tryz.prog 4 #[cobV r A,.int .i64 600] w (AnsB w (.bool r.gr)):=
  Great21_c r A w _ _ (hid fun W _=>Great11_ok r.c r.s A.sa 600 W) (hid fun W _=>by
   by_cases q:r.ms.length≤600∧r.cs.length≤600
   · rw [show (decide (600<r.ms.length)||decide (600<r.cs.length))=false by simp;omega];exact Great18_no r.l A.ma A.ca _ A.mc _ A.cc q.1 q.2 W
   · rw [show (decide (600<r.ms.length)||decide (600<r.cs.length))=true by simp;omega];exact Great18_yes r.l A.ma A.ca _ A.mc _ A.cc xo W)
end
section
open Go.RowKit Go.Shelf
attribute [local go_sem] Oper.semAt_some
theorem Twin11_ok (c:Cfg) (s:SlC) (wa ka va ca:Option Addr) (wc kc vc cc:Nat) (w:World) (TW:Hid (∀W,Below w.heap.size w W→Calls Tryz.prog 49 #[.agg #[.int .i64 s.seg,.slice wa s.ws.length wc,.slice ka s.ks.length kc,.slice va s.vs.length vc,.slice ca s.cs.length cc,.int .u64 s.laid]] W (FreshSl W s))):
    Calls Tryz.prog 24 #[.agg #[.int .u8 c.tag,.int .i64 c.most,.int .i64 c.seg,.int .i64 c.least,.int .i64 c.den,.int .i64 c.ll,.int .i64 c.rl,.int .i64 c.rh,.int .i64 c.lh,.int .i64 s.seg,.slice wa s.ws.length wc,.slice ka s.ks.length kc,.slice va s.vs.length vc,.slice ca s.cs.length cc,.int .u64 s.laid]] w (FreshPm w c s):=by
 go_enter Tryz.func24,Tryz.ntmps24
 go_upto_region 1 with (fail)
 generalize hwz:((w.alloc _).alloc _)=wz;have hh:=ec15 hwz (au15 (al15 (b:=w.heap.size) xsi));obtain ⟨c_t0,c_t1,c_t2,c_t3,c_t4,c_t5,c_t6,c_t7,c_t8,c_t9,c_t10,c_t11,c_t12,c_t13,c_t14⟩:=hh;have z_t:=elt hwz (auz (alz (b:=w.heap.size) xsi));have hh:=ec15 hwz (al15 (b:=w.heap.size+1) xsi);obtain ⟨c_r0,c_r1,c_r2,c_r3,c_r4,c_r5,c_r6,c_r7,c_r8,c_r9,c_r10,c_r11,c_r12,c_r13,c_r14⟩:=hh;have hh:=ef15 hwz (alf15 (b:=w.heap.size+1) xsi);obtain ⟨f_r0,f_r1,f_r2,f_r3,f_r4,f_r5,f_r6,f_r7,f_r8,f_r9,f_r10,f_r11,f_r12,f_r13,f_r14⟩:=hh;have z_r:=elt hwz (alz (b:=w.heap.size+1) xsi);have HS:Hid (Below w.heap.size w wz):=by rw [←hwz];exact hid ((br.alloc (Nat.le_refl _) _).alloc xsi _)
 have hzz:w.heap.size+2=wz.heap.size:=by rw [←hwz];simp
 clear hwz;refine wp_region_late 5 xk (N:=9) rfl xk xk xdd (fun w'=>Below wz.heap.size wz w') RB (factRAt [.is (.pointer (some ⟨w.heap.size,0,none⟩)),.is (.agg #[.int .u8 c.tag,.int .i64 c.most,.int .i64 c.seg,.int .i64 c.least,.int .i64 c.den,.int .i64 c.ll,.int .i64 c.rl,.int .i64 c.rh,.int .i64 c.lh]),.is (.pointer (some ⟨w.heap.size,9,none⟩)),.is (.agg #[.int .i64 s.seg,.slice wa s.ws.length wc,.slice ka s.ks.length kc,.slice va s.vs.length vc,.slice ca s.cs.length cc,.int .u64 s.laid]),.sl wz.heap.size s]) (factRAt_stays _) br.drew ?steps ?fin
 case steps=>
  refine ⟨?o0,?o1,?o2,?o3,?o4,trivial⟩<;>intro u a w' ev hJ hd K hK
  case o0=>
   have e1:tg a 1= .pointer (some ⟨w.heap.size,0,none⟩):=ev 1 xdd;have HK:=hid hK;clear hK ev hd;go_simp;exact HK.out _ _ xzc hJ rfl br
  case o1=>
   have e3:tg a 3= .pointer (some ⟨w.heap.size,0,none⟩):=(ev 3 xdd).trans (hd 0 _ xk rfl);have g0:=xjc hJ c_t0;have g1:=xjc hJ c_t1;have g2:=xjc hJ c_t2;have g3:=xjc hJ c_t3;have g4:=xjc hJ c_t4;have g5:=xjc hJ c_t5;have g6:=xjc hJ c_t6;have g7:=xjc hJ c_t7;have g8:=xjc hJ c_t8;have HK:=hid hK;clear hK ev hd;go_simp;exact HK.out _ _ xzc hJ rfl br
  case o2=>
   have e1:tg a 1= .pointer (some ⟨w.heap.size,0,none⟩):=ev 1 xdd;have HK:=hid hK;clear hK ev hd;go_simp;exact HK.out _ _ xzc hJ rfl br
  case o3=>
   have e5:tg a 5= .pointer (some ⟨w.heap.size,9,none⟩):=(ev 5 xdd).trans (hd 2 _ xk rfl);have g9:=xjc hJ c_t9;have g10:=xjc hJ c_t10;have g11:=xjc hJ c_t11;have g12:=xjc hJ c_t12;have g13:=xjc hJ c_t13;have g14:=xjc hJ c_t14;have HK:=hid hK;clear hK ev hd;go_simp;exact HK.out _ _ xzc hJ rfl br
  case o4=>
   have e6:tg a 6= .agg #[.int .i64 s.seg,.slice wa s.ws.length wc,.slice ka s.ks.length kc,.slice va s.vs.length vc,.slice ca s.cs.length cc,.int .u64 s.laid]:=(ev 6 xdd).trans (hd 3 _ xk rfl);have HK:=hid hK;have HC:=hid (TW.out w' (below_via hJ HS.out HS.out.size));have hzJ:=hJ.size;have HJ:=hid hJ;clear hK ev hd hJ;go_simp;refine HC.out.mono ?_;rintro e w'' ⟨v1,v2,v3,v4,rfl,o1,o2,o3,o4,hb⟩;exact HK.out _ _ xzc (HJ.out.trans (hb.mono hzJ)) ⟨v1,v2,v3,v4,rfl,owns_base o1 hzJ,owns_base o2 hzJ,owns_base o3 hzJ,owns_base o4 hzJ⟩ hb
 case fin=>
  intro u w2 hJ hG;have h4:u 4= .agg #[.int .u8 c.tag,.int .i64 c.most,.int .i64 c.seg,.int .i64 c.least,.int .i64 c.den,.int .i64 c.ll,.int .i64 c.rl,.int .i64 c.rh,.int .i64 c.lh]:=hG 1 _ rfl;obtain ⟨v1,v2,v3,v4,h7,p1,p2,p3,p4⟩:(FactR.sl wz.heap.size s).holds (u 7) w2:=hG 4 _ rfl;obtain ⟨a1,k1,rfl,-⟩:=owns_news p1;obtain ⟨a2,k2,rfl,-⟩:=owns_news p2;obtain ⟨a3,k3,rfl,-⟩:=owns_news p3;obtain ⟨a4,k4,rfl,-⟩:=owns_news p4;have hz_w2:=hJ.size;simp (disch:=omega) only [xcl hJ,xfr hJ] at *;replace z_t:=blt hJ z_t;replace z_r:=blt hJ z_r;have hB2:Below w.heap.size w w2:=below_via hJ HS.out xo;have HP:=hid (And.intro p1 (And.intro p2 (And.intro p3 p4)));clear hG hJ p1 p2 p3 p4;simp only [mixFrame,mixL,dstsOf,List.take_succ_cons,List.take_zero,List.filterMap_cons,List.filterMap_nil,List.contains_cons,List.contains_nil,Nat.reduceBEq,Bool.or_false,Bool.false_or,Bool.or_true,Bool.true_or,if_true,if_false,Bool.false_eq_true,Nat.reduceAdd,Nat.zero_add,List.drop_succ_cons,List.drop_zero,h4,h7];go_wp2
  have hz1:w.heap.size+1<wz.heap.size:=xo;have HC:=hid (fifteen_some ⟨c_r0,c_r1,c_r2,c_r3,c_r4,c_r5,c_r6,c_r7,c_r8,c_r9,c_r10,c_r11,c_r12,c_r13,c_r14⟩);exact end_row (W:=w2) (b:=w.heap.size+1) [.int .u8 c.tag,.int .i64 c.most,.int .i64 c.seg,.int .i64 c.least,.int .i64 c.den,.int .i64 c.ll,.int .i64 c.rl,.int .i64 c.rh,.int .i64 c.lh,.int .i64 s.seg,.slice a1 s.ws.length k1,.slice a2 s.ks.length k2,.slice a3 s.vs.length k3,.slice a4 s.cs.length k4,.int .u64 s.laid] HC rfl rfl (fun _ h=>results_c rfl rfl (run_loadVar_many _ Tryz.underlying31 rfl xk h)) fun _ s=>⟨_,_,_,_,rfl,s.ow hz1 HP.out.1,s.ow hz1 HP.out.2.1,s.ow hz1 HP.out.2.2.1,s.ow hz1 HP.out.2.2.2,s.be hB2⟩
theorem Empty11_ok (c:Cfg) (d:SlC) (w:World) (EM:Hid (∀W,Calls Tryz.prog 56 #[.int .i64 c.seg,.int .i64 c.least] W (FreshSl W d))):
    Calls Tryz.prog 32 #[.agg #[.int .u8 c.tag,.int .i64 c.most,.int .i64 c.seg,.int .i64 c.least,.int .i64 c.den,.int .i64 c.ll,.int .i64 c.rl,.int .i64 c.rh,.int .i64 c.lh]] w (FreshPm w c d):=by
 go_enter Tryz.func32,Tryz.ntmps32
 go_upto_region 1 with (fail)
 generalize hwz:((w.alloc _).alloc _)=wz;have hh:=ec9 hwz (au9 (al9 (b:=w.heap.size) xsi));obtain ⟨c_t0,c_t1,c_t2,c_t3,c_t4,c_t5,c_t6,c_t7,c_t8⟩:=hh;have z_t:=elt hwz (auz (alz (b:=w.heap.size) xsi));have hh:=ec15 hwz (al15 (b:=w.heap.size+1) xsi);obtain ⟨c_r0,c_r1,c_r2,c_r3,c_r4,c_r5,c_r6,c_r7,c_r8,c_r9,c_r10,c_r11,c_r12,c_r13,c_r14⟩:=hh;have hh:=ef15 hwz (alf15 (b:=w.heap.size+1) xsi);obtain ⟨f_r0,f_r1,f_r2,f_r3,f_r4,f_r5,f_r6,f_r7,f_r8,f_r9,f_r10,f_r11,f_r12,f_r13,f_r14⟩:=hh;have z_r:=elt hwz (alz (b:=w.heap.size+1) xsi);have HS:Hid (Below w.heap.size w wz):=by rw [←hwz];exact hid ((br.alloc (Nat.le_refl _) _).alloc xsi _)
 have hzz:w.heap.size+2=wz.heap.size:=by rw [←hwz];simp
 clear hwz;refine wp_region_late 6 xk (N:=10) rfl xk xk xdd (fun w'=>Below wz.heap.size wz w') RB (factRAt [.is (.agg #[.int .u8 c.tag,.int .i64 c.most,.int .i64 c.seg,.int .i64 c.least,.int .i64 c.den,.int .i64 c.ll,.int .i64 c.rl,.int .i64 c.rh,.int .i64 c.lh]),.is (.pointer (some ⟨w.heap.size,2,none⟩)),.is (.int .i64 c.seg),.is (.pointer (some ⟨w.heap.size,3,none⟩)),.is (.int .i64 c.least),.sl wz.heap.size d]) (factRAt_stays _) br.drew ?steps ?fin
 case steps=>
  refine ⟨?o0,?o1,?o2,?o3,?o4,?o5,trivial⟩<;>intro u a w' ev hJ hd K hK
  case o0=>
   have e1:tg a 1= .pointer (some ⟨w.heap.size,0,none⟩):=ev 1 xdd;have g0:=xjc hJ c_t0;have g1:=xjc hJ c_t1;have g2:=xjc hJ c_t2;have g3:=xjc hJ c_t3;have g4:=xjc hJ c_t4;have g5:=xjc hJ c_t5;have g6:=xjc hJ c_t6;have g7:=xjc hJ c_t7;have g8:=xjc hJ c_t8;have HK:=hid hK;clear hK ev hd;go_simp;exact HK.out _ _ xzc hJ rfl br
  case o1=>
   have e1:tg a 1= .pointer (some ⟨w.heap.size,0,none⟩):=ev 1 xdd;have HK:=hid hK;clear hK ev hd;go_simp;exact HK.out _ _ xzc hJ rfl br
  case o2=>
   have e4:tg a 4= .pointer (some ⟨w.heap.size,2,none⟩):=(ev 4 xdd).trans (hd 1 _ xk rfl);have g2:=xjc hJ c_t2;have HK:=hid hK;clear hK ev hd;go_simp;exact HK.out _ _ xzc hJ rfl br
  case o3=>
   have e1:tg a 1= .pointer (some ⟨w.heap.size,0,none⟩):=ev 1 xdd;have HK:=hid hK;clear hK ev hd;go_simp;exact HK.out _ _ xzc hJ rfl br
  case o4=>
   have e6:tg a 6= .pointer (some ⟨w.heap.size,3,none⟩):=(ev 6 xdd).trans (hd 3 _ xk rfl);have g3:=xjc hJ c_t3;have HK:=hid hK;clear hK ev hd;go_simp;exact HK.out _ _ xzc hJ rfl br
  case o5=>
   have e5:tg a 5= .int .i64 c.seg:=(ev 5 xdd).trans (hd 2 _ xk rfl);have e7:tg a 7= .int .i64 c.least:=(ev 7 xdd).trans (hd 4 _ xk rfl);have HK:=hid hK;have HC:=hid (EM.out w');have hzJ:=hJ.size;have HJ:=hid hJ;clear hK ev hd hJ;go_simp;refine HC.out.mono ?_;rintro e w'' ⟨v1,v2,v3,v4,rfl,o1,o2,o3,o4,hb⟩;exact HK.out _ _ xzc (HJ.out.trans (hb.mono hzJ)) ⟨v1,v2,v3,v4,rfl,owns_base o1 hzJ,owns_base o2 hzJ,owns_base o3 hzJ,owns_base o4 hzJ⟩ hb
 case fin=>
  intro u w2 hJ hG;have h3:u 3= .agg #[.int .u8 c.tag,.int .i64 c.most,.int .i64 c.seg,.int .i64 c.least,.int .i64 c.den,.int .i64 c.ll,.int .i64 c.rl,.int .i64 c.rh,.int .i64 c.lh]:=hG 0 _ rfl;obtain ⟨v1,v2,v3,v4,h8,p1,p2,p3,p4⟩:(FactR.sl wz.heap.size d).holds (u 8) w2:=hG 5 _ rfl;obtain ⟨a1,k1,rfl,-⟩:=owns_news p1;obtain ⟨a2,k2,rfl,-⟩:=owns_news p2;obtain ⟨a3,k3,rfl,-⟩:=owns_news p3;obtain ⟨a4,k4,rfl,-⟩:=owns_news p4;have hz_w2:=hJ.size;simp (disch:=omega) only [xcl hJ,xfr hJ] at *;replace z_t:=blt hJ z_t;replace z_r:=blt hJ z_r;have hB2:Below w.heap.size w w2:=below_via hJ HS.out xo;have HP:=hid (And.intro p1 (And.intro p2 (And.intro p3 p4)));clear hG hJ p1 p2 p3 p4;simp only [mixFrame,mixL,dstsOf,List.take_succ_cons,List.take_zero,List.filterMap_cons,List.filterMap_nil,List.contains_cons,List.contains_nil,Nat.reduceBEq,Bool.or_false,Bool.false_or,Bool.or_true,Bool.true_or,if_true,if_false,Bool.false_eq_true,Nat.reduceAdd,Nat.zero_add,List.drop_succ_cons,List.drop_zero,h3,h8];go_wp2
  have hz1:w.heap.size+1<wz.heap.size:=xo;have HC:=hid (fifteen_some ⟨c_r0,c_r1,c_r2,c_r3,c_r4,c_r5,c_r6,c_r7,c_r8,c_r9,c_r10,c_r11,c_r12,c_r13,c_r14⟩);exact end_row (W:=w2) (b:=w.heap.size+1) [.int .u8 c.tag,.int .i64 c.most,.int .i64 c.seg,.int .i64 c.least,.int .i64 c.den,.int .i64 c.ll,.int .i64 c.rl,.int .i64 c.rh,.int .i64 c.lh,.int .i64 d.seg,.slice a1 d.ws.length k1,.slice a2 d.ks.length k2,.slice a3 d.vs.length k3,.slice a4 d.cs.length k4,.int .u64 d.laid] HC rfl rfl (fun _ h=>results_c rfl rfl (run_loadVar_many _ Tryz.underlying31 rfl xk h)) fun _ s=>⟨_,_,_,_,rfl,s.ow hz1 HP.out.1,s.ow hz1 HP.out.2.1,s.ow hz1 HP.out.2.2.1,s.ow hz1 HP.out.2.2.2,s.be hB2⟩
end
section
open Go.RowKit
theorem least_nums {c:Cfg} (h:cfMay c=true):∃S M:Nat,c.seg=S∧c.least=((S*M:Nat):Int)∧4≤S∧S≤64∧1≤M∧S*M≤65536∧pwB (S:Int)=true∧pwB (M:Int)=true:=by
 have f:=cfHead_facts (cfMay_head h);obtain ⟨s1,s2,a,ea⟩:=powB_nat f.2.2.2.2.1;obtain ⟨l1,l2,b,eb⟩:=powB_nat f.2.2.2.2.2.1;have hab:a≤b:=(Nat.pow_le_pow_iff_right (a:=2) xo).1 xo;have e:2^b=2^a*2^(b-a):=by rw [←Nat.pow_add,show a+(b-a)=b by omega]
 exact ⟨2^a,2^(b-a),ea,by rw [eb,e],by omega,by omega,Nat.two_pow_pos _,by rw [←e];omega,pwB_two _,pwB_two _⟩
def emptyC (c:Cfg):SlC:=emptyL c.seg.toNat (c.least.toNat/c.seg.toNat) 0
def newC (c:Cfg):SlC:=if cfMay c=true then emptyC c else nilC
def newF (c:Cfg):Cfg:=if cfMay c=true then c else ⟨0,0,0,0,0,0,0,0,0⟩
theorem emptyC_eq {c:Cfg} {S M:Nat} (h1:c.seg=S) (h2:c.least=((S*M:Nat):Int)) (h4:4≤S):emptyC c=emptyL S M 0:=by
 rw [emptyC,h1,h2,Int.toNat_natCast,Int.toNat_natCast,Nat.mul_div_cancel_left _ xo]
theorem newSl_ok {c:Cfg} (h:cfMay c=true) (w:World):Calls Tryz.prog 80 #[.int .i64 c.seg,.int .i64 c.least] w (FreshSl2 w (emptyC c) (.int .i64 0)):=by
 obtain ⟨S,M,h1,h2,h4,h6,hM,hm,pS,pM⟩:=least_nums h;obtain ⟨q1,q2,q3,q4⟩:=new_nums (M:=M) h4 hm;rw [emptyC_eq h1 h2 h4,h1,h2];have ge:=emptyL_gd h4 h6 hM hm 0;have gm:=gd_may ge pS pM rfl;refine slNew_core w S (S*M) ((S*M+63)/64) M h4 hm h6 q1 q2 xo q4 (hid fun W'=> ?_);have:=fits_ok (S:Int) ((S*M:Nat):Int) W';rwa [gd_fit ge gm] at this
theorem emptySl_ok {c:Cfg} (h:cfMay c=true) (w:World):Calls Tryz.prog 56 #[.int .i64 c.seg,.int .i64 c.least] w (FreshSl w (emptyC c)):=by
 obtain ⟨S,M,h1,h2,h4,h6,hM,hm,pS,pM⟩:=least_nums h;obtain ⟨q1,q2,q3,q4⟩:=new_nums (M:=M) h4 hm;rw [emptyC_eq h1 h2 h4,h1,h2];exact Empty04_core w S (S*M) ((S*M+63)/64) M h4 hm h6 q1 q2 xo q4
theorem gapNew_err (c:Cfg) (e:Int) (he:e≠0) (w:World) (CK:Hid (∀W,Calls Tryz.prog 79 #[.agg #[.int .u8 c.tag,.int .i64 c.most,.int .i64 c.seg,.int .i64 c.least,.int .i64 c.den,.int .i64 c.ll,.int .i64 c.rl,.int .i64 c.rh,.int .i64 c.lh]] W (AnsB W (.int .i64 e)))):
    Calls Tryz.prog 53 #[.agg #[.int .u8 c.tag,.int .i64 c.most,.int .i64 c.seg,.int .i64 c.least,.int .i64 c.den,.int .i64 c.ll,.int .i64 c.rl,.int .i64 c.rh,.int .i64 c.lh]] w (FreshSl2 w nilC (.int .i64 e)):=by
 have ge:(e != 0)=true:=by simpa using he
 clear he;go_enter Tryz.func53,Tryz.ntmps53
 go_wp2_with fail
 refine (CK.out _).mono ?_;rintro e w1 ⟨rfl,hb1⟩;have hz_w1:=hb1.size;try simp only [World.size_alloc,World.size_setCell] at hz_w1
 have hh:=bc9 hb1 (au9 (al9 (b:=w.heap.size) xsi));obtain ⟨c_t0,c_t1,c_t2,c_t3,c_t4,c_t5,c_t6,c_t7,c_t8⟩:=hh;have z_t:=blt hb1 (auz (alz (b:=w.heap.size) xsi));have hh:=bc6 hb1 (al6 (b:=w.heap.size+1) xsi);obtain ⟨c_r0,c_r1,c_r2,c_r3,c_r4,c_r5⟩:=hh;have hh:=bf6 hb1 (alz (b:=w.heap.size+1) xsi) (alf6 (b:=w.heap.size+1) xsi);obtain ⟨f_r0,f_r1,f_r2,f_r3,f_r4,f_r5⟩:=hh;have z_r:=blt hb1 (alz (b:=w.heap.size+1) xsi);have hB1:Below w.heap.size w w1:=xbel;go_wp2
 have HC:=hid (six_some ⟨c_r0,c_r1,c_r2,c_r3,c_r4,c_r5⟩);exact end_row (W:=w1) (b:=w.heap.size+1) [.int .i64 0,.slice none 0 0,.slice none 0 0,.slice none 0 0,.slice none 0 0,.int .u64 0] HC rfl rfl (fun _ h=>results_ct rfl rfl (run_loadVar_many _ Tryz.underlying29 rfl xk h)) fun _ s=>⟨_,_,_,_,rfl,World.ownsRow_nil _ _ _ _,World.ownsRow_nil _ _ _ _,World.ownsRow_nil _ _ _ _,World.ownsRow_nil _ _ _ _,s.be hB1⟩
theorem gapNew_in (c:Cfg) (d:SlC) (w:World) (CK:Hid (∀W,Calls Tryz.prog 79 #[.agg #[.int .u8 c.tag,.int .i64 c.most,.int .i64 c.seg,.int .i64 c.least,.int .i64 c.den,.int .i64 c.ll,.int .i64 c.rl,.int .i64 c.rh,.int .i64 c.lh]] W (AnsB W (.int .i64 0)))) (NW:Hid (∀W,Calls Tryz.prog 80 #[.int .i64 c.seg,.int .i64 c.least] W (FreshSl2 W d (.int .i64 0)))):
    Calls Tryz.prog 53 #[.agg #[.int .u8 c.tag,.int .i64 c.most,.int .i64 c.seg,.int .i64 c.least,.int .i64 c.den,.int .i64 c.ll,.int .i64 c.rl,.int .i64 c.rh,.int .i64 c.lh]] w (FreshSl2 w d (.int .i64 0)):=by
 go_enter Tryz.func53,Tryz.ntmps53
 go_wp2_with fail
 refine (CK.out _).mono ?_;rintro e w1 ⟨rfl,hb1⟩;have hz_w1:=hb1.size;try simp only [World.size_alloc,World.size_setCell] at hz_w1
 have hh:=bc9 hb1 (au9 (al9 (b:=w.heap.size) xsi));obtain ⟨c_t0,c_t1,c_t2,c_t3,c_t4,c_t5,c_t6,c_t7,c_t8⟩:=hh;have z_t:=blt hb1 (auz (alz (b:=w.heap.size) xsi));have hh:=bc6 hb1 (al6 (b:=w.heap.size+1) xsi);obtain ⟨c_r0,c_r1,c_r2,c_r3,c_r4,c_r5⟩:=hh;have hh:=bf6 hb1 (alz (b:=w.heap.size+1) xsi) (alf6 (b:=w.heap.size+1) xsi);obtain ⟨f_r0,f_r1,f_r2,f_r3,f_r4,f_r5⟩:=hh;have z_r:=blt hb1 (alz (b:=w.heap.size+1) xsi);have hB1:Below w.heap.size w w1:=xbel;have hz1:=z_r;go_wp2_with fail
 refine (NW.out _).mono ?_;rintro e w2 ⟨v1,v2,v3,v4,rfl,p1,p2,p3,p4,hb2⟩;have hz_w2:=hb2.size;simp (disch:=omega) only [xcl hb2,xfr hb2] at *;replace z_t:=blt hb2 z_t;replace z_r:=blt hb2 z_r;have hB2:=below_via hb2 hB1 hB1.size;obtain ⟨a1,k1,rfl,-,-,-,-,-⟩:=row_of_owns p1;obtain ⟨a2,k2,rfl,-,-,-,-,-⟩:=row_of_owns p2;obtain ⟨a3,k3,rfl,-,-,-,-,-⟩:=row_of_owns p3;obtain ⟨a4,k4,rfl,-,-,-,-,-⟩:=row_of_owns p4;have HP:=hid (And.intro p1 (And.intro p2 (And.intro p3 p4)));clear p1 p2 p3 p4;go_wp2
 have HC:=hid (six_some ⟨c_r0,c_r1,c_r2,c_r3,c_r4,c_r5⟩);exact end_row (W:=w2) (b:=w.heap.size+1) [.int .i64 d.seg,.slice a1 d.ws.length k1,.slice a2 d.ks.length k2,.slice a3 d.vs.length k3,.slice a4 d.cs.length k4,.int .u64 d.laid] HC rfl rfl (fun _ h=>results_ct rfl rfl (run_loadVar_many _ Tryz.underlying29 rfl xk h)) fun _ s=>⟨_,_,_,_,rfl,s.ow hz1 HP.out.1,s.ow hz1 HP.out.2.1,s.ow hz1 HP.out.2.2.1,s.ow hz1 HP.out.2.2.2,s.be hB2⟩
theorem gapNew_ok (c:Cfg) (w:World):Calls Tryz.prog 53 #[.agg #[.int .u8 c.tag,.int .i64 c.most,.int .i64 c.seg,.int .i64 c.least,.int .i64 c.den,.int .i64 c.ll,.int .i64 c.rl,.int .i64 c.rh,.int .i64 c.lh]] w (FreshSl2 w (newC c) (.int .i64 (cfE c))):=by
 cases h:cfMay c with
 | true=>
  have e:cfE c=0:=cfE_ok h;rw [newC,if_pos h,e];exact gapNew_in c (emptyC c) w (hid fun W=>e ▸ Check5_ok c W) (hid fun W=>newSl_ok h W)
 | false=>
  have e:cfE c=50:=by simp [cfE,h]
  rw [newC,if_neg (by simp [h]),e];exact gapNew_err c 50 xdd w (hid fun W=>e ▸ Check5_ok c W)
theorem pmaNew_err (c:Cfg) (d:SlC) (e:Int) (he:e≠0) (w:World) (NG:Hid (∀W,Calls Tryz.prog 53 #[.agg #[.int .u8 c.tag,.int .i64 c.most,.int .i64 c.seg,.int .i64 c.least,.int .i64 c.den,.int .i64 c.ll,.int .i64 c.rl,.int .i64 c.rh,.int .i64 c.lh]] W (FreshSl2 W d (.int .i64 e)))):
    Calls Tryz.prog 28 #[.agg #[.int .u8 c.tag,.int .i64 c.most,.int .i64 c.seg,.int .i64 c.least,.int .i64 c.den,.int .i64 c.ll,.int .i64 c.rl,.int .i64 c.rh,.int .i64 c.lh]] w (FreshPm2 w ⟨0,0,0,0,0,0,0,0,0⟩ nilC (.int .i64 e)):=by
 have ge:(e != 0)=true:=by simpa using he
 clear he;go_enter Tryz.func28,Tryz.ntmps28
 go_wp2_with fail
 refine (NG.out _).mono ?_;rintro e w1 ⟨v1,v2,v3,v4,rfl,p1,p2,p3,p4,hb1⟩;have hz_w1:=hb1.size;try simp only [World.size_alloc,World.size_setCell] at hz_w1
 have hh:=bc9 hb1 (au9 (al9 (b:=w.heap.size) xsi));obtain ⟨c_t0,c_t1,c_t2,c_t3,c_t4,c_t5,c_t6,c_t7,c_t8⟩:=hh;have z_t:=blt hb1 (auz (alz (b:=w.heap.size) xsi));have hh:=bc15 hb1 (al15 (b:=w.heap.size+1) xsi);obtain ⟨c_r0,c_r1,c_r2,c_r3,c_r4,c_r5,c_r6,c_r7,c_r8,c_r9,c_r10,c_r11,c_r12,c_r13,c_r14⟩:=hh;have hh:=bf15 hb1 (alz (b:=w.heap.size+1) xsi) (alf15 (b:=w.heap.size+1) xsi);obtain ⟨f_r0,f_r1,f_r2,f_r3,f_r4,f_r5,f_r6,f_r7,f_r8,f_r9,f_r10,f_r11,f_r12,f_r13,f_r14⟩:=hh;have z_r:=blt hb1 (alz (b:=w.heap.size+1) xsi);have hB1:Below w.heap.size w w1:=xbel;obtain ⟨a1,k1,rfl,-,-,-,-,-⟩:=row_of_owns p1;obtain ⟨a2,k2,rfl,-,-,-,-,-⟩:=row_of_owns p2;obtain ⟨a3,k3,rfl,-,-,-,-,-⟩:=row_of_owns p3;obtain ⟨a4,k4,rfl,-,-,-,-,-⟩:=row_of_owns p4;clear p1 p2 p3 p4;go_upto_region 2 with (fail)
 generalize hw2:w1.alloc _=w2;have hh:=ec9 hw2 (au9 (⟨c_t0,c_t1,c_t2,c_t3,c_t4,c_t5,c_t6,c_t7,c_t8⟩));clear c_t0 c_t1 c_t2 c_t3 c_t4 c_t5 c_t6 c_t7 c_t8;obtain ⟨c_t0,c_t1,c_t2,c_t3,c_t4,c_t5,c_t6,c_t7,c_t8⟩:=hh;replace z_t:=elt hw2 (auz (z_t));have hh:=ec15 hw2 (au15 (⟨c_r0,c_r1,c_r2,c_r3,c_r4,c_r5,c_r6,c_r7,c_r8,c_r9,c_r10,c_r11,c_r12,c_r13,c_r14⟩));clear c_r0 c_r1 c_r2 c_r3 c_r4 c_r5 c_r6 c_r7 c_r8 c_r9 c_r10 c_r11 c_r12 c_r13 c_r14;obtain ⟨c_r0,c_r1,c_r2,c_r3,c_r4,c_r5,c_r6,c_r7,c_r8,c_r9,c_r10,c_r11,c_r12,c_r13,c_r14⟩:=hh;have hh:=ef15 hw2 (auf15 z_r ⟨f_r0,f_r1,f_r2,f_r3,f_r4,f_r5,f_r6,f_r7,f_r8,f_r9,f_r10,f_r11,f_r12,f_r13,f_r14⟩);clear f_r0 f_r1 f_r2 f_r3 f_r4 f_r5 f_r6 f_r7 f_r8 f_r9 f_r10 f_r11 f_r12 f_r13 f_r14;obtain ⟨f_r0,f_r1,f_r2,f_r3,f_r4,f_r5,f_r6,f_r7,f_r8,f_r9,f_r10,f_r11,f_r12,f_r13,f_r14⟩:=hh;replace z_r:=elt hw2 (auz (z_r));have hB2:Below w.heap.size w w2:=by rw [←hw2];exact hB1.alloc hB1.size _
 clear hw2;go_wp2
 have HC:=hid (fifteen_some ⟨c_r0,c_r1,c_r2,c_r3,c_r4,c_r5,c_r6,c_r7,c_r8,c_r9,c_r10,c_r11,c_r12,c_r13,c_r14⟩);exact end_row (W:=w2) (b:=w.heap.size+1) [.int .u8 0,.int .i64 0,.int .i64 0,.int .i64 0,.int .i64 0,.int .i64 0,.int .i64 0,.int .i64 0,.int .i64 0,.int .i64 0,.slice none 0 0,.slice none 0 0,.slice none 0 0,.slice none 0 0,.int .u64 0] HC rfl rfl (fun _ h=>results_ct rfl rfl (run_loadVar_many _ Tryz.underlying31 rfl xk h)) fun _ s=>⟨_,_,_,_,rfl,World.ownsRow_nil _ _ _ _,World.ownsRow_nil _ _ _ _,World.ownsRow_nil _ _ _ _,World.ownsRow_nil _ _ _ _,s.be hB2⟩
theorem pmaNew_in (c:Cfg) (d:SlC) (w:World) (NG:Hid (∀W,Calls Tryz.prog 53 #[.agg #[.int .u8 c.tag,.int .i64 c.most,.int .i64 c.seg,.int .i64 c.least,.int .i64 c.den,.int .i64 c.ll,.int .i64 c.rl,.int .i64 c.rh,.int .i64 c.lh]] W (FreshSl2 W d (.int .i64 0)))):
    Calls Tryz.prog 28 #[.agg #[.int .u8 c.tag,.int .i64 c.most,.int .i64 c.seg,.int .i64 c.least,.int .i64 c.den,.int .i64 c.ll,.int .i64 c.rl,.int .i64 c.rh,.int .i64 c.lh]] w (FreshPm2 w c d (.int .i64 0)):=by
 go_enter Tryz.func28,Tryz.ntmps28
 go_wp2_with fail
 refine (NG.out _).mono ?_;rintro e w1 ⟨v1,v2,v3,v4,rfl,p1,p2,p3,p4,hb1⟩;have hz_w1:=hb1.size;try simp only [World.size_alloc,World.size_setCell] at hz_w1
 have hh:=bc9 hb1 (au9 (al9 (b:=w.heap.size) xsi));obtain ⟨c_t0,c_t1,c_t2,c_t3,c_t4,c_t5,c_t6,c_t7,c_t8⟩:=hh;have z_t:=blt hb1 (auz (alz (b:=w.heap.size) xsi));have hh:=bc15 hb1 (al15 (b:=w.heap.size+1) xsi);obtain ⟨c_r0,c_r1,c_r2,c_r3,c_r4,c_r5,c_r6,c_r7,c_r8,c_r9,c_r10,c_r11,c_r12,c_r13,c_r14⟩:=hh;have hh:=bf15 hb1 (alz (b:=w.heap.size+1) xsi) (alf15 (b:=w.heap.size+1) xsi);obtain ⟨f_r0,f_r1,f_r2,f_r3,f_r4,f_r5,f_r6,f_r7,f_r8,f_r9,f_r10,f_r11,f_r12,f_r13,f_r14⟩:=hh;have z_r:=blt hb1 (alz (b:=w.heap.size+1) xsi);have hB1:Below w.heap.size w w1:=xbel;obtain ⟨a1,k1,rfl,-,-,-,-,-⟩:=row_of_owns p1;obtain ⟨a2,k2,rfl,-,-,-,-,-⟩:=row_of_owns p2;obtain ⟨a3,k3,rfl,-,-,-,-,-⟩:=row_of_owns p3;obtain ⟨a4,k4,rfl,-,-,-,-,-⟩:=row_of_owns p4;go_upto_region 2 with (fail)
 generalize hw2:w1.alloc _=w2;have hh:=ec9 hw2 (au9 (⟨c_t0,c_t1,c_t2,c_t3,c_t4,c_t5,c_t6,c_t7,c_t8⟩));clear c_t0 c_t1 c_t2 c_t3 c_t4 c_t5 c_t6 c_t7 c_t8;obtain ⟨c_t0,c_t1,c_t2,c_t3,c_t4,c_t5,c_t6,c_t7,c_t8⟩:=hh;replace z_t:=elt hw2 (auz (z_t));have hh:=ec15 hw2 (au15 (⟨c_r0,c_r1,c_r2,c_r3,c_r4,c_r5,c_r6,c_r7,c_r8,c_r9,c_r10,c_r11,c_r12,c_r13,c_r14⟩));clear c_r0 c_r1 c_r2 c_r3 c_r4 c_r5 c_r6 c_r7 c_r8 c_r9 c_r10 c_r11 c_r12 c_r13 c_r14;obtain ⟨c_r0,c_r1,c_r2,c_r3,c_r4,c_r5,c_r6,c_r7,c_r8,c_r9,c_r10,c_r11,c_r12,c_r13,c_r14⟩:=hh;have hh:=ef15 hw2 (auf15 z_r ⟨f_r0,f_r1,f_r2,f_r3,f_r4,f_r5,f_r6,f_r7,f_r8,f_r9,f_r10,f_r11,f_r12,f_r13,f_r14⟩);clear f_r0 f_r1 f_r2 f_r3 f_r4 f_r5 f_r6 f_r7 f_r8 f_r9 f_r10 f_r11 f_r12 f_r13 f_r14;obtain ⟨f_r0,f_r1,f_r2,f_r3,f_r4,f_r5,f_r6,f_r7,f_r8,f_r9,f_r10,f_r11,f_r12,f_r13,f_r14⟩:=hh;replace z_r:=elt hw2 (auz (z_r));have hh:=ec6 hw2 (al6 (b:=w1.heap.size) xsi);obtain ⟨c_o0,c_o1,c_o2,c_o3,c_o4,c_o5⟩:=hh;have z_o:=elt hw2 (alz (b:=w1.heap.size) xsi);have hb2:Below w1.heap.size w1 w2:=by rw [←hw2];exact br.alloc (Nat.le_refl _) _
 have hB2:=below_via hb2 hB1 hB1.size;have hz1:w.heap.size+1<w.heap.size+2:=xo;simp only [World.size_alloc] at p1 p2 p3 p4;have HP:=hid (And.intro (owns_below p1 hb2) (And.intro (owns_below p2 hb2) (And.intro (owns_below p3 hb2) (owns_below p4 hb2))));clear hw2 p1 p2 p3 p4;go_wp2
 have HC:=hid (fifteen_some ⟨c_r0,c_r1,c_r2,c_r3,c_r4,c_r5,c_r6,c_r7,c_r8,c_r9,c_r10,c_r11,c_r12,c_r13,c_r14⟩);exact end_row (W:=w2) (b:=w.heap.size+1) [.int .u8 c.tag,.int .i64 c.most,.int .i64 c.seg,.int .i64 c.least,.int .i64 c.den,.int .i64 c.ll,.int .i64 c.rl,.int .i64 c.rh,.int .i64 c.lh,.int .i64 d.seg,.slice a1 d.ws.length k1,.slice a2 d.ks.length k2,.slice a3 d.vs.length k3,.slice a4 d.cs.length k4,.int .u64 d.laid] HC rfl rfl (fun _ h=>results_ct rfl rfl (run_loadVar_many _ Tryz.underlying31 rfl xk h)) fun _ s=>⟨_,_,_,_,rfl,s.ow hz1 HP.out.1,s.ow hz1 HP.out.2.1,s.ow hz1 HP.out.2.2.1,s.ow hz1 HP.out.2.2.2,s.be hB2⟩
theorem pmaNew_ok (c:Cfg) (w:World):Calls Tryz.prog 28 #[.agg #[.int .u8 c.tag,.int .i64 c.most,.int .i64 c.seg,.int .i64 c.least,.int .i64 c.den,.int .i64 c.ll,.int .i64 c.rl,.int .i64 c.rh,.int .i64 c.lh]] w (FreshPm2 w (newF c) (newC c) (.int .i64 (cfE c))):=by
 cases h:cfMay c with
 | true=>
  have e:cfE c=0:=cfE_ok h;have hn:newC c=emptyC c:=by rw [newC,if_pos h]
  rw [newF,if_pos h,e];exact pmaNew_in c (newC c) w (hid fun W=>e ▸ gapNew_ok c W)
 | false=>
  have e:cfE c=50:=by simp [cfE,h]
  rw [newF,if_neg (by simp [h]),newC,if_neg (by simp [h]),e];exact pmaNew_err c (newC c) 50 xdd w (hid fun W=>e ▸ gapNew_ok c W)
theorem Check05_ok (c:Cfg) (w:World):Calls Tryz.prog 30 #[.agg #[.int .u8 c.tag,.int .i64 c.most,.int .i64 c.seg,.int .i64 c.least,.int .i64 c.den,.int .i64 c.ll,.int .i64 c.rl,.int .i64 c.rh,.int .i64 c.lh]] w (AnsB w (.int .i64 (cfE c))):=by
 have MY:=hid (May05_ok c);unfold cfE;cases h:cfMay c with
 | true=>
  rw [h] at MY;rw [if_pos rfl];clear h;go_enter Tryz.func30,Tryz.ntmps30
  go_wp2_with fail
  refine (MY.out _).mono ?_;rintro e w1 ⟨rfl,hb1⟩;have hz_w1:=hb1.size;try simp only [World.size_alloc,World.size_setCell] at hz_w1
  have hh:=bc9 hb1 (al9 (b:=w.heap.size) xsi);obtain ⟨c_t0,c_t1,c_t2,c_t3,c_t4,c_t5,c_t6,c_t7,c_t8⟩:=hh;have z_t:=blt hb1 (alz (b:=w.heap.size) xsi);have hB1:Below w.heap.size w w1:=xbel;go_wp2
  go_ret
  exact ⟨rfl,hB1⟩
 | false=>
  rw [h] at MY;rw [if_neg xdd];clear h;go_enter Tryz.func30,Tryz.ntmps30
  go_wp2_with fail
  refine (MY.out _).mono ?_;rintro e w1 ⟨rfl,hb1⟩;have hz_w1:=hb1.size;try simp only [World.size_alloc,World.size_setCell] at hz_w1
  have hh:=bc9 hb1 (al9 (b:=w.heap.size) xsi);obtain ⟨c_t0,c_t1,c_t2,c_t3,c_t4,c_t5,c_t6,c_t7,c_t8⟩:=hh;have z_t:=blt hb1 (alz (b:=w.heap.size) xsi);have hB1:Below w.heap.size w w1:=xbel;go_wp2
  go_ret
  exact ⟨rfl,hB1⟩
theorem Twin_ix (L:Int) (ma ca:Option Addr) (mc cc:Nat) (ms cs:List Int) (w:World) (hm:IsRow .i64 w ma ms) (hc:IsRow .i64 w ca cs) (hlm:ms.length≤100000) (hlc:cs.length≤100000):
    Calls Tryz.prog 27 #[ixV L ma ms.length mc ca cs.length cc] w (FreshIx w L ms cs):=by
 have HM:=hid hm;have HC:=hid hc;clear hm hc;go_enter Tryz.func27,Tryz.ntmps27
 go_wp2
 have hS:Below w.heap.size w ((w.alloc (.cells #[.int .i64 L,.slice ma ms.length mc,.slice ca cs.length cc] 33)).alloc (.cells #[.int .i64 0,.slice none 0 0,.slice none 0 0] 33)):=((Below.refl _ w).alloc (Nat.le_refl _) _).alloc xsi _;have HS:=hid hS.drew;have HS0:=hid hS;clear hS;have e0:IsRow .i64 (((w.alloc (.cells #[.int .i64 L,.slice ma ms.length mc,.slice ca cs.length cc] 33)).alloc (.cells #[.int .i64 0,.slice none 0 0,.slice none 0 0] 33)).drew) ma ms:=HM.out.below HS.out;generalize hw1:(((w.alloc (.cells #[.int .i64 L,.slice ma ms.length mc,.slice ca cs.length cc] 33)).alloc (.cells #[.int .i64 0,.slice none 0 0,.slice none 0 0] 33)))=wz at *;have s0:wz.cell? ⟨w.heap.size,0,none⟩=some (.int .i64 L):=by rw [←hw1];(exact xcw)
 have s1:wz.cell? ⟨w.heap.size,1,none⟩=some (.slice ma ms.length mc):=by rw [←hw1];(exact xcw)
 have s2:wz.cell? ⟨w.heap.size,2,none⟩=some (.slice ca cs.length cc):=by rw [←hw1];(exact xcw)
 have p1:wz.frozen? ⟨w.heap.size,1,none⟩=false:=by rw [←hw1];(exact xcw)
 have p2:wz.frozen? ⟨w.heap.size,2,none⟩=false:=by rw [←hw1];(exact xcw)
 have f0:wz.cell? ⟨w.heap.size+1,0,none⟩=some (.int .i64 0):=by rw [←hw1];(exact xcw)
 have f1:wz.cell? ⟨w.heap.size+1,1,none⟩=some (.slice none 0 0):=by rw [←hw1];(exact xcw)
 have f2:wz.cell? ⟨w.heap.size+1,2,none⟩=some (.slice none 0 0):=by rw [←hw1];(exact xcw)
 have q0:wz.frozen? ⟨w.heap.size+1,0,none⟩=false:=by rw [←hw1];(exact xcw)
 have q1:wz.frozen? ⟨w.heap.size+1,1,none⟩=false:=by rw [←hw1];(exact xcw)
 have q2:wz.frozen? ⟨w.heap.size+1,2,none⟩=false:=by rw [←hw1];(exact xcw)
 have fz:w.heap.size+2≤wz.heap.size:=by
  rw [←hw1];simp
 clear hw1;have ez:wz.drew.heap.size=wz.heap.size:=rfl;have KP:=hid (fun (W:World) (hb:Below wz.heap.size wz W)=>(⟨(hb.cell (p:=⟨w.heap.size,0,none⟩) (by show w.heap.size<wz.heap.size;omega)).trans s0,(hb.cell (p:=⟨w.heap.size,1,none⟩) (by show w.heap.size<wz.heap.size;omega)).trans s1,(hb.cell (p:=⟨w.heap.size,2,none⟩) (by show w.heap.size<wz.heap.size;omega)).trans s2,
     (hb.frozen (p:=⟨w.heap.size,1,none⟩) (by show w.heap.size<wz.heap.size;omega)).trans p1,(hb.frozen (p:=⟨w.heap.size,2,none⟩) (by show w.heap.size<wz.heap.size;omega)).trans p2,
     (hb.cell (p:=⟨w.heap.size+1,0,none⟩) (by show w.heap.size+1<wz.heap.size;omega)).trans f0,(hb.cell (p:=⟨w.heap.size+1,1,none⟩) (by show w.heap.size+1<wz.heap.size;omega)).trans f1,(hb.cell (p:=⟨w.heap.size+1,2,none⟩) (by show w.heap.size+1<wz.heap.size;omega)).trans f2,
     (hb.frozen (p:=⟨w.heap.size+1,0,none⟩) (by show w.heap.size+1<wz.heap.size;omega)).trans q0,(hb.frozen (p:=⟨w.heap.size+1,1,none⟩) (by show w.heap.size+1<wz.heap.size;omega)).trans q1,(hb.frozen (p:=⟨w.heap.size+1,2,none⟩) (by show w.heap.size+1<wz.heap.size;omega)).trans q2⟩:
     W.cell? ⟨w.heap.size,0,none⟩=some (.int .i64 L)∧W.cell? ⟨w.heap.size,1,none⟩=some (.slice ma ms.length mc)∧W.cell? ⟨w.heap.size,2,none⟩=some (.slice ca cs.length cc)∧
     W.frozen? ⟨w.heap.size,1,none⟩=false∧W.frozen? ⟨w.heap.size,2,none⟩=false∧
     W.cell? ⟨w.heap.size+1,0,none⟩=some (.int .i64 0)∧W.cell? ⟨w.heap.size+1,1,none⟩=some (.slice none 0 0)∧W.cell? ⟨w.heap.size+1,2,none⟩=some (.slice none 0 0)∧
     W.frozen? ⟨w.heap.size+1,0,none⟩=false∧W.frozen? ⟨w.heap.size+1,1,none⟩=false∧W.frozen? ⟨w.heap.size+1,2,none⟩=false))
 go_region_law (first
   | (go_simp;go_at_call 51;refine (Clone_int64 ma mc ms _ e0 hlm).mono ?_;rintro e w1 ⟨v1,rfl,ho1,hb1⟩;obtain ⟨ao1,cc1,rfl,hn1,-⟩:=owns_news ho1
      have hb1z:Below wz.heap.size wz w1:=below_via hb1 br.drew xo;obtain ⟨g0,g1,g2,g3,g4,g5,g6,g7,g8,g9,g10⟩:=KP.out _ hb1z;have hz1:=hb1z.size)
   | (go_simp;go_at_call 52;refine (Clone_int ca cc cs _ (HC.out.below (HS.out.trans (hb1.mono HS.out.size))) hlc).mono ?_;rintro e w2 ⟨v2,rfl,ho2,hb2⟩;obtain ⟨ao2,cc2,rfl,hn2,-⟩:=owns_news ho2
      have hb2z:Below wz.heap.size wz w2:=below_via hb2 hb1z xo;obtain ⟨k0,k1,k2,k3,k4,k5,k6,k7,k8,k9,k10⟩:=KP.out _ hb2z))
 all_goals
   have hk1:=ho1.lt;have hk2:=ho2.lt;have hz2:=hb2.size;clear s0 s1 s2 p1 p2 f0 f1 f2 q0 q1 q2 g0 g1 g2 g3 g4 g5 g6 g7 g8 g9 g10;go_wp2
   have e1:((w2.setCell ⟨w.heap.size,1,none⟩ (.slice ao1 ms.length cc1)).setCell ⟨w.heap.size,2,none⟩ (.slice ao2 cs.length cc2)).cell? ⟨w.heap.size,0,none⟩=some (.int .i64 L):=by
    rw [World.cell?_setCell_other _ _ _ _ (by intro e;simp at e),World.cell?_setCell_other _ _ _ _ (by intro e;simp at e)];exact k0
   have e2:((w2.setCell ⟨w.heap.size,1,none⟩ (.slice ao1 ms.length cc1)).setCell ⟨w.heap.size,2,none⟩ (.slice ao2 cs.length cc2)).cell? ⟨w.heap.size,1,none⟩=some (.slice ao1 ms.length cc1):=by
    rw [World.cell?_setCell_other _ _ _ _ (by intro e;simp at e),World.cell?_setCell_same _ _ _ k1]
   have e3:((w2.setCell ⟨w.heap.size,1,none⟩ (.slice ao1 ms.length cc1)).setCell ⟨w.heap.size,2,none⟩ (.slice ao2 cs.length cc2)).cell? ⟨w.heap.size,2,none⟩=some (.slice ao2 cs.length cc2):=by
    refine World.cell?_setCell_same _ _ _ (u:= .slice ca cs.length cc) ?_;rw [World.cell?_setCell_other _ _ _ _ (by intro e;simp at e)];exact k2
   generalize hwy:((w2.setCell ⟨w.heap.size,1,none⟩ (.slice ao1 ms.length cc1)).setCell ⟨w.heap.size,2,none⟩ (.slice ao2 cs.length cc2))=wy at *;have y0:wy.cell? ⟨w.heap.size+1,0,none⟩=some (.int .i64 0):=by rw [←hwy];(exact xcg)
   have y1:wy.cell? ⟨w.heap.size+1,1,none⟩=some (.slice none 0 0):=by rw [←hwy];(exact xcg)
   have y2:wy.cell? ⟨w.heap.size+1,2,none⟩=some (.slice none 0 0):=by rw [←hwy];(exact xcg)
   have z0:wy.frozen? ⟨w.heap.size+1,0,none⟩=false:=by rw [←hwy];(exact xcg)
   have z1:wy.frozen? ⟨w.heap.size+1,1,none⟩=false:=by rw [←hwy];(exact xcg)
   have z2:wy.frozen? ⟨w.heap.size+1,2,none⟩=false:=by rw [←hwy];(exact xcg)
   have o1:=owns_heap (W':=wy) (owns_base (owns_below ho1 hb2) (base':=w.heap.size) (by rw [ez];omega)) (fun k hk=>by
    have h:=hk1 k hk;rw [ez] at h;rw [←hwy,heap_setCell_ne _ _ _ (by show k≠w.heap.size;omega),heap_setCell_ne _ _ _ (by show k≠w.heap.size;omega)])
   have o2:=owns_heap (W':=wy) (owns_base ho2 (base':=w.heap.size) xo) (fun k hk=>by
    have h:=hk2 k hk;rw [←hwy,heap_setCell_ne _ _ _ (by show k≠w.heap.size;omega),heap_setCell_ne _ _ _ (by show k≠w.heap.size;omega)])
   have hby:Below w.heap.size w wy:=by
    rw [←hwy];exact ((below_via hb2z HS0.out xo).setCell (by show w.heap.size≤w.heap.size;omega) _).setCell (by show w.heap.size≤w.heap.size;omega) _
   have O1:=hid o1;have O2:=hid o2;have BY:=hid hby;have HK1:=hid hk1;have HK2:=hid hk2;clear o1 o2 hby hk1 hk2 hwy k0 k1 k2 k3 k4 k5 k6 k7 k8 k9 k10 ho1 ho2 hb1 hb2 hb1z hb2z e0;go_wp2
   have t0:∀j v,[Value.int .i64 L,.slice ao1 ms.length cc1,.slice ao2 cs.length cc2][j]? =some v→(((wy.setCell ⟨w.heap.size+1,0,none⟩ (.int .i64 L)).setCell ⟨w.heap.size+1,1,none⟩ (.slice ao1 ms.length cc1)).setCell ⟨w.heap.size+1,2,none⟩ (.slice ao2 cs.length cc2)).cell? ⟨w.heap.size+1,j,none⟩=some v:=
     three_at (by rw [World.cell?_setCell_other _ _ _ _ (by intro e;simp at e),World.cell?_setCell_other _ _ _ _ (by intro e;simp at e)];exact World.cell?_setCell_same _ _ _ y0)
       (by rw [World.cell?_setCell_other _ _ _ _ (by intro e;simp at e)];exact World.cell?_setCell_same _ _ _ (by rw [World.cell?_setCell_other _ _ _ _ (by intro e;simp at e)];exact y1))
       (World.cell?_setCell_same _ _ _ (by rw [World.cell?_setCell_other _ _ _ _ (by intro e;simp at e),World.cell?_setCell_other _ _ _ _ (by intro e;simp at e)];exact y2))
   refine bodyPost_ret (results_c rfl rfl (run_loadVar_many _ Tryz.underlying33 rfl xk t0)) rfl ⟨_,_,rfl,?_,?_,?_⟩
   · exact owns_heap O1.out fun k hk=>by have:=HK1.out k hk;rw [ez] at this;rw [heap_setCell_ne _ _ _ (by show k≠w.heap.size+1;omega),heap_setCell_ne _ _ _ (by show k≠w.heap.size+1;omega),heap_setCell_ne _ _ _ (by show k≠w.heap.size+1;omega)]
   · exact owns_heap O2.out fun k hk=>by have:=HK2.out k hk;rw [heap_setCell_ne _ _ _ (by show k≠w.heap.size+1;omega),heap_setCell_ne _ _ _ (by show k≠w.heap.size+1;omega),heap_setCell_ne _ _ _ (by show k≠w.heap.size+1;omega)]
   · exact ((BY.out.setCell (by show w.heap.size≤w.heap.size+1;omega) _).setCell (by show w.heap.size≤w.heap.size+1;omega) _).setCell (by show w.heap.size≤w.heap.size+1;omega) _
end
end Go.Proofs.YtbedhbpgnfffmaaGreat

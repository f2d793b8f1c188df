/- Merged: CbFr, Cb12, Bel10. -/
import Derived.Test.YtbedhbpgnfffmaaGreatCobTellsP20
import Derived.Test.YtbedhbpgnfffmaaGreatCobTellsP3
import Derived.Test.YtbedhbpgnfffmaaGreatCobTellsP5
import Derived.Test.YtbedhbpgnfffmaaGreatCobTellsP16
import Derived.Test.YtbedhbpgnfffmaaGreatCobTellsP15
namespace Go.Proofs.YtbedhbpgnfffmaaGreat
set_option maxRecDepth 100000
set_option maxHeartbeats 40000000
set_option linter.unusedVariables false
set_option linter.unusedSimpArgs false
section
open Go.RowKit Go.Shelf Go.Sort
attribute [local go_sem] Oper.semAt_some
theorem results_ccc {P:Program} {fn:Func} {p q r:Tmp} {ty tz tx:TypeId} (h:fn.results= #[.cell p ty,.cell q tz,.cell r tx]) {t:Array Value} {w:World} {a b c:Addr} {v u x:Value}
    (hp:t.getD p undef= .pointer (some a)) (hq:t.getD q undef= .pointer (some b)) (hr:t.getD r undef= .pointer (some c)) (hv:(loadVar ty a).run P w= .ok v w) (hu:(loadVar tz b).run P w= .ok u w) (hx:(loadVar tx c).run P w= .ok x w):
    (results fn t).run P w= .ok (.tuple #[v,u,x]) w:=by
 have hp':t[p]?.getD undef= .pointer (some a):=by simpa using hp
 have hq':t[q]?.getD undef= .pointer (some b):=by simpa using hq
 have hr':t[r]?.getD undef= .pointer (some c):=by simpa using hr
 simp [results,h,hp',hq',hr',asAddr,hv,hu,hx]
theorem one_of {α : Type} {cs:Array α} (h:cs.size=1):∃v,cs=[v].toArray:=by
 rcases cs with ⟨l⟩
 match l,h with
 | [v],_=>exact ⟨v,rfl⟩
def boxI (base s:Nat) (v:Value) (u:Nat→Value) (w:World):Prop:=∃b,u s= .pointer (some ⟨b,0,none⟩)∧base≤b∧BX w b 3 [v]
theorem boxI_stays {base s:Nat} {v:Value}:∀u w w',RB w w'→boxI base s v u w→boxI base s v u w':=fun u w w' h ⟨b,e,hb,k⟩=>⟨b,e,hb,bx_below h k (bx_lt k)⟩
theorem boxI_dep {base s:Nat} {v:Value}:∀u u' w,(∀t ∈ [s],u' t=u t)→boxI base s v u w→boxI base s v u' w:=fun u u' w h ⟨b,e,hb,k⟩=>⟨b,(h s (List.mem_singleton.2 rfl)).trans e,hb,k⟩
def FactR.B (base:Nat) (t:TypeId) (vs:List Value):FactR RB:=⟨fun v w=>∃b,v= .pointer (some ⟨b,0,none⟩)∧base≤b∧BX w b t vs,fun _ _ _ h ⟨b,e,hb,k⟩=>⟨b,e,hb,bx_below h k (bx_lt k)⟩⟩
def JS (w3:World) (b:Nat) (t:TypeId) (w':World):Prop:=RowR b w3 w'∧∃v,BX w' b t [v]
def JS2 (w3:World) (b:Nat) (t:TypeId) (w':World):Prop:=RowR b w3 w'∧∃v u,BX w' b t [v,u]
def RK (b:Nat) (t:TypeId) (vs:List Value) (w w':World):Prop:=BX w b t vs→BX w' b t vs
theorem rowR_drew (b:Nat) (w:World):RowR b w w.drew:=⟨rfl,fun _ _=>rfl,fun B _=>(Below.refl B w).drew⟩
theorem RowR.same {b c:Nat} {w w' w'':World} {t:TypeId} {vs:List Value} (h:RowR b w w') (k:RowR c w' w'') (hx:BX w c t vs) (hy:BX w'' c t vs):RowR b w w'':=by
 have ho:∀q,q≠b→w''.heap[q]? =w.heap[q]? :=fun q hq=>by
  by_cases e:q=c
  · subst e;exact hy.trans hx.symm
  · exact (k.other q e).trans (h.other q hq)
 have hs:=k.size.trans h.size;have h0:=h.bel 0 (Nat.zero_le _);have k0:=k.bel 0 (Nat.zero_le _);exact ⟨hs,ho,fun B hB=>⟨k0.os.trans h0.os,k0.tape.trans h0.tape,k0.output.trans h0.output,Nat.le_of_eq hs.symm,fun q hq=>ho q xo⟩⟩
theorem RowR.keeps {b:Nat} {w w':World} {t:TypeId} {vs:List Value} (h:RowR b w w') (hx:BX w b t vs):KeepsOthers w w':=
  ⟨Nat.le_of_eq h.size.symm,fun k o hk ho=>by
   by_cases e:k=b
   · subst e;have hx':w.heap[k]? =some (.cells vs.toArray t (0,0)):=hx;rw [hx'] at hk;cases hk;cases ho
   · exact (h.other k e).trans hk⟩
theorem from_none (r:CobR) (A:CobA) (key:Int) (w:World) (bu:Nat) (hx:BX w bu 76 (cobL r A)) (e n:Int) (he:e≠0) (hn:IsRow .i64 w A.ca r.cs) (hl:0<r.cs.length) (hc:r.cs.getD 0 0=n)
    (HM:Hid (∀(W:World),Below w.heap.size w W→Calls Tryz.prog 57 #[.agg (ixL r A).toArray,.int .i64 key] W (AnsB W (.tuple #[.int .i64 0,.int .i64 0,.int .i64 e])))):
    Calls Tryz.prog 33 #[.pointer (some ⟨bu,0,none⟩),.int .i64 key] w (AnsB w (.tuple #[prV (0,0),.int .i64 n,.int .i64 e])):=by
 have ge:(e != 0)=true:=by simpa using he
 clear he;have hlU:=bx_lt hx;obtain ⟨bc,oc,y,hca,hy,hcc,hlc⟩:=hn.get (i:=0) hl;have hyn:y=n:=hy.out.symm.trans hc;subst hyn;have HCC:=hid hcc;have HCA:=hid hca;clear hn hy hcc hca hc;have HU:=hid hx;clear hx;refine calls_of_wp_m Tryz.func33 rfl ?_;simp only [Tryz.ntmps33,List.size_toArray,List.length_cons,List.length_nil,Nat.reduceAdd,Nat.reduceSub,Array.replicate_succ,Array.replicate_zero,List.push_toArray,List.append_toArray,List.nil_append,List.cons_append];go_upto_region 1 with (fail)
 generalize hw0:(((w.alloc _).alloc _).alloc _).alloc _=w0;obtain ⟨hb0,hx⟩:=bxs_four (l1:=[.int .i64 key]) (l2:=prL (0,0)) (l3:=[.int .i64 0]) (l4:=[.int .i64 0]) hw0;have HX:Hid (BXs w0 [(w.heap.size+1+1+1,38,[.int .i64 0]),(w.heap.size+1+1,3,[.int .i64 0]),(w.heap.size+1,52,prL (0,0)),(w.heap.size,2,[.int .i64 key])]):=hid hx;have HB:=hid hb0;have hz0:=hb0.size;clear hw0 hb0 hx;have hl_e:w.heap.size+1+1+1<w0.heap.size:=bx_lt (HX.out.at 0 rfl);have hl_n:w.heap.size+1+1<w0.heap.size:=bx_lt (HX.out.at 1 rfl);have hl_p:w.heap.size+1<w0.heap.size:=bx_lt (HX.out.at 2 rfl);have hl_k:w.heap.size<w0.heap.size:=bx_lt (HX.out.at 3 rfl);replace HU:=hid (bx_below HB.out HU.out (bx_lt HU.out));have c_k:=bx_pb (HX.out.at 3 rfl) 0 _ rfl;refine wp_region_eff 14 xk (N:=50) rfl xk xk xdd (fun w'=>Below w0.heap.size w0 w') (effExt 3 13) (effAt 13 [13,14,15,16,17,18,19,12,20,21,22,8,7] [.is (.pointer (some ⟨bu,0,none⟩)),.is (.pointer (some ⟨bu,0,none⟩)),.is (.pointer (some ⟨bu,0,none⟩)),.is (.pointer (some ⟨bu,15,none⟩)),.is (.agg (ixL r A).toArray),.is (.int .i64 key),.is (.tuple #[.int .i64 0,.int .i64 0,.int .i64 e]),.is (.tuple #[.int .i64 0,.int .i64 0,.int .i64 e]),.is (.int .i64 0),.is (.int .i64 0),.is (.int .i64 e),.box w0.heap.size 3 1,.is (.int .i64 0)] (boxI w0.heap.size 8 (.int .i64 0))) (effAt_stays boxI_stays) (effAt_dep (n:=13) [8] boxI_dep xk xk (Nat.le_refl 13) xdd) br.drew ?steps ?fin
 case steps=>
  refine ⟨?o0,?o1,?o2,?o3,?o4,?o5,?o6,?o7,?o8,?o9,?o10,?o11,?o12,?o13,trivial⟩<;>intro u a w' ev hJ hd K hK
  case o0=>
   have e0:tg a 0= .pointer (some ⟨bu,0,none⟩):=ev 0 xdd;have HK:=hid hK;clear hK ev hd;go_simp;exact HK.out _ _ xzc hJ ⟨rfl,fun h=>absurd h xdd⟩ ⟨fun _=>Below.refl _ _,fun h=>absurd h xdd⟩
  case o1=>
   have e13:tg a 13= .pointer (some ⟨bu,0,none⟩):=(ev 13 xdd).trans (hd 0 _ xk rfl).1;have HK:=hid hK;clear hK ev hd;go_simp;exact HK.out _ _ xzc hJ ⟨rfl,fun h=>absurd h xdd⟩ ⟨fun _=>Below.refl _ _,fun h=>absurd h xdd⟩
  case o2=>
   have e14:tg a 14= .pointer (some ⟨bu,0,none⟩):=(ev 14 xdd).trans (hd 1 _ xk rfl).1;have HK:=hid hK;clear hK ev hd;go_simp;exact HK.out _ _ xzc hJ ⟨rfl,fun h=>absurd h xdd⟩ ⟨fun _=>Below.refl _ _,fun h=>absurd h xdd⟩
  case o3=>
   have e15:tg a 15= .pointer (some ⟨bu,0,none⟩):=(ev 15 xdd).trans (hd 2 _ xk rfl).1;have HK:=hid hK;clear hK ev hd;go_simp;exact HK.out _ _ xzc hJ ⟨rfl,fun h=>absurd h xdd⟩ ⟨fun _=>Below.refl _ _,fun h=>absurd h xdd⟩
  case o4=>
   have e16:tg a 16= .pointer (some ⟨bu,15,none⟩):=(ev 16 xdd).trans (hd 3 _ xk rfl).1;exact wp_op_load_mid 33 (.tmp 16) (bu) 15 (ixL r A) rfl e16 Tryz.underlying33 rfl xk (bx_part (bx_below hJ HU.out (bx_lt HU.out)) 15 rfl) (hK _ _ xzc hJ ⟨rfl,fun h=>absurd h xdd⟩ ⟨fun _=>Below.refl _ _,fun h=>absurd h xdd⟩)
  case o5=>
   have e3:tg a 3= .pointer (some ⟨w.heap.size,0,none⟩):=ev 3 xdd;have g0:=(hJ.cell (p:=⟨w.heap.size,0,none⟩) hl_k).trans c_k;have HK:=hid hK;clear hK ev hd;go_simp;exact HK.out _ _ xzc hJ ⟨rfl,fun h=>absurd h xdd⟩ ⟨fun _=>Below.refl _ _,fun h=>absurd h xdd⟩
  case o6=>
   have e17:tg a 17= .agg (ixL r A).toArray:=(ev 17 xdd).trans (hd 4 _ xk rfl).1;have e18:tg a 18= .int .i64 key:=(ev 18 xdd).trans (hd 5 _ xk rfl).1;have HK:=hid hK;have HC:=hid (HM.out w' (below_via hJ HB.out HB.out.size));have hzJ:=hJ.size;have HJ:=hid hJ;clear hK ev hd hJ;go_simp;refine HC.out.mono ?_;rintro e w'' ⟨rfl,hb⟩;exact HK.out _ _ xzc (HJ.out.trans (hb.mono hzJ)) ⟨rfl,fun h=>absurd h xdd⟩ ⟨fun _=>hb,fun h=>absurd h xdd⟩
  case o7=>
   have e19:tg a 19= .tuple #[.int .i64 0,.int .i64 0,.int .i64 e]:=(ev 19 xdd).trans (hd 6 _ xk rfl).1;have HK:=hid hK;clear hK ev hd;go_simp;exact HK.out _ _ xzc hJ ⟨rfl,fun h=>absurd h xdd⟩ ⟨fun _=>Below.refl _ _,fun h=>absurd h xdd⟩
  case o8=>
   have e12:tg a 12= .tuple #[.int .i64 0,.int .i64 0,.int .i64 e]:=(ev 12 xdd).trans (hd 7 _ xk rfl).1;have HK:=hid hK;clear hK ev hd;go_simp;exact HK.out _ _ xzc hJ ⟨rfl,fun h=>absurd h xdd⟩ ⟨fun _=>Below.refl _ _,fun h=>absurd h xdd⟩
  case o9=>
   have e12:tg a 12= .tuple #[.int .i64 0,.int .i64 0,.int .i64 e]:=(ev 12 xdd).trans (hd 7 _ xk rfl).1;have HK:=hid hK;clear hK ev hd;go_simp;exact HK.out _ _ xzc hJ ⟨rfl,fun h=>absurd h xdd⟩ ⟨fun _=>Below.refl _ _,fun h=>absurd h xdd⟩
  case o10=>
   have e12:tg a 12= .tuple #[.int .i64 0,.int .i64 0,.int .i64 e]:=(ev 12 xdd).trans (hd 7 _ xk rfl).1;have HK:=hid hK;clear hK ev hd;go_simp;exact HK.out _ _ xzc hJ ⟨rfl,fun h=>absurd h xdd⟩ ⟨fun _=>Below.refl _ _,fun h=>absurd h xdd⟩
  case o11=>
   have HK:=hid hK;have hzJ:=hJ.size;have HJ:=hid hJ;clear hK ev hd hJ;go_simp;exact HK.out _ _ xzc (HJ.out.alloc hzJ _) ⟨⟨_,_,rfl,hzJ,bx_new _ [.int .i64 0] _,rfl⟩,fun h=>absurd h xdd⟩ ⟨fun _=>br.alloc (Nat.le_refl _) _,fun h=>absurd h xdd⟩
  case o12=>
   have e20:tg a 20= .int .i64 0:=(ev 20 xdd).trans (hd 8 _ xk rfl).1;have HK:=hid hK;clear hK ev hd;go_simp;exact HK.out _ _ xzc hJ ⟨rfl,fun h=>absurd h xdd⟩ ⟨fun _=>Below.refl _ _,fun h=>absurd h xdd⟩
  case o13=>
   obtain ⟨b,cs,e8',hb,hh,hn⟩:(FactR.box w0.heap.size 3 1).holds (u 8) w':=(hd 11 _ xk rfl).1;obtain ⟨v,rfl⟩:=one_of hn;have hv:BX w' b 3 [v]:=hh;have e8:=(ev 8 xdd).trans e8';have e21:tg a 21= .int .i64 0:=(ev 21 xdd).trans (hd 9 _ xk rfl).1;have c0:=bx_pb hv 0 _ rfl;have f0:=bx_frozen hv (i:=0) (by show (0:Nat)<1;decide);have HK:=hid hK;have HV:=hid hv;have HJ:=hid hJ;have HE:=hid e8';clear hK ev hd hv hJ hh e8';go_simp;exact HK.out _ _ (fun _=>rfl) (HJ.out.setCell (show w0.heap.size≤(⟨b,0,none⟩:Addr).block from hb) _) ⟨trivial,fun _=>⟨b,HE.out,hb,bx_set HV.out 0 _⟩⟩ ⟨fun h=>absurd rfl h,fun _=>⟨b,_,_,HV.out,bx_set HV.out 0 _,rfl,World.size_setCell _ _ _,fun q hq=>heap_setCell_ne _ _ _ hq⟩⟩
 case fin=>
  intro u w3 hJ hG;have h22:u 22= .int .i64 e:=(hG 10 _ rfl).1;have h7:u 7= .int .i64 0:=(hG 12 _ rfl).1;obtain ⟨b8,h8,hb8,hx8⟩:boxI w0.heap.size 8 (.int .i64 0) u w3:=(hG 13 _ rfl).2 rfl;replace HX:=hid (HX.out.below hJ);replace HU:=hid (bx_below hJ HU.out (bx_lt HU.out));replace HB:=xv hJ HB;have hz3:=hJ.size;have hl8:=bx_lt hx8;have HX8:=hid hx8;clear hG hJ c_k hx8;simp only [mixFrame,mixL,dstsOf,List.take_succ_cons,List.take_zero,List.filterMap_cons,List.filterMap_nil,List.contains_cons,List.contains_nil,Nat.reduceBEq,Bool.or_false,Bool.false_or,Bool.or_true,Bool.true_or,if_true,if_false,Bool.false_eq_true,Nat.reduceAdd,Nat.zero_add,List.drop_succ_cons,List.drop_zero,h22,h7,h8];go_upto_region 3 with (fail)
  have c17:w3.cell? ⟨bu,17,none⟩=some (.slice (some ⟨bc,oc,none⟩) r.cs.length A.cc):=HCA.out ▸ bx_pb HU.out 17 _ rfl;have hcc0:w3.cell? ⟨bc,oc,none⟩=some (.int .i64 y):=(HB.out.cell (p:=⟨bc,oc+0,none⟩) hlc).trans HCC.out;have hdl:decide ((0:Int)<r.cs.length)=true:=by simp;omega
  clear HCA HCC;refine wp_region_late 12 xk (N:=50) rfl xk xk xdd (JS w3 (w.heap.size+1+1) 3) (RK (w.heap.size+1+1) 3 [.int .i64 y]) (factRAt [.is (.agg (prL (0,0)).toArray),.is (.pointer (some ⟨bu,0,none⟩)),.is (.pointer (some ⟨bu,0,none⟩)),.is (.pointer (some ⟨bu,0,none⟩)),.is (.pointer (some ⟨bu,15,none⟩)),.is (.pointer (some ⟨bu,17,none⟩)),.is (.slice (some ⟨bc,oc,none⟩) r.cs.length A.cc),.is (.pointer (some ⟨bc,oc,none⟩)),.is (.int .i64 y),.is (.int .i64 e),.any _,.now (fun v9=>BX v9 (w.heap.size+1+1) 3 [.int .i64 y]) (fun _ _ hr h1=>hr h1)]) (factRAt_stays _) ⟨rowR_drew _ _,_,HX.out.at 1 rfl⟩ ?steps ?fin
  case steps=>
   refine ⟨?o0,?o1,?o2,?o3,?o4,?o5,?o6,?o7,?o8,?o9,?o10,?o11,trivial⟩<;>intro u a w' ev hJ hd K hK
   case o0=>
    have HK:=hid hK;clear hK ev hd;go_simp;exact HK.out _ _ xzc hJ rfl (fun h=>h)
   case o1=>
    have e0:tg a 0= .pointer (some ⟨bu,0,none⟩):=ev 0 xdd;have HK:=hid hK;clear hK ev hd;go_simp;exact HK.out _ _ xzc hJ rfl (fun h=>h)
   case o2=>
    have e26:tg a 26= .pointer (some ⟨bu,0,none⟩):=(ev 26 xdd).trans (hd 1 _ xk rfl);have HK:=hid hK;clear hK ev hd;go_simp;exact HK.out _ _ xzc hJ rfl (fun h=>h)
   case o3=>
    have e27:tg a 27= .pointer (some ⟨bu,0,none⟩):=(ev 27 xdd).trans (hd 2 _ xk rfl);have HK:=hid hK;clear hK ev hd;go_simp;exact HK.out _ _ xzc hJ rfl (fun h=>h)
   case o4=>
    have e28:tg a 28= .pointer (some ⟨bu,0,none⟩):=(ev 28 xdd).trans (hd 3 _ xk rfl);have HK:=hid hK;clear hK ev hd;go_simp;exact HK.out _ _ xzc hJ rfl (fun h=>h)
   case o5=>
    have e29:tg a 29= .pointer (some ⟨bu,15,none⟩):=(ev 29 xdd).trans (hd 4 _ xk rfl);have HK:=hid hK;clear hK ev hd;go_simp;exact HK.out _ _ xzc hJ rfl (fun h=>h)
   case o6=>
    have e30:tg a 30= .pointer (some ⟨bu,17,none⟩):=(ev 30 xdd).trans (hd 5 _ xk rfl);have g0:=xob c17 (hJ.1.other bu xo);have HK:=hid hK;clear hK ev hd;go_simp;exact HK.out _ _ xzc hJ rfl (fun h=>h)
   case o7=>
    have e31:tg a 31= .slice (some ⟨bc,oc,none⟩) r.cs.length A.cc:=(ev 31 xdd).trans (hd 6 _ xk rfl);have HK:=hid hK;clear hK ev hd;go_simp;exact HK.out _ _ xzc hJ rfl (fun h=>h)
   case o8=>
    have e32:tg a 32= .pointer (some ⟨bc,oc,none⟩):=(ev 32 xdd).trans (hd 7 _ xk rfl);have g0:=xob hcc0 (hJ.1.other bc xo);have HK:=hid hK;clear hK ev hd;go_simp;exact HK.out _ _ xzc hJ rfl (fun h=>h)
   case o9=>
    have e9:tg a 9= .int .i64 e:=ev 9 xdd;have HK:=hid hK;clear hK ev hd;go_simp;exact HK.out _ _ xzc hJ rfl (fun h=>h)
   case o10=>
    have e4:tg a 4= .pointer (some ⟨w.heap.size+1,0,none⟩):=ev 4 xdd;have e25:tg a 25= .agg (prL (0,0)).toArray:=(ev 25 xdd).trans (hd 0 _ xk rfl);have h0:=hJ.1.bx (HX.out.at 2 rfl) xo;have hb:=setRow_rowR w' (w.heap.size+1) (prL (0,0)).toArray;have hq:BX (w'.setRow (w.heap.size+1) (prL (0,0)).toArray) (w.heap.size+1) 52 (prL (0,0)):=setRow_heap w' _ _ _ _ (0,0) h0;exact wp_store_row 52 (.tmp 4) (.tmp 25) rfl (w.heap.size+1) (prL (0,0)).toArray e4 e25 52 (prL (0,0)).toArray h0 xk rfl (prL_one _) (hK _ _ (fun _=>rfl) ⟨hJ.1.same hb (HX.out.at 2 rfl) hq,hJ.2.elim fun v hv=>⟨v,hb.bx hv xo⟩⟩ trivial (fun h=>hb.bx h xo))
   case o11=>
    have e5:tg a 5= .pointer (some ⟨w.heap.size+1+1,0,none⟩):=ev 5 xdd;have e33:tg a 33= .int .i64 y:=(ev 33 xdd).trans (hd 8 _ xk rfl);obtain ⟨hj1,v,hv⟩:=hJ;have c0:=bx_pb hv 0 _ rfl;have f0:=bx_frozen hv (i:=0) (by show (0:Nat)<1;decide);have HK:=hid hK;have HV:=hid hv;have HJ:=hid hj1;clear hK ev hd hv hj1;go_simp;exact HK.out _ _ (fun _=>rfl) ⟨HJ.out.trans (rowR_cell _ _ _ _),_,bx_set HV.out 0 _⟩ (bx_set HV.out 0 _) (fun _=>bx_set HV.out 0 _)
  case fin=>
   intro u w4 hJ hG;have h34:u 34= .int .i64 e:=hG 9 _ rfl;have hn4:BX w4 (w.heap.size+1+1) 3 [.int .i64 y]:=hG 11 _ rfl;have hp4:=hJ.1.bx (HX.out.at 2 rfl) xo;have he4:=hJ.1.bx (HX.out.at 0 rfl) xo;have hb4:=HB.out.trans (hJ.1.bel _ xo);have c6:=bx_pb he4 0 _ rfl;have f6:=bx_frozen he4 (i:=0) (by show (0:Nat)<1;decide);have H4:=hid (And.intro hp4 (And.intro hn4 (And.intro he4 hb4)));clear hG hJ c17 hcc0 hn4 hp4 he4 hb4;simp only [mixFrame,mixL,dstsOf,List.take_succ_cons,List.take_zero,List.filterMap_cons,List.filterMap_nil,List.contains_cons,List.contains_nil,Nat.reduceBEq,Bool.or_false,Bool.false_or,Bool.or_true,Bool.true_or,if_true,if_false,Bool.false_eq_true,Nat.reduceAdd,Nat.zero_add,List.drop_succ_cons,List.drop_zero,h34];go_wp2
   obtain ⟨hp4,hn4,he4,hb4⟩:=H4.out;have hr:=rowR_cell w4 (w.heap.size+1+1+1) 0 (.int .i64 e);exact postM_none (results_ccc rfl rfl rfl rfl (run_loadVar_many _ Tryz.underlying52 rfl xk (bx_pb (hr.bx hp4 xo))) (run_loadVar_one Tryz.underlying3 rfl (bx_pb (hr.bx hn4 xo) 0 _ rfl)) (run_loadVar_one Tryz.underlying38 rfl (bx_pb (bx_set he4 0 _) 0 _ rfl))) ⟨rfl,hb4.trans (hr.bel _ xo)⟩
theorem from_in (r:CobR) (A:CobA) (key:Int) (w:World) (bu:Nat) (hx:BX w bu 76 (cobL r A)) (i:Nat) (s:Int) (L:List (Int×Int)) (Pp:Int×Int) (N:Int) (hL:L.length≤65536) (hs0:0≤s) (hs1:s≤65536)
    (hit:∀k,k<L.length→(∀j,j<k→(L.getD j (0,0)).1<key)→key≤(L.getD k (0,0)).1→L.getD k (0,0)=Pp∧s+(k:Int)=N) (hex:¬ ∀j,j<L.length→(L.getD j (0,0)).1<key)
    (HM:Hid (∀(W:World),Below w.heap.size w W→Calls Tryz.prog 57 #[.agg (ixL r A).toArray,.int .i64 key] W (AnsB W (.tuple #[.int .i64 i,.int .i64 s,.int .i64 0]))))
    (IT:Hid (∀(W:World) (b1 b2:Nat),Below w.heap.size w W→W.cell? ⟨b1,0,none⟩=some (.pointer (some ⟨bu,0,none⟩))→W.cell? ⟨b2,0,none⟩=some (.int .i64 i)→BX W bu 76 (cobL r A)→Iter Tryz.prog 62 #[.pointer (some ⟨b1,0,none⟩),.pointer (some ⟨b2,0,none⟩)] (leafX L) KpC W)):
    Calls Tryz.prog 33 #[.pointer (some ⟨bu,0,none⟩),.int .i64 key] w (AnsB w (.tuple #[prV Pp,.int .i64 N,.int .i64 0])):=by
 have hlU:=bx_lt hx;have HIT:=hid hit;have HEX:=hid hex;clear hit hex;have HU:=hid hx;clear hx;refine calls_of_wp_m Tryz.func33 rfl ?_;simp only [Tryz.ntmps33,List.size_toArray,List.length_cons,List.length_nil,Nat.reduceAdd,Nat.reduceSub,Array.replicate_succ,Array.replicate_zero,List.push_toArray,List.append_toArray,List.nil_append,List.cons_append];go_upto_region 1 with (fail)
 generalize hw0:(((w.alloc _).alloc _).alloc _).alloc _=w0;obtain ⟨hb0,hx⟩:=bxs_four (l1:=[.int .i64 key]) (l2:=prL (0,0)) (l3:=[.int .i64 0]) (l4:=[.int .i64 0]) hw0;have HX:Hid (BXs w0 [(w.heap.size+1+1+1,38,[.int .i64 0]),(w.heap.size+1+1,3,[.int .i64 0]),(w.heap.size+1,52,prL (0,0)),(w.heap.size,2,[.int .i64 key])]):=hid hx;have HB:=hid hb0;have hz0:=hb0.size;clear hw0 hb0 hx;have hl_e:w.heap.size+1+1+1<w0.heap.size:=bx_lt (HX.out.at 0 rfl);have hl_n:w.heap.size+1+1<w0.heap.size:=bx_lt (HX.out.at 1 rfl);have hl_p:w.heap.size+1<w0.heap.size:=bx_lt (HX.out.at 2 rfl);have hl_k:w.heap.size<w0.heap.size:=bx_lt (HX.out.at 3 rfl);replace HU:=hid (bx_below HB.out HU.out (bx_lt HU.out));have c_k:=bx_pb (HX.out.at 3 rfl) 0 _ rfl;refine wp_region_eff 14 xk (N:=50) rfl xk xk xdd (fun w'=>Below w0.heap.size w0 w') (effExt 3 13) (effAt 13 [13,14,15,16,17,18,19,12,20,21,22,8,7] [.is (.pointer (some ⟨bu,0,none⟩)),.is (.pointer (some ⟨bu,0,none⟩)),.is (.pointer (some ⟨bu,0,none⟩)),.is (.pointer (some ⟨bu,15,none⟩)),.is (.agg (ixL r A).toArray),.is (.int .i64 key),.is (.tuple #[.int .i64 i,.int .i64 s,.int .i64 0]),.is (.tuple #[.int .i64 i,.int .i64 s,.int .i64 0]),.is (.int .i64 i),.is (.int .i64 s),.is (.int .i64 0),.box w0.heap.size 3 1,.is (.int .i64 i)] (boxI w0.heap.size 8 (.int .i64 s))) (effAt_stays boxI_stays) (effAt_dep (n:=13) [8] boxI_dep xk xk (Nat.le_refl 13) xdd) br.drew ?steps ?fin
 case steps=>
  refine ⟨?o0,?o1,?o2,?o3,?o4,?o5,?o6,?o7,?o8,?o9,?o10,?o11,?o12,?o13,trivial⟩<;>intro u a w' ev hJ hd K hK
  case o0=>
   have e0:tg a 0= .pointer (some ⟨bu,0,none⟩):=ev 0 xdd;have HK:=hid hK;clear hK ev hd;go_simp;exact HK.out _ _ xzc hJ ⟨rfl,fun h=>absurd h xdd⟩ ⟨fun _=>Below.refl _ _,fun h=>absurd h xdd⟩
  case o1=>
   have e13:tg a 13= .pointer (some ⟨bu,0,none⟩):=(ev 13 xdd).trans (hd 0 _ xk rfl).1;have HK:=hid hK;clear hK ev hd;go_simp;exact HK.out _ _ xzc hJ ⟨rfl,fun h=>absurd h xdd⟩ ⟨fun _=>Below.refl _ _,fun h=>absurd h xdd⟩
  case o2=>
   have e14:tg a 14= .pointer (some ⟨bu,0,none⟩):=(ev 14 xdd).trans (hd 1 _ xk rfl).1;have HK:=hid hK;clear hK ev hd;go_simp;exact HK.out _ _ xzc hJ ⟨rfl,fun h=>absurd h xdd⟩ ⟨fun _=>Below.refl _ _,fun h=>absurd h xdd⟩
  case o3=>
   have e15:tg a 15= .pointer (some ⟨bu,0,none⟩):=(ev 15 xdd).trans (hd 2 _ xk rfl).1;have HK:=hid hK;clear hK ev hd;go_simp;exact HK.out _ _ xzc hJ ⟨rfl,fun h=>absurd h xdd⟩ ⟨fun _=>Below.refl _ _,fun h=>absurd h xdd⟩
  case o4=>
   have e16:tg a 16= .pointer (some ⟨bu,15,none⟩):=(ev 16 xdd).trans (hd 3 _ xk rfl).1;exact wp_op_load_mid 33 (.tmp 16) (bu) 15 (ixL r A) rfl e16 Tryz.underlying33 rfl xk (bx_part (bx_below hJ HU.out (bx_lt HU.out)) 15 rfl) (hK _ _ xzc hJ ⟨rfl,fun h=>absurd h xdd⟩ ⟨fun _=>Below.refl _ _,fun h=>absurd h xdd⟩)
  case o5=>
   have e3:tg a 3= .pointer (some ⟨w.heap.size,0,none⟩):=ev 3 xdd;have g0:=(hJ.cell (p:=⟨w.heap.size,0,none⟩) hl_k).trans c_k;have HK:=hid hK;clear hK ev hd;go_simp;exact HK.out _ _ xzc hJ ⟨rfl,fun h=>absurd h xdd⟩ ⟨fun _=>Below.refl _ _,fun h=>absurd h xdd⟩
  case o6=>
   have e17:tg a 17= .agg (ixL r A).toArray:=(ev 17 xdd).trans (hd 4 _ xk rfl).1;have e18:tg a 18= .int .i64 key:=(ev 18 xdd).trans (hd 5 _ xk rfl).1;have HK:=hid hK;have HC:=hid (HM.out w' (below_via hJ HB.out HB.out.size));have hzJ:=hJ.size;have HJ:=hid hJ;clear hK ev hd hJ;go_simp;refine HC.out.mono ?_;rintro e w'' ⟨rfl,hb⟩;exact HK.out _ _ xzc (HJ.out.trans (hb.mono hzJ)) ⟨rfl,fun h=>absurd h xdd⟩ ⟨fun _=>hb,fun h=>absurd h xdd⟩
  case o7=>
   have e19:tg a 19= .tuple #[.int .i64 i,.int .i64 s,.int .i64 0]:=(ev 19 xdd).trans (hd 6 _ xk rfl).1;have HK:=hid hK;clear hK ev hd;go_simp;exact HK.out _ _ xzc hJ ⟨rfl,fun h=>absurd h xdd⟩ ⟨fun _=>Below.refl _ _,fun h=>absurd h xdd⟩
  case o8=>
   have e12:tg a 12= .tuple #[.int .i64 i,.int .i64 s,.int .i64 0]:=(ev 12 xdd).trans (hd 7 _ xk rfl).1;have HK:=hid hK;clear hK ev hd;go_simp;exact HK.out _ _ xzc hJ ⟨rfl,fun h=>absurd h xdd⟩ ⟨fun _=>Below.refl _ _,fun h=>absurd h xdd⟩
  case o9=>
   have e12:tg a 12= .tuple #[.int .i64 i,.int .i64 s,.int .i64 0]:=(ev 12 xdd).trans (hd 7 _ xk rfl).1;have HK:=hid hK;clear hK ev hd;go_simp;exact HK.out _ _ xzc hJ ⟨rfl,fun h=>absurd h xdd⟩ ⟨fun _=>Below.refl _ _,fun h=>absurd h xdd⟩
  case o10=>
   have e12:tg a 12= .tuple #[.int .i64 i,.int .i64 s,.int .i64 0]:=(ev 12 xdd).trans (hd 7 _ xk rfl).1;have HK:=hid hK;clear hK ev hd;go_simp;exact HK.out _ _ xzc hJ ⟨rfl,fun h=>absurd h xdd⟩ ⟨fun _=>Below.refl _ _,fun h=>absurd h xdd⟩
  case o11=>
   have HK:=hid hK;have hzJ:=hJ.size;have HJ:=hid hJ;clear hK ev hd hJ;go_simp;exact HK.out _ _ xzc (HJ.out.alloc hzJ _) ⟨⟨_,_,rfl,hzJ,bx_new _ [.int .i64 0] _,rfl⟩,fun h=>absurd h xdd⟩ ⟨fun _=>br.alloc (Nat.le_refl _) _,fun h=>absurd h xdd⟩
  case o12=>
   have e20:tg a 20= .int .i64 i:=(ev 20 xdd).trans (hd 8 _ xk rfl).1;have HK:=hid hK;clear hK ev hd;go_simp;exact HK.out _ _ xzc hJ ⟨rfl,fun h=>absurd h xdd⟩ ⟨fun _=>Below.refl _ _,fun h=>absurd h xdd⟩
  case o13=>
   obtain ⟨b,cs,e8',hb,hh,hn⟩:(FactR.box w0.heap.size 3 1).holds (u 8) w':=(hd 11 _ xk rfl).1;obtain ⟨v,rfl⟩:=one_of hn;have hv:BX w' b 3 [v]:=hh;have e8:=(ev 8 xdd).trans e8';have e21:tg a 21= .int .i64 s:=(ev 21 xdd).trans (hd 9 _ xk rfl).1;have c0:=bx_pb hv 0 _ rfl;have f0:=bx_frozen hv (i:=0) (by show (0:Nat)<1;decide);have HK:=hid hK;have HV:=hid hv;have HJ:=hid hJ;have HE:=hid e8';clear hK ev hd hv hJ hh e8';go_simp;exact HK.out _ _ (fun _=>rfl) (HJ.out.setCell (show w0.heap.size≤(⟨b,0,none⟩:Addr).block from hb) _) ⟨trivial,fun _=>⟨b,HE.out,hb,bx_set HV.out 0 _⟩⟩ ⟨fun h=>absurd rfl h,fun _=>⟨b,_,_,HV.out,bx_set HV.out 0 _,rfl,World.size_setCell _ _ _,fun q hq=>heap_setCell_ne _ _ _ hq⟩⟩
 case fin=>
  intro u w3 hJ hG;have h22:u 22= .int .i64 0:=(hG 10 _ rfl).1;have h7:u 7= .int .i64 i:=(hG 12 _ rfl).1;obtain ⟨b8,h8,hb8,hx8⟩:boxI w0.heap.size 8 (.int .i64 s) u w3:=(hG 13 _ rfl).2 rfl;replace HX:=hid (HX.out.below hJ);replace HU:=hid (bx_below hJ HU.out (bx_lt HU.out));replace HB:=xv hJ HB;have hz3:=hJ.size;have hl8:=bx_lt hx8;have HX8:=hid hx8;clear hG hJ c_k hx8;simp only [mixFrame,mixL,dstsOf,List.take_succ_cons,List.take_zero,List.filterMap_cons,List.filterMap_nil,List.contains_cons,List.contains_nil,Nat.reduceBEq,Bool.or_false,Bool.false_or,Bool.or_true,Bool.true_or,if_true,if_false,Bool.false_eq_true,Nat.reduceAdd,Nat.zero_add,List.drop_succ_cons,List.drop_zero,h22,h7,h8];go_wp2_with (fail)
  refine (cbLeaf_ok _ _ _).mono ?_;rintro e w4 ⟨rfl,hw4⟩;obtain ⟨hb4,hx4⟩:=bxs_two (l1:=[.pointer (some ⟨bu,0,none⟩)]) (l2:=[.int .i64 i]) hw4;have q1:=bx_pb (hx4.at 1 rfl) 0 _ rfl;have q2:=bx_pb (hx4.at 0 rfl) 0 _ rfl;have HL4:Hid (BXs w4 [(b8,3,[.int .i64 s]),(w.heap.size+1+1+1,38,[.int .i64 0]),(w.heap.size+1+1,3,[.int .i64 0]),(w.heap.size+1,52,prL (0,0)),(w.heap.size,2,[.int .i64 key])]):=hid ((HX.out.cons' HX8.out).below hb4);have IT4:=hid (IT.out w4 _ _ (below_via hb4 HB.out HB.out.size) q1 q2 (bx_below hb4 HU.out (bx_lt HU.out)));have HB4:=xv hb4 HB;have hz4:=hb4.size;clear hw4 hx4 q1 q2 hb4 HX HX8 HU HB;go_wp2
  refine wp_range_w (xs:=leafX L) (Kp:=KpC) rfl (enters_of Tryz.func62 xk rfl) IT4.out br (fun h k=>h.trans k) ?kb ?ps
    (fun k W=>BXs W [(b8,3,[.int .i64 s]),(w.heap.size+1+1+1,38,[.int .i64 0]),(w.heap.size+1+1,3,[.int .i64 0]),(w.heap.size+1,52,prL (0,0)),(w.heap.size,2,[.int .i64 key])]∧Below w.heap.size w W∧w4.heap.size≤W.heap.size∧∀j,j<k→(L.getD j (0,0)).1<key)
    (fun c W=>c= .ret∧BX W (w.heap.size+1) 52 (prL Pp)∧BX W (w.heap.size+1+1) 3 [.int .i64 N]∧BX W (w.heap.size+1+1+1) 38 [.int .i64 0]∧Below w.heap.size w W) ?hI ?hX ?h0 ?round ?done ?stop
  case kb=>
   intro W q o o' hl hq ho k o2 hk ho2;exact (Calm.putObj (B:=0) o' (Nat.zero_le _) hq ho).cells k o2 hk ho2
  case ps=>
   intro x hx;simp only [leafX,List.mem_map] at hx;obtain ⟨k,_,rfl⟩:=hx;rfl
  case hI=>
   rintro k W W' ⟨h1,h2,h3,h4⟩ hc;exact ⟨h1.calm hc,hc.below HB4.out.size h2,Nat.le_trans h3 hc.size,h4⟩
  case hX=>
   rintro c W W' ⟨h0,h1,h2,h3,h4⟩ hc;exact ⟨h0,hc.cells _ _ h1 rfl,hc.cells _ _ h2 rfl,hc.cells _ _ h3 rfl,hc.below HB4.out.size h4⟩
  case h0=>exact ⟨HL4.out,HB4.out,Nat.le_refl _,fun j hj=>absurd hj (Nat.not_lt_zero _)⟩
  case done=>
   intro D W hD hi hK;exact absurd (fun j hj=>hi.2.2.2 j (by rw [leafX_length];exact hj)) HEX.out
  case stop=>
   intro D c W hD hX hK;obtain ⟨rfl,hp,hn,he,hbel⟩:=hX;have hcalm:Calm w4.heap.size W (W.putObj D (.deferred none)):=Calm.putObj _ hD hK rfl;have H4:=hid (And.intro hp (And.intro hn (And.intro he hbel)));clear hp hn he hbel HL4 IT4;go_wp2
   exact postM_one hK (results_ccc rfl rfl rfl rfl (run_loadVar_many _ Tryz.underlying52 rfl xk (bx_pb (hcalm.cells _ _ H4.out.1 rfl))) (run_loadVar_one Tryz.underlying3 rfl (bx_pb (hcalm.cells _ _ H4.out.2.1 rfl) 0 _ rfl)) (run_loadVar_one Tryz.underlying38 rfl (bx_pb (hcalm.cells _ _ H4.out.2.2.1 rfl) 0 _ rfl))) ⟨rfl,hcalm.below HB4.out.size H4.out.2.2.2⟩
  case round=>
   intro q k W hq hk hi;rw [leafX_length] at hk;rw [leafX_get L hk];obtain ⟨hbx,hbel,hzW,hlow⟩:=hi;have HV:Hid (key≤(L.getD k (0,0)).1→prL Pp=[.int .i64 (L.getD k (0,0)).1,.int .i64 (L.getD k (0,0)).2]∧N=s+(k:Int)):=hid fun h=>by
    obtain ⟨h1,h2⟩:=HIT.out k hk hlow h;exact ⟨by rw [←h1];rfl,h2.symm⟩
   have HW:Hid ((L.getD k (0,0)).1<key→∀j,j<k+1→(L.getD j (0,0)).1<key):=hid fun h j hj=>by
    rcases Nat.lt_or_ge j k with q|q
    · exact hlow j q
    · rw [show j=k by omega];exact h
   generalize (L.getD k (0,0)).1=x at *;generalize (L.getD k (0,0)).2=y at *;have HBX:=hid hbx;have HBL:=hid hbel;have hwr:IntKind.i64.wrap (s+(k:Int))=s+(k:Int):=IntWalk.i64_in _ xo;clear hbx hbel hlow HIT HEX HL4 IT4;gi_wp2
   have hab:Below W.heap.size W (W.alloc (.cells #[.int .i64 x,.int .i64 y] 52)):=br.alloc (Nat.le_refl _) _;refine ⟨keeps_below hab,KpC.below hab,?_⟩;intro W2 hc;have HX2:Hid (BXs W2 ((W.heap.size,52,[.int .i64 x,.int .i64 y])::[(b8,3,[.int .i64 s]),(w.heap.size+1+1+1,38,[.int .i64 0]),(w.heap.size+1+1,3,[.int .i64 0]),(w.heap.size+1,52,prL (0,0)),(w.heap.size,2,[.int .i64 key])])):=hid ((bxs_more HBX.out [.int .i64 x,.int .i64 y] _).calm hc);have HB2:=hid (hc.below (by first|exact HB4.out.size|omega) (below_via hab HBL.out HBL.out.size));have hz5:W.heap.size<W2.heap.size:=bx_lt (HX2.out.at 0 rfl);have q0:=bx_pb (HX2.out.at 0 rfl) 0 _ rfl;have ck:=bx_pb (HX2.out.at 5 rfl) 0 _ rfl;clear hab hc HBX HBL;by_cases hkey:key≤x
   · have he:decide (key≤x)=true:=by simpa using hkey
     obtain ⟨hpp,hN⟩:=HV.out hkey;have HPP:=hid hpp;have HN:=hid hN;have g0:=bx_pb (HX2.out.at 0 rfl) 1 _ rfl;have c8:=bx_pb (HX2.out.at 1 rfl) 0 _ rfl;clear hkey hpp hN HV HW;gi_wp2
     refine wpIn_region_facts 5 xk (N:=50) rfl xk xk xdd (JS2 W2 (w.heap.size+1) 52) (RK (w.heap.size+1) 52 [.int .i64 x,.int .i64 y]) (factRAt [.is (.agg #[.int .i64 x,.int .i64 y]),.is (.int .i64 s),.is (.int .i64 k),.is (.int .i64 (s+k)),.now (fun v9=>BX v9 (w.heap.size+1) 52 [.int .i64 x,.int .i64 y]) (fun _ _ hr h1=>hr h1)]) (factRAt_stays _) ⟨rowR_drew _ _,_,_,HX2.out.at 4 rfl⟩ ?steps ?fin
     case steps=>
      refine ⟨?o0,?o1,?o2,?o3,?o4,trivial⟩<;>intro u a w' ev hJ hd K hK
      case o0=>
       rw [if_pos (wanted_free rfl)];have e11:tg a 11= .pointer (some ⟨W.heap.size,0,none⟩):=ev 11 xdd;have y0:=(World.cell?_of_block (a:=⟨W.heap.size,0,none⟩) (hJ.1.other (W.heap.size) xo)).trans q0;have y1:=(World.cell?_of_block (a:=⟨W.heap.size,1,none⟩) (hJ.1.other (W.heap.size) xo)).trans g0;have HK:=hid hK;clear hK ev hd;go_simp;exact HK.out _ _ xzc hJ rfl (fun h=>h)
      case o1=>
       rw [if_pos (wanted_free rfl)];have e8:tg a 8= .pointer (some ⟨b8,0,none⟩):=ev 8 xdd;have g0:=(World.cell?_of_block (a:=⟨b8,0,none⟩) (hJ.1.other (b8) xo)).trans c8;have HK:=hid hK;clear hK ev hd;go_simp;exact HK.out _ _ xzc hJ rfl (fun h=>h)
      case o2=>
       rw [if_pos (wanted_free rfl)];have e10:tg a 10= .int .i64 k:=ev 10 xdd;have HK:=hid hK;clear hK ev hd;go_simp;exact HK.out _ _ xzc hJ rfl (fun h=>h)
      case o3=>
       rw [if_pos (wanted_free rfl)];have e45:tg a 45= .int .i64 s:=(ev 45 xdd).trans (hd 1 _ xk rfl);have e46:tg a 46= .int .i64 k:=(ev 46 xdd).trans (hd 2 _ xk rfl);have HK:=hid hK;clear hK ev hd;go_simp;exact HK.out _ _ xzc hJ rfl (fun h=>h)
      case o4=>
       rw [if_pos (wanted_free rfl)];have e4:tg a 4= .pointer (some ⟨w.heap.size+1,0,none⟩):=ev 4 xdd;have e44:tg a 44= .agg #[.int .i64 x,.int .i64 y]:=(ev 44 xdd).trans (hd 0 _ xk rfl);obtain ⟨hj1,v,v',hv⟩:=hJ;have y0:=bx_pb hv 0 _ rfl;have y1:=bx_pb hv 1 _ rfl;have f0:=bx_frozen hv (i:=0) (by show (0:Nat)<2;decide);have f1:=bx_frozen hv (i:=1) (by show (1:Nat)<2;decide);have HK:=hid hK;have HV:=hid hv;have HJ:=hid hj1;clear hK ev hd hv hj1;go_simp;exact HK.out _ _ (fun _=>rfl) ⟨HJ.out.trans ((rowR_cell _ _ _ _).trans (rowR_cell _ _ _ _)),_,_,bx_set (bx_set HV.out 0 _) 1 _⟩ (bx_set (bx_set HV.out 0 _) 1 _) (fun _=>bx_set (bx_set HV.out 0 _) 1 _)
     case fin=>
      intro u W4 hJ hG;have h47:u 47= .int .i64 (s+k):=hG 3 _ rfl;have hp4:BX W4 (w.heap.size+1) 52 [.int .i64 x,.int .i64 y]:=hG 4 _ rfl;have hn4:=hJ.1.bx (HX2.out.at 3 rfl) xo;have he4:=hJ.1.bx (HX2.out.at 2 rfl) xo;have hb4:=HB2.out.trans (hJ.1.bel _ xo);have hk4:=hJ.1.keeps (HX2.out.at 4 rfl);have c5:=bx_pb hn4 0 _ rfl;have f5:=bx_frozen hn4 (i:=0) (by show (0:Nat)<1;decide);have c6:=bx_pb he4 0 _ rfl;have f6:=bx_frozen he4 (i:=0) (by show (0:Nat)<1;decide);have H4:=hid (And.intro hp4 (And.intro hn4 (And.intro he4 (And.intro hb4 hk4))));clear hG hJ hn4 hp4 he4 hb4 hk4 q0 g0 ck c8;simp only [mixFrame,mixL,dstsOf,List.take_succ_cons,List.take_zero,List.filterMap_cons,List.filterMap_nil,List.contains_cons,List.contains_nil,Nat.reduceBEq,Bool.or_false,Bool.false_or,Bool.or_true,Bool.true_or,if_true,if_false,Bool.false_eq_true,Nat.reduceAdd,Nat.zero_add,List.drop_succ_cons,List.drop_zero,h47];gi_wp2
      obtain ⟨hp4,hn4,he4,hb4,hk4⟩:=H4.out;have r5:=rowR_cell W4 (w.heap.size+1+1) 0 (.int .i64 (s+k));have r6:=rowR_cell (W4.setCell ⟨w.heap.size+1+1,0,none⟩ (.int .i64 (s+k))) (w.heap.size+1+1+1) 0 (.int .i64 0);refine ⟨(hk4.trans (KeepsOthers.setCell _ _ _)).trans (KeepsOthers.setCell _ _ _),rfl,?_,?_,bx_set (r5.bx he4 xo) 0 _,(hb4.trans (r5.bel _ xo)).trans (r6.bel _ xo)⟩
      · rw [HPP.out];exact r6.bx (r5.bx hp4 xo) xo
      · rw [HN.out];exact r6.bx (bx_set hn4 0 _) xo
   · have he:decide (key≤x)=false:=by simpa using hkey
     have hlow:=HW.out xo;have HLW:=hid hlow;clear hkey hlow HV HW;gi_wp2
     exact ⟨⟨Nat.le_refl _,fun _ _ h _=>h⟩,fun _ _ h _=>h,HX2.out.2,HB2.out,by omega,HLW.out⟩
end
section
open Go.RowKit Go.Shelf Go.Sort
theorem Ceil12_ok (L:List (Int×Int)) (la:Option Addr) (pl:Nat) (key:Int) (hL:L.length≤100000) (w:World) (h:IsRow .i64 w la (prI L)):
    Calls Tryz.prog 37 #[.slice la L.length pl,.int .i64 key] w (AnsB w (.tuple #[prV (ceP L key),.bool (ceL L key).isSome])):=by
 have HR:=hid h;clear h;go_enter Tryz.func37,Tryz.ntmps37
 go_upto_region 1 with (fail)
 generalize hw0:w.alloc _=w0;obtain ⟨hb0,hx⟩:=bxs_one (l1:=prL (0,0)) hw0;have HX:Hid (BXs w0 [(w.heap.size,52,prL (0,0))]):=hid hx;have HB:=hid hb0;have hz0:=hb0.size;clear hw0 hb0 hx;have hl_o:w.heap.size<w0.heap.size:=bx_lt (HX.out.at 0 rfl);replace HR:=hid (HR.out.below HB.out);go_wp2
 go_loopg [6] L.length (fun g i wr=>∃k:Nat,k+g=L.length∧i= .int .i64 k∧w0=wr∧Hid (∀j,j<k→(L.getD j (0,0)).1<key))
 case atStart=>exact ⟨0,by omega,rfl,rfl,hid fun j hj=>absurd hj (Nat.not_lt_zero _)⟩
 case round=>
  obtain ⟨k,hk,rfl,rfl,HT⟩:=hrel;by_cases hlt:k<L.length
  · obtain ⟨b1,o1,rfl,c0,c1,z1⟩:=pr_get HR.out hlt;by_cases hkey:key≤(L.getD k (0,0)).1
    · have HV:=hid (ce_at hlt HT.out hkey);have he:decide (key≤(L.getD k (0,0)).1)=true:=by simpa using hkey
      have e1:ceP L key=((L.getD k (0,0)).1,(L.getD k (0,0)).2):=by rw [ceP,HV.out];rfl
      have e3:(ceL L key).isSome=true:=by rw [HV.out];rfl
      rw [e1,e3];clear hkey e1 e3 HV;generalize (L.getD k (0,0)).1=x1 at *;generalize (L.getD k (0,0)).2=x2 at *;go_wp2_with (first|(refine wpl_store_row 52 (.tmp 4) (.tmp 23) (w.heap.size) (prL (0,0)) (prL (x1,x2)) rfl rfl rfl rfl xk rfl (prL_one _) (HX.out.at 0 rfl) ?_;intro w9 hs hx))
      exact bodyPost_ret (results_ct rfl rfl (run_loadVar_many _ Tryz.underlying52 rfl xk (bx_pb hx))) rfl ⟨rfl,HB.out.trans (hs.bel _ xo)⟩
    · have HN:Hid (∀j,j<k+1→(L.getD j (0,0)).1<key):=hid fun j hj=>by
        rcases Nat.lt_or_ge j k with q|q
        · exact HT.out j q
        · rw [show j=k by omega];omega
      have he:decide (key≤(L.getD k (0,0)).1)=false:=by simpa using hkey
      clear hkey;generalize (L.getD k (0,0)).1=x1 at *;generalize (L.getD k (0,0)).2=x2 at *;go_wp2
      go_roundg (gk-1)
      case measure=>omega
      case rel=>exact ⟨k+1,by omega,by go_num,rfl,HN⟩
  · have hkn:k=L.length:=xo;have HV:=ce_no (key:=key) (L:=L) (by rw [←hkn];exact HT.out);have e1:ceP L key=(0,0):=by rw [ceP,HV];rfl
    have e3:(ceL L key).isSome=false:=by rw [HV];rfl
    replace e1:=hid e1;replace e3:=hid e3;clear HV;go_wp2_with (first|(refine wpl_store_row 52 (.tmp 4) (.tmp 24) (w.heap.size) (prL (0,0)) (prL (0,0)) rfl rfl rfl rfl xk rfl (prL_one _) (HX.out.at 0 rfl) ?_;intro w9 hs hx))
    exact bodyPost_ret (results_ct rfl rfl (run_loadVar_many _ Tryz.underlying52 rfl xk (bx_pb hx))) rfl ⟨by rw [e1.out,e3.out];rfl,HB.out.trans (hs.bel _ xo)⟩
end
section
open Go.RowKit
theorem bel_succ {L:List (Int×Int)} {k:Nat} (hk:k<L.length) (key:Int):belL (L.take (k+1)) key=belL (L.take k) key+if (L.getD k (0,0)).1<key then 1 else 0:=by
 rw [belL,List.take_add_one,List.countP_append,List.getElem?_eq_getElem hk,List.getD_eq_getElem?_getD,List.getElem?_eq_getElem hk,belL];by_cases h:(L[k]).1<key<;>simp [h]
theorem Below10_ok (L:List (Int×Int)) (la:Option Addr) (pl:Nat) (key:Int) (hL:L.length≤100000) (w:World) (h:IsRow .i64 w la (prI L)):
    Calls Tryz.prog 35 #[.slice la L.length pl,.int .i64 key] w (AnsB w (.int .i64 (belL L key))):=by
 have HR:=hid h;clear h;go_enter Tryz.func35,Tryz.ntmps35
 go_wp2
 go_loopg [5,6] L.length (fun g n i wr=>∃k:Nat,k+g=L.length∧i= .int .i64 k∧n= .int .i64 (belL (L.take k) key)∧w=wr)
 case atStart=>exact ⟨0,by omega,rfl,rfl,rfl⟩
 case round=>
  obtain ⟨k,hk,rfl,rfl,rfl⟩:=hrel;by_cases hlt:k<L.length
  · obtain ⟨b1,o1,rfl,c0,c1,z1⟩:=pr_get HR.out hlt;have HS:=hid (bel_succ hlt key);have hle:belL (L.take k) key≤100000:=Nat.le_trans (List.countP_le_length ..) (by rw [List.length_take];omega);by_cases hkey:(L.getD k (0,0)).1<key
    · have he:decide ((L.getD k (0,0)).1<key)=true:=by simpa using hkey
      rw [if_pos hkey] at HS;generalize belL (L.take k) key=m at *;generalize (L.getD k (0,0)).1=x1 at *;generalize (L.getD k (0,0)).2=x2 at *;go_wp2
      go_roundg (gk-1)
      case measure=>omega
      case rel=>exact ⟨k+1,by omega,by go_num,by rw [HS.out];go_num,rfl⟩
    · have he:decide ((L.getD k (0,0)).1<key)=false:=by simpa using hkey
      rw [if_neg hkey] at HS;generalize belL (L.take k) key=m at *;generalize (L.getD k (0,0)).1=x1 at *;generalize (L.getD k (0,0)).2=x2 at *;go_wp2
      go_roundg (gk-1)
      case measure=>omega
      case rel=>exact ⟨k+1,by omega,by go_num,by rw [HS.out];go_num,rfl⟩
  · have hkn:k=L.length:=xo;subst hkn;rw [List.take_length];go_wp2
    go_ret
    exact ⟨rfl,Below.refl _ _⟩
end
end Go.Proofs.YtbedhbpgnfffmaaGreat

/- Merged: PmaNames, DenW, GapRes, PmGtPl. -/
import Derived.Test.YtmnlagmmbfjbeaaDoorPmaNamesP33
import Derived.Test.YtmnlagmmbfjbeaaDoorPmaNamesP12
import Derived.Test.YtmnlagmmbfjbeaaDoorPmaNamesP31
import Derived.Test.YtmnlagmmbfjbeaaDoorPmaNamesP21
import Derived.Test.YtmnlagmmbfjbeaaDoorPmaNamesP32
namespace Go.Proofs.YtmnlagmmbfjbeaaDoor
set_option maxRecDepth 100000
set_option maxHeartbeats 40000000
set_option linter.unusedVariables false
set_option linter.unusedSimpArgs false
section
open Go.RowKit Go.Shelf Go.Sort
theorem wpl_build1 {P:Program} {w:World} {ops:Array Oper} {rest:List Oper} {o:Oper} {a:Act} {Q:Exit→Act→World→Prop} (t:TypeId) (i:Nat) (x:Operand) (v:Value) (cs:Array Value) (hw:Region.wanted o (yielded ops a.tmps)=true) (ho:o.op= .build t #[(i,x)]) (hx:a.eval x=v)
    (hf:P.built t [(i,v)]=some cs) (h:wpList P ops Q rest (a.put o.dst (.agg cs)) w):wpList P ops Q (o::rest) a w:=by
 refine Go.BigFrame.wpList_want hw fun K hK=> ?_
 have e:P.built t ((#[(i,x)]:Array (Nat×Operand)).map fun (i,x)=>(i,a.eval x)).toList=some cs:=by simpa [hx] using hf
 refine wp_build t _ ho (by rw [e];rfl) ?_;rw [e];exact hK _ _ h
theorem built_one (c:Cfg):Tryd.prog.built 31 [(0,.agg #[.int .u8 c.tag,.int .i64 c.most,.int .i64 c.seg,.int .i64 c.least,.int .i64 c.den,.int .i64 c.ll,.int .i64 c.rl,.int .i64 c.rh,.int .i64 c.lh])]=some #[.int .u8 c.tag,.int .i64 c.most,.int .i64 c.seg,.int .i64 c.least,.int .i64 c.den,.int .i64 c.ll,.int .i64 c.rl,.int .i64 c.rh,.int .i64 c.lh,.int .i64 0,.slice none 0 0,.slice none 0 0,.slice none 0 0,.slice none 0 0,.int .u64 0]:=by kernel_rfl
theorem own_form {k:IntKind} {e:TypeId} {B:Nat} {ao:Option Addr} {n c:Nat} {w:World} {xs:List Int} (h:w.ownsRow B e 1 (.slice ao n c) n (xs.map (Value.int k))) (hn:0<n):∃g,ao=some ⟨g,0,none⟩∧B≤g∧g<w.heap.size:=by
 obtain ⟨h1,⟨h2,h3⟩ | ⟨g,cap,cur,hv,hg,hh,_⟩⟩:=h
 · omega
 · cases hv;exact ⟨g,rfl,hg,(Array.getElem?_eq_some_iff.1 hh).1⟩
theorem RowR.trans {b:Nat} {w w' w'':World} (h:RowR b w w') (k:RowR b w' w''):RowR b w w'':=
  ⟨k.size.trans h.size,fun q hq=>(k.other q hq).trans (h.other q hq),fun B hB=>(h.bel B hB).trans (k.bel B hB)⟩
theorem rowR_cell (w:World) (b i:Nat) (v:Value):RowR b w (w.setCell ⟨b,i,none⟩ v):=
  ⟨World.size_setCell _ _ _,fun q hq=>heap_setCell_ne _ _ _ hq,fun B hB=>br.setCell hB v⟩
theorem rowR_refl (b:Nat) (w:World):RowR b w w:=⟨rfl,fun _ _=>rfl,fun B _=>Below.refl B w⟩
def chg (x:Int):Int:=if x=7 then 6 else x
def chgL (k:Nat) (l:List Int):List Int:=(l.take k).map chg++l.drop k
theorem chgL_length (k:Nat) (l:List Int):(chgL k l).length=l.length:=by
 rw [chgL,List.length_append,List.length_map,List.length_take,List.length_drop];omega
theorem chgL_zero (l:List Int):chgL 0 l=l:=by simp [chgL]
theorem chgL_get {k:Nat} {l:List Int} (h:k<l.length):(chgL k l).getD k 0=l.getD k 0:=by
 have hl:((l.take k).map chg).length=k:=by rw [List.length_map,List.length_take];omega
 rw [List.getD_eq_getElem?_getD,chgL,List.getElem?_append_right xo,hl,Nat.sub_self,List.getElem?_drop,Nat.add_zero,←List.getD_eq_getElem?_getD]
theorem chgL_succ {k:Nat} {l:List Int} (h:k<l.length):chgL (k+1) l=(chgL k l).set k (chg (l.getD k 0)):=by
 have hl:((l.take k).map chg).length=k:=by rw [List.length_map,List.length_take];omega
 have hd:l.drop k=l[k]::l.drop (k+1):=List.drop_eq_getElem_cons h;rw [chgL,chgL,List.set_append_right _ _ xo,hl,Nat.sub_self,hd,List.set_cons_zero,List.take_succ_eq_append_getElem h,List.map_append,List.append_assoc];simp [List.getD_eq_getElem?_getD,h]
theorem chgL_no {k:Nat} {l:List Int} (h:k<l.length) (hx:l.getD k 0≠7):chgL (k+1) l=chgL k l:=by
 rw [chgL_succ h,chg,if_neg hx];have h2:k<(chgL k l).length:=by rw [chgL_length];exact h
 have e:l.getD k 0=(chgL k l)[k]:=by rw [←chgL_get h];simp [List.getD_eq_getElem?_getD,h2]
 rw [e,List.set_getElem_self]
theorem chgL_yes {k:Nat} {l:List Int} (h:k<l.length) (hx:l.getD k 0=7):chgL (k+1) l=(chgL k l).set k 6:=by
 rw [chgL_succ h,chg,if_pos hx]
theorem PN_in (c:Cfg) (sq:Nat→SlC) (sx:SlC) (hu:∀i,U64s (sq i).ws) (hxu:U64s sx.ws) (hn:0<(sq 8).ks.length∧(sq 8).ks.length≤1000000) (w:World)
    (CH:Hid (∀W,Calls Tryd.prog 17 #[] W (AnsB W (.agg #[.int .u8 c.tag,.int .i64 c.most,.int .i64 c.seg,.int .i64 c.least,.int .i64 c.den,.int .i64 c.ll,.int .i64 c.rl,.int .i64 c.rh,.int .i64 c.lh]))))
    (NW:Hid (∀W,Calls Tryd.prog 16 #[.agg #[.int .u8 c.tag,.int .i64 c.most,.int .i64 c.seg,.int .i64 c.least,.int .i64 c.den,.int .i64 c.ll,.int .i64 c.rl,.int .i64 c.rh,.int .i64 c.lh]] W (FreshPm2 W c (sq 0) (.int .i64 0))))
    (PQ:Hid (∀(W:World) (a:SlA) (i:Nat) (kk:Int),i<8→(3*(i:Int))%8=kk→Below w.heap.size w W→SlIn W (sq i) a→(sq i).cs.length≤a.cc→Calls Tryd.prog 10 #[pmV c (sq i) a,.int .i64 kk,.int .i64 7] W (FreshPm2 W c (sq (i+1)) (.int .i64 0))))
    (P9:Hid (∀(W:World) (a:SlA),Below w.heap.size w W→SlIn W (sq 8) a→(sq 8).cs.length≤a.cc→Calls Tryd.prog 10 #[pmV c (sq 8) a,.int .i64 8,.int .i64 1] W (FreshPm2 W nilF nilC (.int .i64 9))))
    (P7:Hid (∀(W:World) (a:SlA),Below w.heap.size w W→SlIn W (sq 8) a→(sq 8).cs.length≤a.cc→Calls Tryd.prog 10 #[pmV c (sq 8) a,.int .i64 7,.int .i64 1] W (FreshPm2 W c sx (.int .i64 0))))
    (D8:Hid (∀(W:World) (a:SlA),Below w.heap.size w W→SlIn W (sq 8) a→(sq 8).cs.length≤a.cc→Calls Tryd.prog 11 #[pmV c (sq 8) a,.int .i64 8] W (FreshPm2 W nilF nilC (.int .i64 6))))
    (TW:Hid (∀(W:World) (a:SlA),Below w.heap.size w W→SlIn W (sq 8) a→(sq 8).cs.length≤a.cc→Calls Tryd.prog 18 #[pmV c (sq 8) a] W (FreshPmN W c (sq 8))))
    (N0:Hid (∀W,Calls Tryd.prog 16 #[.agg #[.int .u8 0,.int .i64 0,.int .i64 0,.int .i64 0,.int .i64 0,.int .i64 0,.int .i64 0,.int .i64 0,.int .i64 0]] W (FreshPm2 W nilF nilC (.int .i64 50))))
    (AL:Hid (∀(W:World),Below w.heap.size w W→Calls Tryd.prog 6 #[] W (AnsB W (.bool true))))
    (S8:Hid (∀(W:World) (a:SlA),Below w.heap.size w W→SlIn W (sq 8) a→(sq 8).cs.length≤a.cc→Calls Tryd.prog 15 #[pmV c (sq 8) a,.int .i64 8] W (AnsB W (.bool true))))
    (GX:Hid (∀(W:World) (a:SlA),Below w.heap.size w W→SlIn W sx a→sx.cs.length≤a.cc→Calls Tryd.prog 14 #[pmV c sx a,.int .i64 7,.int .i64 1] W (AnsB W (.bool true))))
    (SX:Hid (∀(W:World) (a:SlA),Below w.heap.size w W→SlIn W sx a→sx.cs.length≤a.cc→Calls Tryd.prog 15 #[pmV c sx a,.int .i64 8] W (AnsB W (.bool true))))
    (CY:Hid (∀(W:World) (a:SlA),Below w.heap.size w W→SlIn W ⟨(sq 8).seg,(sq 8).ws,chgL (sq 8).ks.length (sq 8).ks,(sq 8).vs,(sq 8).cs,(sq 8).laid⟩ a→(sq 8).cs.length≤a.cc→Calls Tryd.prog 13 #[pmV c (sq 8) a] W (AnsB W (.int .i64 130))))
    (C0:Hid (∀W,Calls Tryd.prog 13 #[.agg #[.int .u8 0,.int .i64 0,.int .i64 0,.int .i64 0,.int .i64 0,.int .i64 0,.int .i64 0,.int .i64 0,.int .i64 0,.int .i64 0,.slice none 0 0,.slice none 0 0,.slice none 0 0,.slice none 0 0,.int .u64 0]] W (AnsB W (.int .i64 50))))
    (C1:Hid (∀W,Calls Tryd.prog 13 #[.agg #[.int .u8 c.tag,.int .i64 c.most,.int .i64 c.seg,.int .i64 c.least,.int .i64 c.den,.int .i64 c.ll,.int .i64 c.rl,.int .i64 c.rh,.int .i64 c.lh,.int .i64 0,.slice none 0 0,.slice none 0 0,.slice none 0 0,.slice none 0 0,.int .u64 0]] W (AnsB W (.int .i64 8)))):
    Calls Tryd.prog 5 #[] w (AnsB w (.bool true)):=by
 have HU:=hid hu;have HXU:=hid hxu;have HN:=hid hn;clear hu hxu hn;go_enter Tryd.func5,Tryd.ntmps5
 go_wp2_with fail
 refine (CH.out _).mono ?_;rintro e w1 ⟨rfl,hb1⟩;have hz_w1:=hb1.size;try simp only [World.size_alloc,World.size_setCell] at hz_w1
 have HB1:=hid hb1;clear hb1;go_wp2_with fail
 refine (NW.out _).mono ?_;rintro e w2 ⟨x1,x2,x3,x4,rfl,p1,p2,p3,p4,hb2⟩;have hz_w2:=hb2.size;have HB2:=xv hb2 HB1;obtain ⟨a1,k1,rfl,i1,-,-,-,-⟩:=row_of_owns p1;obtain ⟨a2,k2,rfl,i2,-,-,-,-⟩:=row_of_owns p2;obtain ⟨a3,k3,rfl,i3,-,-,-,-⟩:=row_of_owns p3;obtain ⟨a4,k4,rfl,i4,-,-,hcc,-⟩:=row_of_owns p4;have HIm:Hid (SlIn w2 (sq 0) ⟨a1,a2,a3,a4,k1,k2,k3,k4⟩):=hid ⟨i1,i2,i3,i4,HU.out 0⟩;have HCCm:=hid hcc;have HOm:=hid (And.intro p1 (And.intro p2 (And.intro p3 p4)));clear hb2 p1 p2 p3 p4 i1 i2 i3 i4 hcc;clear NW;as_aux_lemma=>
 go_upto_region 2 with (refine wpl_store_new 31 (.tmp 1) (.tmp 18) _ _ rfl rfl rfl rfl xk rfl (by simp [Value.oneCell']) ?_)
 generalize hw3:w2.alloc _=w3;have P_m:Hid (PB w3 (w2.heap.size) [.int .u8 c.tag,.int .i64 c.most,.int .i64 c.seg,.int .i64 c.least,.int .i64 c.den,.int .i64 c.ll,.int .i64 c.rl,.int .i64 c.rh,.int .i64 c.lh,.int .i64 (sq 0).seg,.slice a1 (sq 0).ws.length k1,.slice a2 (sq 0).ks.length k2,.slice a3 (sq 0).vs.length k3,.slice a4 (sq 0).cs.length k4,.int .u64 (sq 0).laid]):=by rw [←hw3];exact hid (pb_new _ _ _ xsi)
 have Z_m:w2.heap.size<w3.heap.size:=by rw [←hw3];simp only [World.size_alloc];omega
 have hb3:Below w2.heap.size w2 w3:=by rw [←hw3];exact br.alloc (Nat.le_refl _) _
 have hz3:w2.heap.size<w3.heap.size:=by rw [←hw3];simp
 have HXm:Hid (BX w3 w2.heap.size 31 [.int .u8 c.tag,.int .i64 c.most,.int .i64 c.seg,.int .i64 c.least,.int .i64 c.den,.int .i64 c.ll,.int .i64 c.rl,.int .i64 c.rh,.int .i64 c.lh,.int .i64 (sq 0).seg,.slice a1 (sq 0).ws.length k1,.slice a2 (sq 0).ks.length k2,.slice a3 (sq 0).vs.length k3,.slice a4 (sq 0).cs.length k4,.int .u64 (sq 0).laid]):=by rw [←hw3];exact hid (bx_new _ _ _)
 have HB3:=xv hb3 HB2;have D2_3:=hid (hb3);clear hw3 hb3;generalize HVm:Value.agg #[.int .u8 c.tag,.int .i64 c.most,.int .i64 c.seg,.int .i64 c.least,.int .i64 c.den,.int .i64 c.ll,.int .i64 c.rl,.int .i64 c.rh,.int .i64 c.lh,.int .i64 (sq 0).seg,.slice a1 (sq 0).ws.length k1,.slice a2 (sq 0).ks.length k2,.slice a3 (sq 0).vs.length k3,.slice a4 (sq 0).cs.length k4,.int .u64 (sq 0).laid]=v_m at ⊢;have HV_m:=hid HVm;clear HVm;go_upto_region 4 with (fail)
 have HBm:Hid (Below w2.heap.size w2 w3):=D2_3;as_aux_lemma=>
 go_loopg [3,4] 8 (fun gk fv iv wr=>∃(i:Nat) (a:SlA),i+gk=8∧fv= .int .i64 0∧iv= .int .i64 i∧Hid (BX wr w2.heap.size 31 [.int .u8 c.tag,.int .i64 c.most,.int .i64 c.seg,.int .i64 c.least,.int .i64 c.den,.int .i64 c.ll,.int .i64 c.rl,.int .i64 c.rh,.int .i64 c.lh,.int .i64 (sq i).seg,.slice a.wa (sq i).ws.length a.wc,.slice a.ka (sq i).ks.length a.kc,.slice a.va (sq i).vs.length a.vc,.slice a.ca (sq i).cs.length a.cc,.int .u64 (sq i).laid])∧Hid (SlIn wr (sq i) a)∧Hid ((sq i).cs.length≤a.cc)∧Hid (Below w2.heap.size w2 wr))
 case atStart=>exact ⟨0,⟨a1,a2,a3,a4,k1,k2,k3,k4⟩,by omega,rfl,rfl,HXm,hid (HIm.out.below D2_3.out),HCCm,HBm⟩
 case round=>
  clear P_m Z_m HXm HIm HCCm HBm HOm D2_3 HV_m HB3;obtain ⟨i,a,hi,rfl,rfl,HX,HI,HC,HB⟩:=hrel;have P_m:=hid (bx_pb HX.out);have Z_m:=bx_lt HX.out;have HBr:=hid (below_via HB.out HB2.out HB2.out.size);by_cases hlt:i<8
  · obtain ⟨v_m,HVm⟩:∃v,Value.agg #[.int .u8 c.tag,.int .i64 c.most,.int .i64 c.seg,.int .i64 c.least,.int .i64 c.den,.int .i64 c.ll,.int .i64 c.rl,.int .i64 c.rh,.int .i64 c.lh,.int .i64 (sq i).seg,.slice a.wa (sq i).ws.length a.wc,.slice a.ka (sq i).ks.length a.kc,.slice a.va (sq i).vs.length a.vc,.slice a.ca (sq i).cs.length a.cc,.int .u64 (sq i).laid]=v:=⟨_,rfl⟩
    have HV_m:=hid HVm;obtain ⟨kk,hkk⟩:∃kk,(3*(i:Int))%8=kk:=⟨_,rfl⟩
    have PQ':=hid (PQ.out wr a i kk hlt hkk HBr.out HI.out HC.out);dsimp only [pmV] at PQ';rw [HV_m.out] at PQ';have hw1:IntKind.i64.wrap (3*(i:Int))=3*(i:Int):=IntWalk.i64_in _ xo;have hk2:(3*(i:Int)).tmod 8=kk:=by rw [Int.tmod_eq_emod_of_nonneg xo];exact hkk
    have hk3:IntKind.i64.wrap kk=kk:=IntWalk.i64_in _ xo;have hw3:IntKind.i64.wrap ((i:Int)+1)=(i:Int)+1:=IntWalk.i64_in _ xo;have hd:decide ((i:Int)<8)=true:=decide_eq_true xo;have hzm:w2.heap.size<wr.heap.size:=Z_m;clear HVm;go_wp2_with (first|refine wpl_loadv 31 (.tmp 1) _ _ v_m HV_m.out rfl rfl rfl Tryd.underlying31 rfl xk P_m.out ?_)
    refine PQ'.out.mono ?_;rintro e w4 ⟨x1,x2,x3,x4,rfl,p1,p2,p3,p4,hb4⟩;replace HX:=hid (bx_below hb4 HX.out (bx_lt HX.out));have HC4:=xv hb4 HB;obtain ⟨b1,j1,rfl,-,-,-,-,-⟩:=row_of_owns p1;obtain ⟨b2,j2,rfl,-,-,-,-,-⟩:=row_of_owns p2;obtain ⟨b3,j3,rfl,-,-,-,-,-⟩:=row_of_owns p3;obtain ⟨b4,j4,rfl,-,-,-,hcc,-⟩:=row_of_owns p4;have HOx:=hid (And.intro p1 (And.intro p2 (And.intro p3 p4)));have HCCx:=hid hcc;clear hb4 p1 p2 p3 p4 hcc PQ' HI HC hkk hk2 hk3;as_aux_lemma=>
    go_wp2_with ((refine wpl_store_row 31 (.tmp 1) (.tmp 38) (w2.heap.size) [.int .u8 c.tag,.int .i64 c.most,.int .i64 c.seg,.int .i64 c.least,.int .i64 c.den,.int .i64 c.ll,.int .i64 c.rl,.int .i64 c.rh,.int .i64 c.lh,.int .i64 (sq i).seg,.slice a.wa (sq i).ws.length a.wc,.slice a.ka (sq i).ks.length a.kc,.slice a.va (sq i).vs.length a.vc,.slice a.ca (sq i).cs.length a.cc,.int .u64 (sq i).laid] [.int .u8 c.tag,.int .i64 c.most,.int .i64 c.seg,.int .i64 c.least,.int .i64 c.den,.int .i64 c.ll,.int .i64 c.rl,.int .i64 c.rh,.int .i64 c.lh,.int .i64 (sq (i+1)).seg,.slice b1 (sq (i+1)).ws.length j1,.slice b2 (sq (i+1)).ks.length j2,.slice b3 (sq (i+1)).vs.length j3,.slice b4 (sq (i+1)).cs.length j4,.int .u64 (sq (i+1)).laid] rfl rfl rfl rfl xk rfl (by simp [Value.oneCell']) HX.out ?_;intro w7 hs7 hx7))
    have HS:=hid hs7;have HX7:=hid hx7;have HC7:=hid (HC4.out.trans (hs7.bel _ (Nat.le_refl _)));have q1:=owns_heap HOx.out.1 fun t ht=>HS.out.other t (by have:=(HOx.out.1.lt t ht).1;omega)
    obtain ⟨y1,n1,hy,i1,-⟩:=row_of_owns q1;cases hy;have q2:=owns_heap HOx.out.2.1 fun t ht=>HS.out.other t (by have:=(HOx.out.2.1.lt t ht).1;omega)
    obtain ⟨y2,n2,hy,i2,-⟩:=row_of_owns q2;cases hy;have q3:=owns_heap HOx.out.2.2.1 fun t ht=>HS.out.other t (by have:=(HOx.out.2.2.1.lt t ht).1;omega)
    obtain ⟨y3,n3,hy,i3,-⟩:=row_of_owns q3;cases hy;have q4:=owns_heap HOx.out.2.2.2 fun t ht=>HS.out.other t (by have:=(HOx.out.2.2.2.lt t ht).1;omega)
    obtain ⟨y4,n4,hy,i4,-⟩:=row_of_owns q4;cases hy;have HI7:Hid (SlIn w7 (sq (i+1)) ⟨b1,b2,b3,b4,j1,j2,j3,j4⟩):=hid ⟨i1,i2,i3,i4,HU.out _⟩;clear q1 q2 q3 q4 i1 i2 i3 i4 hs7 hx7 P_m;go_roundg (gk-1)
    case measure=>omega
    case rel=>exact ⟨i+1,⟨b1,b2,b3,b4,j1,j2,j3,j4⟩,by omega,rfl,by go_num,HX7,HI7,HCCx,HC7⟩
  · obtain rfl:i=8:=xo;clear hi hlt PQ;obtain ⟨w10,rfl⟩:∃w10,w10=wr:=⟨_,rfl⟩
    obtain ⟨v_m,HVm⟩:∃v,Value.agg #[.int .u8 c.tag,.int .i64 c.most,.int .i64 c.seg,.int .i64 c.least,.int .i64 c.den,.int .i64 c.ll,.int .i64 c.rl,.int .i64 c.rh,.int .i64 c.lh,.int .i64 (sq 8).seg,.slice a.wa (sq 8).ws.length a.wc,.slice a.ka (sq 8).ks.length a.kc,.slice a.va (sq 8).vs.length a.vc,.slice a.ca (sq 8).cs.length a.cc,.int .u64 (sq 8).laid]=v:=⟨_,rfl⟩
    have HV_m:=hid HVm;have HB10:=HBr;have hz2:w2.heap.size<w10.heap.size:=Z_m;have HIm:=HI;have HCCm:=HC;clear HVm HBr HI HC;go_upto_region 7 with (fail)
    have P9':=hid (P9.out w10 a HB10.out HIm.out HCCm.out);dsimp only [pmV] at P9';rw [HV_m.out] at P9';go_wp2_with (first|refine wpl_loadv 31 (.tmp 1) _ _ v_m HV_m.out rfl rfl rfl Tryd.underlying31 rfl xk P_m.out ?_)
    go_wp2_with fail
    refine (P9'.out).mono ?_;rintro e w11 ⟨x1,x2,x3,x4,rfl,p1,p2,p3,p4,hb11⟩;replace P_m:=pbb hb11 P_m Z_m;replace Z_m:=blt hb11 Z_m;have hz_w11:=hb11.size;try simp only [World.size_alloc,World.size_setCell] at hz_w11
    have HB11:=xv hb11 HB10;have D10_11:=hid (hb11);obtain ⟨b1,j1,rfl,-,-,-,-,-⟩:=row_of_owns p1;obtain ⟨b2,j2,rfl,-,-,-,-,-⟩:=row_of_owns p2;obtain ⟨b3,j3,rfl,-,-,-,-,-⟩:=row_of_owns p3;obtain ⟨b4,j4,rfl,-,-,-,-,-⟩:=row_of_owns p4;clear hb11 p1 p2 p3 p4;clear P9 P9';as_aux_lemma=>
    go_upto_region 8 with (refine wpl_store_new 31 (.tmp 5) (.tmp 43) _ _ rfl rfl rfl rfl xk rfl (by simp [Value.oneCell']) ?_)
    generalize hw12:w11.alloc _=w12;replace P_m:=pbg hw12 P_m Z_m;replace Z_m:=elt hw12 (auz Z_m);have P_x:Hid (PB w12 (w11.heap.size) [.int .u8 nilF.tag,.int .i64 nilF.most,.int .i64 nilF.seg,.int .i64 nilF.least,.int .i64 nilF.den,.int .i64 nilF.ll,.int .i64 nilF.rl,.int .i64 nilF.rh,.int .i64 nilF.lh,.int .i64 nilC.seg,.slice b1 nilC.ws.length j1,.slice b2 nilC.ks.length j2,.slice b3 nilC.vs.length j3,.slice b4 nilC.cs.length j4,.int .u64 nilC.laid]):=by rw [←hw12];exact hid (pb_new _ _ _ xsi)
    have Z_x:w11.heap.size<w12.heap.size:=by rw [←hw12];simp only [World.size_alloc];omega
    have hb12:Below w11.heap.size w11 w12:=by rw [←hw12];exact br.alloc (Nat.le_refl _) _
    have hz12:w11.heap.size<w12.heap.size:=by rw [←hw12];simp
    have HXx:Hid (BX w12 w11.heap.size 31 [.int .u8 nilF.tag,.int .i64 nilF.most,.int .i64 nilF.seg,.int .i64 nilF.least,.int .i64 nilF.den,.int .i64 nilF.ll,.int .i64 nilF.rl,.int .i64 nilF.rh,.int .i64 nilF.lh,.int .i64 nilC.seg,.slice b1 nilC.ws.length j1,.slice b2 nilC.ks.length j2,.slice b3 nilC.vs.length j3,.slice b4 nilC.cs.length j4,.int .u64 nilC.laid]):=by rw [←hw12];exact hid (bx_new _ _ _)
    have HB12:=xv hb12 HB11;have D10_12:=xv hb12 D10_11;have D11_12:=hid (hb12);clear D10_11;clear hw12 hb12;generalize HVx:Value.agg #[.int .u8 nilF.tag,.int .i64 nilF.most,.int .i64 nilF.seg,.int .i64 nilF.least,.int .i64 nilF.den,.int .i64 nilF.ll,.int .i64 nilF.rl,.int .i64 nilF.rh,.int .i64 nilF.lh,.int .i64 nilC.seg,.slice b1 nilC.ws.length j1,.slice b2 nilC.ks.length j2,.slice b3 nilC.vs.length j3,.slice b4 nilC.cs.length j4,.int .u64 nilC.laid]=v_x at ⊢;have HV_x:=hid HVx;clear HVx;clear HXx P_x HV_x D11_12;as_aux_lemma=>
    have P7':=hid (P7.out w12 a HB12.out (HIm.out.below D10_12.out) HCCm.out);dsimp only [pmV] at P7';rw [HV_m.out] at P7';go_wp2_with (first|refine wpl_loadv 31 (.tmp 1) _ _ v_m HV_m.out rfl rfl rfl Tryd.underlying31 rfl xk P_m.out ?_)
    go_wp2_with fail
    refine (P7'.out).mono ?_;rintro e w13 ⟨x1,x2,x3,x4,rfl,p1,p2,p3,p4,hb13⟩;replace P_m:=pbb hb13 P_m Z_m;replace Z_m:=blt hb13 Z_m;have hz_w13:=hb13.size;have HB13:=xv hb13 HB12;have D10_13:=xv hb13 D10_12;clear D10_12;obtain ⟨f1,g1,rfl,i1,-,-,-,-⟩:=row_of_owns p1;obtain ⟨f2,g2,rfl,i2,-,-,-,-⟩:=row_of_owns p2;obtain ⟨f3,g3,rfl,i3,-,-,-,-⟩:=row_of_owns p3;obtain ⟨f4,g4,rfl,i4,-,-,hcc,-⟩:=row_of_owns p4;have HIy:Hid (SlIn w13 sx ⟨f1,f2,f3,f4,g1,g2,g3,g4⟩):=hid ⟨i1,i2,i3,i4,HXU.out⟩;have HCCy:=hid hcc;have HOy:=hid (And.intro p1 (And.intro p2 (And.intro p3 p4)));clear hb13 p1 p2 p3 p4 i1 i2 i3 i4 hcc;clear P7 P7';as_aux_lemma=>
    go_upto_region 9 with (refine wpl_store_new 31 (.tmp 7) (.tmp 48) _ _ rfl rfl rfl rfl xk rfl (by simp [Value.oneCell']) ?_)
    generalize hw14:w13.alloc _=w14;replace P_m:=pbg hw14 P_m Z_m;replace Z_m:=elt hw14 (auz Z_m);have P_y:Hid (PB w14 (w13.heap.size) [.int .u8 c.tag,.int .i64 c.most,.int .i64 c.seg,.int .i64 c.least,.int .i64 c.den,.int .i64 c.ll,.int .i64 c.rl,.int .i64 c.rh,.int .i64 c.lh,.int .i64 sx.seg,.slice f1 sx.ws.length g1,.slice f2 sx.ks.length g2,.slice f3 sx.vs.length g3,.slice f4 sx.cs.length g4,.int .u64 sx.laid]):=by rw [←hw14];exact hid (pb_new _ _ _ xsi)
    have Z_y:w13.heap.size<w14.heap.size:=by rw [←hw14];simp only [World.size_alloc];omega
    have hb14:Below w13.heap.size w13 w14:=by rw [←hw14];exact br.alloc (Nat.le_refl _) _
    have hz14:w13.heap.size<w14.heap.size:=by rw [←hw14];simp
    have HXy:Hid (BX w14 w13.heap.size 31 [.int .u8 c.tag,.int .i64 c.most,.int .i64 c.seg,.int .i64 c.least,.int .i64 c.den,.int .i64 c.ll,.int .i64 c.rl,.int .i64 c.rh,.int .i64 c.lh,.int .i64 sx.seg,.slice f1 sx.ws.length g1,.slice f2 sx.ks.length g2,.slice f3 sx.vs.length g3,.slice f4 sx.cs.length g4,.int .u64 sx.laid]):=by rw [←hw14];exact hid (bx_new _ _ _)
    have HB14:=xv hb14 HB13;have D10_14:=xv hb14 D10_13;have D13_14:=hid (hb14);clear D10_13;clear hw14 hb14;generalize HVy:Value.agg #[.int .u8 c.tag,.int .i64 c.most,.int .i64 c.seg,.int .i64 c.least,.int .i64 c.den,.int .i64 c.ll,.int .i64 c.rl,.int .i64 c.rh,.int .i64 c.lh,.int .i64 sx.seg,.slice f1 sx.ws.length g1,.slice f2 sx.ks.length g2,.slice f3 sx.vs.length g3,.slice f4 sx.cs.length g4,.int .u64 sx.laid]=v_y at ⊢;have HV_y:=hid HVy;clear HVy;as_aux_lemma=>
    have D8':=hid (D8.out w14 a HB14.out (HIm.out.below D10_14.out) HCCm.out);dsimp only [pmV] at D8';rw [HV_m.out] at D8';go_wp2_with (first|refine wpl_loadv 31 (.tmp 1) _ _ v_m HV_m.out rfl rfl rfl Tryd.underlying31 rfl xk P_m.out ?_)
    go_wp2_with fail
    refine (D8'.out).mono ?_;rintro e w15 ⟨x1,x2,x3,x4,rfl,p1,p2,p3,p4,hb15⟩;replace P_m:=pbb hb15 P_m Z_m;replace Z_m:=blt hb15 Z_m;replace P_y:=pbb hb15 P_y Z_y;replace Z_y:=blt hb15 Z_y;have hz_w15:=hb15.size;have HB15:=xv hb15 HB14;have D10_15:=xv hb15 D10_14;have D13_15:=xv hb15 D13_14;clear D10_14 D13_14;obtain ⟨l1,n1,rfl,-,-,-,-,-⟩:=row_of_owns p1;obtain ⟨l2,n2,rfl,-,-,-,-,-⟩:=row_of_owns p2;obtain ⟨l3,n3,rfl,-,-,-,-,-⟩:=row_of_owns p3;obtain ⟨l4,n4,rfl,-,-,-,-,-⟩:=row_of_owns p4;clear hb15 p1 p2 p3 p4;clear D8 D8';as_aux_lemma=>
    go_upto_region 10 with (refine wpl_store_new 31 (.tmp 9) (.tmp 53) _ _ rfl rfl rfl rfl xk rfl (by simp [Value.oneCell']) ?_)
    generalize hw16:w15.alloc _=w16;replace P_m:=pbg hw16 P_m Z_m;replace Z_m:=elt hw16 (auz Z_m);replace P_y:=pbg hw16 P_y Z_y;replace Z_y:=elt hw16 (auz Z_y);have P_z:Hid (PB w16 (w15.heap.size) [.int .u8 nilF.tag,.int .i64 nilF.most,.int .i64 nilF.seg,.int .i64 nilF.least,.int .i64 nilF.den,.int .i64 nilF.ll,.int .i64 nilF.rl,.int .i64 nilF.rh,.int .i64 nilF.lh,.int .i64 nilC.seg,.slice l1 nilC.ws.length n1,.slice l2 nilC.ks.length n2,.slice l3 nilC.vs.length n3,.slice l4 nilC.cs.length n4,.int .u64 nilC.laid]):=by rw [←hw16];exact hid (pb_new _ _ _ xsi)
    have Z_z:w15.heap.size<w16.heap.size:=by rw [←hw16];simp only [World.size_alloc];omega
    have hb16:Below w15.heap.size w15 w16:=by rw [←hw16];exact br.alloc (Nat.le_refl _) _
    have hz16:w15.heap.size<w16.heap.size:=by rw [←hw16];simp
    have HXz:Hid (BX w16 w15.heap.size 31 [.int .u8 nilF.tag,.int .i64 nilF.most,.int .i64 nilF.seg,.int .i64 nilF.least,.int .i64 nilF.den,.int .i64 nilF.ll,.int .i64 nilF.rl,.int .i64 nilF.rh,.int .i64 nilF.lh,.int .i64 nilC.seg,.slice l1 nilC.ws.length n1,.slice l2 nilC.ks.length n2,.slice l3 nilC.vs.length n3,.slice l4 nilC.cs.length n4,.int .u64 nilC.laid]):=by rw [←hw16];exact hid (bx_new _ _ _)
    have HB16:=xv hb16 HB15;have D10_16:=xv hb16 D10_15;have D13_16:=xv hb16 D13_15;have D15_16:=hid (hb16);clear D10_15 D13_15;clear hw16 hb16;generalize HVz:Value.agg #[.int .u8 nilF.tag,.int .i64 nilF.most,.int .i64 nilF.seg,.int .i64 nilF.least,.int .i64 nilF.den,.int .i64 nilF.ll,.int .i64 nilF.rl,.int .i64 nilF.rh,.int .i64 nilF.lh,.int .i64 nilC.seg,.slice l1 nilC.ws.length n1,.slice l2 nilC.ks.length n2,.slice l3 nilC.vs.length n3,.slice l4 nilC.cs.length n4,.int .u64 nilC.laid]=v_z at ⊢;have HV_z:=hid HVz;clear HVz;clear HXz P_z HV_z D15_16;have HZ16:=hid (And.intro D10_16.out.size (And.intro D13_16.out.size HB10.out.size));as_aux_lemma=>
    have TW':=hid (TW.out w16 a HB16.out (HIm.out.below D10_16.out) HCCm.out);dsimp only [pmV] at TW';rw [HV_m.out] at TW';go_wp2_with (first|refine wpl_loadv 31 (.tmp 1) _ _ v_m HV_m.out rfl rfl rfl Tryd.underlying31 rfl xk P_m.out ?_)
    go_wp2_with fail
    refine (TW'.out).mono ?_;rintro e w17 ⟨x1,x2,x3,x4,rfl,p1,p2,p3,p4,hb17,hne⟩;replace P_m:=pbb hb17 P_m Z_m;replace Z_m:=blt hb17 Z_m;replace P_y:=pbb hb17 P_y Z_y;replace Z_y:=blt hb17 Z_y;have hz_w17:=hb17.size;have HB17:=xv hb17 HB16;have D10_17:=xv hb17 D10_16;have D13_17:=xv hb17 D13_16;clear D10_16 D13_16;obtain ⟨q1,r1,rfl,i1,-,-,-,-⟩:=row_of_owns p1;obtain ⟨q2,r2,rfl,i2,-,-,-,-⟩:=row_of_owns p2;obtain ⟨q3,r3,rfl,i3,-,-,-,-⟩:=row_of_owns p3;obtain ⟨q4,r4,rfl,i4,-,-,hcc,-⟩:=row_of_owns p4;have HIt:Hid (SlIn w17 (sq 8) ⟨q1,q2,q3,q4,r1,r2,r3,r4⟩):=hid ⟨i1,i2,i3,i4,HU.out 8⟩;have HCCt:=hid hcc;have HNE:=hid hne;have HOt:=hid (And.intro p1 (And.intro p2 (And.intro p3 p4)));clear hb17 hne p1 p2 p3 p4 i1 i2 i3 i4 hcc;clear TW TW' HIt;as_aux_lemma=>
    go_upto_region 11 with (refine wpl_store_new 31 (.tmp 11) (.tmp 56) _ _ rfl rfl rfl rfl xk rfl (by simp [Value.oneCell']) ?_)
    generalize hw18:w17.alloc _=w18;replace P_m:=pbg hw18 P_m Z_m;replace Z_m:=elt hw18 (auz Z_m);replace P_y:=pbg hw18 P_y Z_y;replace Z_y:=elt hw18 (auz Z_y);have P_t:Hid (PB w18 (w17.heap.size) [.int .u8 c.tag,.int .i64 c.most,.int .i64 c.seg,.int .i64 c.least,.int .i64 c.den,.int .i64 c.ll,.int .i64 c.rl,.int .i64 c.rh,.int .i64 c.lh,.int .i64 (sq 8).seg,.slice q1 (sq 8).ws.length r1,.slice q2 (sq 8).ks.length r2,.slice q3 (sq 8).vs.length r3,.slice q4 (sq 8).cs.length r4,.int .u64 (sq 8).laid]):=by rw [←hw18];exact hid (pb_new _ _ _ xsi)
    have Z_t:w17.heap.size<w18.heap.size:=by rw [←hw18];simp only [World.size_alloc];omega
    have hb18:Below w17.heap.size w17 w18:=by rw [←hw18];exact br.alloc (Nat.le_refl _) _
    have hz18:w17.heap.size<w18.heap.size:=by rw [←hw18];simp
    have HXt:Hid (BX w18 w17.heap.size 31 [.int .u8 c.tag,.int .i64 c.most,.int .i64 c.seg,.int .i64 c.least,.int .i64 c.den,.int .i64 c.ll,.int .i64 c.rl,.int .i64 c.rh,.int .i64 c.lh,.int .i64 (sq 8).seg,.slice q1 (sq 8).ws.length r1,.slice q2 (sq 8).ks.length r2,.slice q3 (sq 8).vs.length r3,.slice q4 (sq 8).cs.length r4,.int .u64 (sq 8).laid]):=by rw [←hw18];exact hid (bx_new _ _ _)
    have HB18:=xv hb18 HB17;have D10_18:=xv hb18 D10_17;have D13_18:=xv hb18 D13_17;have D17_18:=hid (hb18);clear D10_17 D13_17;clear hw18 hb18;generalize HVt:Value.agg #[.int .u8 c.tag,.int .i64 c.most,.int .i64 c.seg,.int .i64 c.least,.int .i64 c.den,.int .i64 c.ll,.int .i64 c.rl,.int .i64 c.rh,.int .i64 c.lh,.int .i64 (sq 8).seg,.slice q1 (sq 8).ws.length r1,.slice q2 (sq 8).ks.length r2,.slice q3 (sq 8).vs.length r3,.slice q4 (sq 8).cs.length r4,.int .u64 (sq 8).laid]=v_t at ⊢;have HV_t:=hid HVt;clear HVt;obtain ⟨g,hgq,hg1,hg2⟩:=own_form HOt.out.2.1 HN.out.1;subst hgq;have A1:=hid (show ∀x,(Value.slice q1 (sq 8).ws.length r1).ownBlock=some x→x≠g from fun x hx e=>by
     rcases owns_apart HOt.out.1 HOt.out.2.1 xdd with h|h
     · rw [h] at hx;cases hx
     · exact h (by rw [hx,e];rfl))
    have A4:=hid (show ∀x,(Value.slice q4 (sq 8).cs.length r4).ownBlock=some x→x≠g from fun x hx e=>by
     rcases owns_apart HOt.out.2.2.2 HOt.out.2.1 xdd with h|h
     · rw [h] at hx;cases hx
     · exact h (by rw [hx,e];rfl))
    have A3:=hid (show ∀x,(Value.slice q3 (sq 8).vs.length r3).ownBlock=some x→x≠g from fun x hx e=>HNE.out g x rfl hx e.symm);have O0:=hid (show w18.ownsRow w16.heap.size 2 1 (.slice (some ⟨g,0,none⟩) (sq 8).ks.length r2) (sq 8).ks.length ((chgL 0 (sq 8).ks).map (Value.int .i64)) by rw [chgL_zero];exact owns_below HOt.out.2.1 D17_18.out);replace HOt:=hid (And.intro (owns_below HOt.out.1 D17_18.out) (And.intro (owns_below HOt.out.2.2.1 D17_18.out) (owns_below HOt.out.2.2.2 D17_18.out)));have HG:=hid (And.intro hg1 hg2);have hz1:w10.heap.size≤w16.heap.size:=HZ16.out.1;clear HNE hg1 hg2 HXt HXy;go_upto_region 12 with (fail)
    as_aux_lemma=>
    go_loopg [12] (sq 8).ks.length (fun gk iv wr=>∃k:Nat,k+gk=(sq 8).ks.length∧iv= .int .i64 k∧Hid (RowR g w18 wr)∧Hid (wr.ownsRow w16.heap.size 2 1 (.slice (some ⟨g,0,none⟩) (sq 8).ks.length r2) (sq 8).ks.length ((chgL k (sq 8).ks).map (Value.int .i64))))
    case atStart=>exact ⟨0,by omega,rfl,hid (rowR_refl _ _),O0⟩
    case round=>
     obtain ⟨k,hk,rfl,HS,HO⟩:=hrel;have hgz:=HG.out;have hz18:w18.heap.size=wr.heap.size:=HS.out.size.symm;have P_t':=hid (HS.out.pb P_t.out xo);have c_t11:=P_t'.out 11 _ rfl;clear hz18;by_cases hlt:k<(sq 8).ks.length
     · have hx:=own_cell HO.out (j:=k) (by rw [chgL_length];exact hlt);rw [chgL_get hlt] at hx;have cg1:=hx.1;have fg1:=hx.2;have HXX:=hid (And.intro (fun (h:(sq 8).ks.getD k 0≠7)=>chgL_no hlt h) (fun (h:(sq 8).ks.getD k 0=7)=>chgL_yes hlt h));have hd:decide ((k:Int)<((sq 8).ks.length:Int))=true:=decide_eq_true xo;have hw3:IntKind.i64.wrap ((k:Int)+1)=(k:Int)+1:=IntWalk.i64_in _ (by have:=HN.out;omega);generalize (sq 8).ks.getD k 0=x at *;clear hx hgz;by_cases h7:x=7
       · subst h7;have HS2:=hid (HS.out.trans (rowR_cell wr g k (.int .i64 6)));have HO2:=hid (own_set HO.out k 6);rw [←HXX.out.2 rfl] at HO2;clear HXX;go_wp2
         go_roundg (gk-1)
         case measure=>omega
         case rel=>exact ⟨k+1,by omega,by go_num,HS2,HO2⟩
       · have b7:(x==7)=false:=by simpa using h7
         rw [←HXX.out.1 h7] at HO;clear HXX h7;go_wp2
         go_roundg (gk-1)
         case measure=>omega
         case rel=>exact ⟨k+1,by omega,by go_num,HS,HO⟩
     · obtain rfl:k=(sq 8).ks.length:=xo;obtain ⟨w19,rfl⟩:∃w19,w19=wr:=⟨_,rfl⟩
       clear hk hlt;go_upto_region 16 with (fail)
       clear c_t11;have hz16:=HZ16.out;have HB19:=hid (HB18.out.trans (HS.out.bel _ xo));have D10_19:=hid (D10_18.out.trans (HS.out.bel _ xo));have D13_19:=hid (D13_18.out.trans (HS.out.bel _ xo));have hz19:w19.heap.size=w18.heap.size:=HS.out.size;replace P_m:=hid (HS.out.pb P_m.out xo);replace Z_m:w2.heap.size<w19.heap.size:=xo;replace P_y:=hid (HS.out.pb P_y.out xo);replace Z_y:w13.heap.size<w19.heap.size:=xo;replace P_t:=P_t';replace Z_t:w17.heap.size<w19.heap.size:=xo;have o1:=owns_heap HOt.out.1 fun x hx=>HS.out.other x (A1.out x hx)
       have o3:=owns_heap HOt.out.2.1 fun x hx=>HS.out.other x (A3.out x hx)
       have o4:=owns_heap HOt.out.2.2 fun x hx=>HS.out.other x (A4.out x hx)
       obtain ⟨y1,n1,hy,i1,-⟩:=row_of_owns o1;cases hy;obtain ⟨y2,n2,hy,i2,-⟩:=row_of_owns HO.out;cases hy;obtain ⟨y3,n3,hy,i3,-⟩:=row_of_owns o3;cases hy;obtain ⟨y4,n4,hy,i4,-⟩:=row_of_owns o4;cases hy;have HIt:Hid (SlIn w19 ⟨(sq 8).seg,(sq 8).ws,chgL (sq 8).ks.length (sq 8).ks,(sq 8).vs,(sq 8).cs,(sq 8).laid⟩ ⟨q1,some ⟨g,0,none⟩,q3,q4,r1,r2,r3,r4⟩):=hid ⟨i1,i2,i3,i4,HU.out 8⟩;clear o1 o3 o4 i1 i2 i3 i4 A1 A3 A4 HOt HO HS HG HZ16 hz16 D10_18 D13_18 D17_18 P_t' hz19 hgz;as_aux_lemma=>
       go_wp2_with fail
       go_wp2_with fail
       refine (N0.out _).mono ?_;rintro e w20 ⟨x1,x2,x3,x4,rfl,p1,p2,p3,p4,hb20⟩;replace P_m:=pbb hb20 P_m Z_m;replace Z_m:=blt hb20 Z_m;replace P_y:=pbb hb20 P_y Z_y;replace Z_y:=blt hb20 Z_y;replace P_t:=pbb hb20 P_t Z_t;replace Z_t:=blt hb20 Z_t;have hz_w20:=hb20.size;have HB20:=xv hb20 HB19;have D19_20:=hid (hb20);have D10_20:=xv hb20 D10_19;have D13_20:=xv hb20 D13_19;clear D10_19 D13_19;obtain ⟨l1,n1,rfl,-,-,-,-,-⟩:=row_of_owns p1;obtain ⟨l2,n2,rfl,-,-,-,-,-⟩:=row_of_owns p2;obtain ⟨l3,n3,rfl,-,-,-,-,-⟩:=row_of_owns p3;obtain ⟨l4,n4,rfl,-,-,-,-,-⟩:=row_of_owns p4;clear hb20 p1 p2 p3 p4;clear N0;as_aux_lemma=>
       go_upto_region 17 with (refine wpl_store_new 31 (.tmp 13) (.tmp 80) _ _ rfl rfl rfl rfl xk rfl (by simp [Value.oneCell']) ?_)
       generalize hw21:w20.alloc _=w21;replace P_m:=pbg hw21 P_m Z_m;replace Z_m:=elt hw21 (auz Z_m);replace P_y:=pbg hw21 P_y Z_y;replace Z_y:=elt hw21 (auz Z_y);replace P_t:=pbg hw21 P_t Z_t;replace Z_t:=elt hw21 (auz Z_t);have P_o:Hid (PB w21 (w20.heap.size) [.int .u8 nilF.tag,.int .i64 nilF.most,.int .i64 nilF.seg,.int .i64 nilF.least,.int .i64 nilF.den,.int .i64 nilF.ll,.int .i64 nilF.rl,.int .i64 nilF.rh,.int .i64 nilF.lh,.int .i64 nilC.seg,.slice l1 nilC.ws.length n1,.slice l2 nilC.ks.length n2,.slice l3 nilC.vs.length n3,.slice l4 nilC.cs.length n4,.int .u64 nilC.laid]):=by rw [←hw21];exact hid (pb_new _ _ _ xsi)
       have Z_o:w20.heap.size<w21.heap.size:=by rw [←hw21];simp only [World.size_alloc];omega
       have hb21:Below w20.heap.size w20 w21:=by rw [←hw21];exact br.alloc (Nat.le_refl _) _
       have hz21:w20.heap.size<w21.heap.size:=by rw [←hw21];simp
       have HXo:Hid (BX w21 w20.heap.size 31 [.int .u8 nilF.tag,.int .i64 nilF.most,.int .i64 nilF.seg,.int .i64 nilF.least,.int .i64 nilF.den,.int .i64 nilF.ll,.int .i64 nilF.rl,.int .i64 nilF.rh,.int .i64 nilF.lh,.int .i64 nilC.seg,.slice l1 nilC.ws.length n1,.slice l2 nilC.ks.length n2,.slice l3 nilC.vs.length n3,.slice l4 nilC.cs.length n4,.int .u64 nilC.laid]):=by rw [←hw21];exact hid (bx_new _ _ _)
       have HB21:=xv hb21 HB20;have D19_21:=xv hb21 D19_20;have D10_21:=xv hb21 D10_20;have D13_21:=xv hb21 D13_20;have D20_21:=hid (hb21);clear D10_20 D13_20;clear hw21 hb21;generalize HVo:Value.agg #[.int .u8 nilF.tag,.int .i64 nilF.most,.int .i64 nilF.seg,.int .i64 nilF.least,.int .i64 nilF.den,.int .i64 nilF.ll,.int .i64 nilF.rl,.int .i64 nilF.rh,.int .i64 nilF.lh,.int .i64 nilC.seg,.slice l1 nilC.ws.length n1,.slice l2 nilC.ks.length n2,.slice l3 nilC.vs.length n3,.slice l4 nilC.cs.length n4,.int .u64 nilC.laid]=v_o at ⊢;have HV_o:=hid HVo;clear HVo;clear HXo P_o HV_o D20_21;as_aux_lemma=>
       go_wp2_with fail
       refine (AL.out _ HB21.out).mono ?_;rintro e w22 ⟨rfl,hb22⟩;replace P_m:=pbb hb22 P_m Z_m;replace Z_m:=blt hb22 Z_m;replace P_y:=pbb hb22 P_y Z_y;replace Z_y:=blt hb22 Z_y;replace P_t:=pbb hb22 P_t Z_t;replace Z_t:=blt hb22 Z_t;have hz_w22:=hb22.size;have HB22:=xv hb22 HB21;have D19_22:=xv hb22 D19_21;have D10_22:=xv hb22 D10_21;have D13_22:=xv hb22 D13_21;clear D10_21 D13_21;clear hb22;clear AL;as_aux_lemma=>
       have S8':=hid (S8.out w22 a HB22.out (HIm.out.below D10_22.out) HCCm.out);dsimp only [pmV] at S8';rw [HV_m.out] at S8';go_wp2_with (first|refine wpl_loadv 31 (.tmp 1) _ _ v_m HV_m.out rfl rfl rfl Tryd.underlying31 rfl xk P_m.out ?_)
       go_wp2_with fail
       refine (S8'.out).mono ?_;rintro e w23 ⟨rfl,hb23⟩;replace P_m:=pbb hb23 P_m Z_m;replace Z_m:=blt hb23 Z_m;replace P_y:=pbb hb23 P_y Z_y;replace Z_y:=blt hb23 Z_y;replace P_t:=pbb hb23 P_t Z_t;replace Z_t:=blt hb23 Z_t;have hz_w23:=hb23.size;have HB23:=xv hb23 HB22;have D19_23:=xv hb23 D19_22;have D10_23:=xv hb23 D10_22;have D13_23:=xv hb23 D13_22;clear D10_22 D13_22;clear hb23;clear S8 S8';as_aux_lemma=>
       have GX':=hid (GX.out w23 ⟨f1,f2,f3,f4,g1,g2,g3,g4⟩ HB23.out (HIy.out.below D13_23.out) HCCy.out);dsimp only [pmV] at GX';rw [HV_y.out] at GX';go_wp2_with (first|refine wpl_loadv 31 (.tmp 7) _ _ v_y HV_y.out rfl rfl rfl Tryd.underlying31 rfl xk P_y.out ?_)
       go_wp2_with fail
       refine (GX'.out).mono ?_;rintro e w24 ⟨rfl,hb24⟩;replace P_m:=pbb hb24 P_m Z_m;replace Z_m:=blt hb24 Z_m;replace P_y:=pbb hb24 P_y Z_y;replace Z_y:=blt hb24 Z_y;replace P_t:=pbb hb24 P_t Z_t;replace Z_t:=blt hb24 Z_t;have hz_w24:=hb24.size;have HB24:=xv hb24 HB23;have D19_24:=xv hb24 D19_23;have D10_24:=xv hb24 D10_23;have D13_24:=xv hb24 D13_23;clear D10_23 D13_23;clear hb24;clear GX GX';as_aux_lemma=>
       have SX':=hid (SX.out w24 ⟨f1,f2,f3,f4,g1,g2,g3,g4⟩ HB24.out (HIy.out.below D13_24.out) HCCy.out);dsimp only [pmV] at SX';rw [HV_y.out] at SX';go_wp2_with (first|refine wpl_loadv 31 (.tmp 7) _ _ v_y HV_y.out rfl rfl rfl Tryd.underlying31 rfl xk P_y.out ?_)
       go_wp2_with fail
       refine (SX'.out).mono ?_;rintro e w25 ⟨rfl,hb25⟩;replace P_m:=pbb hb25 P_m Z_m;replace Z_m:=blt hb25 Z_m;replace P_y:=pbb hb25 P_y Z_y;replace Z_y:=blt hb25 Z_y;replace P_t:=pbb hb25 P_t Z_t;replace Z_t:=blt hb25 Z_t;have hz_w25:=hb25.size;have HB25:=xv hb25 HB24;have D19_25:=xv hb25 D19_24;have D10_25:=xv hb25 D10_24;have D13_25:=xv hb25 D13_24;clear D10_24 D13_24;clear hb25;clear SX SX';as_aux_lemma=>
       have CY':=hid (CY.out w25 ⟨q1,some ⟨g,0,none⟩,q3,q4,r1,r2,r3,r4⟩ HB25.out (HIt.out.below D19_25.out) HCCt.out);dsimp only [pmV] at CY';rw [HV_t.out] at CY';go_wp2_with (first|refine wpl_loadv 31 (.tmp 11) _ _ v_t HV_t.out rfl rfl rfl Tryd.underlying31 rfl xk P_t.out ?_)
       go_wp2_with fail
       refine (CY'.out).mono ?_;rintro e w26 ⟨rfl,hb26⟩;replace P_m:=pbb hb26 P_m Z_m;replace Z_m:=blt hb26 Z_m;replace P_y:=pbb hb26 P_y Z_y;replace Z_y:=blt hb26 Z_y;replace P_t:=pbb hb26 P_t Z_t;replace Z_t:=blt hb26 Z_t;have hz_w26:=hb26.size;have HB26:=xv hb26 HB25;have D19_26:=xv hb26 D19_25;have D10_26:=xv hb26 D10_25;have D13_26:=xv hb26 D13_25;clear D10_25 D13_25;clear hb26;clear CY CY';as_aux_lemma=>
       go_wp2_with fail
       refine (C0.out _).mono ?_;rintro e w27 ⟨rfl,hb27⟩;replace P_m:=pbb hb27 P_m Z_m;replace Z_m:=blt hb27 Z_m;replace P_y:=pbb hb27 P_y Z_y;replace Z_y:=blt hb27 Z_y;replace P_t:=pbb hb27 P_t Z_t;replace Z_t:=blt hb27 Z_t;have hz_w27:=hb27.size;have HB27:=xv hb27 HB26;have D19_27:=xv hb27 D19_26;have D10_27:=xv hb27 D10_26;have D13_27:=xv hb27 D13_26;clear D10_26 D13_26;clear hb27;as_aux_lemma=>
       go_wp2_with fail
       refine (CH.out _).mono ?_;rintro e w28 ⟨rfl,hb28⟩;replace P_m:=pbb hb28 P_m Z_m;replace Z_m:=blt hb28 Z_m;replace P_y:=pbb hb28 P_y Z_y;replace Z_y:=blt hb28 Z_y;replace P_t:=pbb hb28 P_t Z_t;replace Z_t:=blt hb28 Z_t;have hz_w28:=hb28.size;have HB28:=xv hb28 HB27;have D19_28:=xv hb28 D19_27;have D10_28:=xv hb28 D10_27;have D13_28:=xv hb28 D13_27;clear D10_27 D13_27;clear hb28;rename_i hKK
       refine hKK _ _ ?_;clear hKK;refine wpl_build1 31 0 (.tmp 132) _ _ rfl rfl rfl (built_one c) ?_;as_aux_lemma=>
       go_wp2_with fail
       refine (C1.out _).mono ?_;rintro e w29 ⟨rfl,hb29⟩;replace P_m:=pbb hb29 P_m Z_m;replace Z_m:=blt hb29 Z_m;replace P_y:=pbb hb29 P_y Z_y;replace Z_y:=blt hb29 Z_y;replace P_t:=pbb hb29 P_t Z_t;replace Z_t:=blt hb29 Z_t;have hz_w29:=hb29.size;have HB29:=xv hb29 HB28;have D19_29:=xv hb29 D19_28;have D10_29:=xv hb29 D10_28;have D13_29:=xv hb29 D13_28;clear D10_28 D13_28;clear hb29;as_aux_lemma=>
       go_wp2
       go_ret
       exact ⟨rfl,HB29.out⟩
end
section
open Go.RowKit
end
section
open Go.RowKit
end
section
open Go.RowKit
end
end Go.Proofs.YtmnlagmmbfjbeaaDoor

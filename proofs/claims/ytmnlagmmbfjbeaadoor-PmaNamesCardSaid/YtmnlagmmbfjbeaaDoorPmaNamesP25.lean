/- Merged: Path, OccNth. -/
import Derived.Test.YtmnlagmmbfjbeaaDoorPmaNamesP11
import Derived.Test.YtmnlagmmbfjbeaaDoorPmaNamesP24
import Derived.Test.YtmnlagmmbfjbeaaDoorPmaNamesP19
import Derived.Test.YtmnlagmmbfjbeaaDoorPmaNamesP21
import Derived.Test.YtmnlagmmbfjbeaaDoorPmaNamesP13
namespace Go.Proofs.YtmnlagmmbfjbeaaDoor
set_option maxRecDepth 100000
set_option maxHeartbeats 40000000
set_option linter.unusedVariables false
set_option linter.unusedSimpArgs false
section
open Go.RowKit Go.Shelf
attribute [local go_sem] Oper.semAt_some
def winsL (a at_ N:Nat):List (Int×Int):=(List.range N).map fun h=>(((wnd a h at_*2^(a+h):Nat):Int),((wnd a h at_*2^(a+h):Nat):Int)+((2^(a+h):Nat):Int))
theorem winsL_length (a at_ N:Nat):(winsL a at_ N).length=N:=by simp [winsL]
theorem winsL_succ (a at_ N:Nat):winsL a at_ (N+1)=winsL a at_ N++[(((wnd a N at_*2^(a+N):Nat):Int),((wnd a N at_*2^(a+N):Nat):Int)+((2^(a+N):Nat):Int))]:=by simp [winsL,List.range_succ]
theorem winsL_get {a at_ N i:Nat} (h:i<N):(winsL a at_ N).getD i (0,0)=(((wnd a i at_*2^(a+i):Nat):Int),((wnd a i at_*2^(a+i):Nat):Int)+((2^(a+i):Nat):Int)):=by
 rw [List.getD_eq_getElem?_getD,winsL,List.getElem?_map,List.getElem?_range h];rfl
def winX (a at_ N:Nat):List (Array Value):=(List.range N).map fun (h:Nat)=> #[.int .i64 (h:Int),.agg #[.int .i64 ((wnd a h at_*2^(a+h):Nat):Int),.int .i64 (((wnd a h at_*2^(a+h):Nat):Int)+((2^(a+h):Nat):Int))]]
theorem winX_length (a at_ N:Nat):(winX a at_ N).length=N:=by simp [winX]
theorem winX_get {a at_ N i:Nat} (h:i<N):(winX a at_ N).getD i #[]= #[.int .i64 (i:Int),.agg #[.int .i64 ((wnd a i at_*2^(a+i):Nat):Int),.int .i64 (((wnd a i at_*2^(a+i):Nat):Int)+((2^(a+i):Nat):Int))]]:=by
 rw [List.getD_eq_getElem?_getD,winX,List.getElem?_map,List.getElem?_range h];rfl
theorem wnd_around {a h at_:Nat} (hat:at_≤65536) (hah:a+h≤16) (w:World):
    Calls Tryd.prog 80 #[.int .i64 ((2^(a+h):Nat):Int),.int .i64 at_] w (AnsB w (.agg #[.int .i64 ((wnd a h at_*2^(a+h):Nat):Int),.int .i64 (((wnd a h at_*2^(a+h):Nat):Int)+((2^(a+h):Nat):Int))])):=by
 have hp:=Nat.two_pow_pos (a+h);have hb:2^(a+h)≤2^16:=Nat.pow_le_pow_right xo hah;have hd:=Nat.div_mul_le_self at_ (2^(a+h));have e:=i64_andNot_pow (n:=at_) (e:=a+h) xo xo;refine around_ok _ _ _ ?_ xo xo xo ?_ w
 · unfold wnd;rw [←e];congr 1
   omega
 · unfold wnd;omega
theorem windows1_iter (a at_ N:Nat) (hat:at_≤65536) (hN:a+N≤17) (S:Nat→Prop) (b1 b2:Nat) (s1:S b1) (s2:S b2) (w:World) (c1:w.cell? ⟨b1,0,none⟩=some (.int .i64 ((2^a:Nat):Int))) (c2:w.cell? ⟨b2,0,none⟩=some (.int .i64 at_)):
    IterE Tryd.prog 96 #[.pointer (some ⟨b1,0,none⟩),.pointer (some ⟨b2,0,none⟩)] (winX a at_ N) (KpS S) w:=by
 intro l J Jx W hW hno hJ hJx hY h0;have HY:=hid hY;have HJ:=hid hJ;have HNO:=hid hno;have HLN:=hid (winX_length a at_ N);have HGT:=hid (fun k (h:k<N)=>winX_get (a:=a) (at_:=at_) h);have AR0:=hid (fun h (hh:h<N) W=>wnd_around (a:=a) (h:=h) hat xo W);have HSH:=hid (fun h (hh:h<N)=>(show IntKind.i64.wrap (((2^a:Nat):Int)*2^h)=((2^(a+h):Nat):Int) by
  have hb:2^(a+h)≤2^17:=Nat.pow_le_pow_right xo xo;have e:((2^a:Nat):Int)*2^h=((2^(a+h):Nat):Int):=by rw [Nat.pow_add];push_cast;rfl
  rw [e];generalize 2^(a+h)=P at hb;exact IntWalk.i64_in _ xo))
 have hc1:W.cell? ⟨b1,0,none⟩=some (.int .i64 ((2^a:Nat):Int)):=(hW.cell (p:=⟨b1,0,none⟩) (World.block_lt_of_cell? _ _ c1)).trans c1;have hc2:W.cell? ⟨b2,0,none⟩=some (.int .i64 at_):=(hW.cell (p:=⟨b2,0,none⟩) (World.block_lt_of_cell? _ _ c2)).trans c2;have HH0:=hid h0;clear hY hJ hJx hno h0 c1 c2;generalize winX a at_ N=xs at *;generalize ((2^a:Nat):Int)=sg at *;refine callsIn_of_wp Tryd.func96 rfl trivial ?_ rfl;simp only [Tryd.ntmps96,List.size_toArray,List.length_cons,List.length_nil,Nat.reduceAdd,Nat.reduceSub,Array.replicate_succ,Array.replicate_zero,List.push_toArray,List.append_toArray,List.nil_append,List.cons_append];gi_wp2
 gi_loopg [4] N (fun g iv wr=>∃i:Nat,i+g=N∧iv= .int .i64 i∧Hid (J i wr)∧wr.cell? ⟨b1,0,none⟩=some (.int .i64 sg)∧wr.cell? ⟨b2,0,none⟩=some (.int .i64 at_))
 case atStart=>exact ⟨0,by omega,rfl,HH0,hc1,hc2⟩
 case round=>
  obtain ⟨i,hi',rfl,HJ0,q1,q2⟩:=hrel;clear HH0 hc1 hc2;by_cases hlt:i<N
  · have AR:=hid (AR0.out i hlt);have hsh:=HSH.out i hlt;have hpa:=HGT.out i hlt;generalize ((2^(a+i):Nat):Int)=ww at *;generalize ((wnd a i at_*2^(a+i):Nat):Int)=lo at *;have hsd:decide (i<64)=true:=by simp;omega
    have HI2:=hid hi';clear hi';gi_wp2
    refine wpIn_region_facts 7 xk (N:=15) rfl xk xk xdd (fun w'=>Below wr.heap.size wr w') (Ext 26) (factAt [.is (.func (.yield l) #[] #[]),.is (.int .i64 i),.is (.int .i64 sg),.is (.int .i64 i),.is (.int .i64 ww),.is (.int .i64 at_),.is (.agg #[.int .i64 lo,.int .i64 (lo+ww)])]) (factAt_stays _) br.drew ?steps ?fin
    case steps=>
     refine ⟨?o0,?o1,?o2,?o3,?o4,?o5,?o6,trivial⟩
     case o0=>
      intro u a w' ev hJ hd K hK;rw [if_pos (wanted_free rfl)];have e0:tg a 0= .func (.yield l) #[] #[]:=ev 0 xdd;have HK:=hid hK;clear hK ev hd;go_simp;exact HK.out _ _ xzc hJ rfl (Ext.refl _ _)
     case o1=>
      intro u a w' ev hJ hd K hK;rw [if_pos (wanted_free rfl)];have e4:tg a 4= .int .i64 i:=ev 4 xdd;have HK:=hid hK;clear hK ev hd;go_simp;exact HK.out _ _ xzc hJ rfl (Ext.refl _ _)
     case o2=>
      intro u a w' ev hJ hd K hK;rw [if_pos (wanted_free rfl)];have e1:tg a 1= .pointer (some ⟨b1,0,none⟩):=ev 1 xdd;have g0:=((hJ.cell (p:=⟨b1,0,none⟩) (World.block_lt_of_cell? _ _ q1)).trans q1)
      have HK:=hid hK;clear hK ev hd;go_simp;exact HK.out _ _ xzc hJ rfl (Ext.refl _ _)
     case o3=>
      intro u a w' ev hJ hd K hK;rw [if_pos (wanted_free rfl)];have e4:tg a 4= .int .i64 i:=ev 4 xdd;have HK:=hid hK;clear hK ev hd;go_simp;exact HK.out _ _ xzc hJ rfl (Ext.refl _ _)
     case o4=>
      intro u a w' ev hJ hd K hK;rw [if_pos (wanted_free rfl)];have e7:tg a 7= .int .i64 sg:=(ev 7 xdd).trans (hd 2 _ xk rfl);have e8:tg a 8= .int .i64 i:=(ev 8 xdd).trans (hd 3 _ xk rfl);have HK:=hid hK;clear hK ev hd;go_simp;exact HK.out _ _ xzc hJ rfl (Ext.refl _ _)
     case o5=>
      intro u a w' ev hJ hd K hK;rw [if_pos (wanted_free rfl)];have e2:tg a 2= .pointer (some ⟨b2,0,none⟩):=ev 2 xdd;have g0:=((hJ.cell (p:=⟨b2,0,none⟩) (World.block_lt_of_cell? _ _ q2)).trans q2)
      have HK:=hid hK;clear hK ev hd;go_simp;exact HK.out _ _ xzc hJ rfl (Ext.refl _ _)
     case o6=>
      intro u a w' ev hJ hd K hK;rw [if_pos (wanted_free rfl)];have e9:tg a 9= .int .i64 ww:=(ev 9 xdd).trans (hd 4 _ xk rfl);have e10:tg a 10= .int .i64 at_:=(ev 10 xdd).trans (hd 5 _ xk rfl);have HK:=hid hK;have HJJ:=hid hJ;clear hK ev hd hJ;go_simp;refine ⟨trivial,rfl,(callsIn_wide.2 (AR.out _)).mono ?_⟩;rintro e w'' ⟨rfl,hb⟩;exact HK.out _ _ xzc (HJJ.out.trans (hb.mono HJJ.out.size)) rfl (Ext.below hb)
    case fin=>
     intro u w3 hBq hG;have h5:u 5= .func (.yield l) #[] #[]:=hG 0 _ rfl;have h6:u 6= .int .i64 i:=hG 1 _ rfl;have h11:u 11= .agg #[.int .i64 lo,.int .i64 (lo+ww)]:=hG 6 _ rfl;have k1:w3.cell? ⟨b1,0,none⟩=some (.int .i64 sg):=(hBq.cell (p:=⟨b1,0,none⟩) (World.block_lt_of_cell? _ _ q1)).trans q1;have k2:w3.cell? ⟨b2,0,none⟩=some (.int .i64 at_):=(hBq.cell (p:=⟨b2,0,none⟩) (World.block_lt_of_cell? _ _ q2)).trans q2;obtain ⟨fn,tmps,assign,body,hy,hR⟩:=HY.out i w3 (by rw [HLN.out];exact hlt) (HJ.out _ _ _ HJ0.out hBq);rw [hpa] at hy;clear hG hpa hBq q1 q2;simp only [mixFrame,mixL,dstsOf,List.take_succ_cons,List.take_zero,List.filterMap_cons,List.filterMap_nil,List.contains_cons,List.contains_nil,Nat.reduceBEq,Bool.or_false,Bool.false_or,Bool.or_true,Bool.true_or,if_true,if_false,Bool.false_eq_true,Nat.reduceAdd,Nat.zero_add,List.drop_succ_cons,List.drop_zero,h5,h6,h11];gi_wp2
     refine ⟨rfl,hR.mono ?_⟩;rintro e W3 (⟨rfl,hJ3,hk3⟩ | ⟨rfl,hJx3⟩)
     · have m1:W3.cell? ⟨b1,0,none⟩=some (.int .i64 sg):=hk3.cell (a:=⟨b1,0,none⟩) s1 k1;have m2:W3.cell? ⟨b2,0,none⟩=some (.int .i64 at_):=hk3.cell (a:=⟨b2,0,none⟩) s2 k2;have HJ3:=hid hJ3;clear hJ3 hk3 hy hR k1 k2;gi_wp2
       gi_roundg (gk-1)
       case measure=>have:=HI2.out;omega
       case rel=>exact ⟨i+1,by have:=HI2.out;omega,by go_num,HJ3,m1,m2⟩
     · have HJ3:=hid hJx3;clear hJx3 hy hR;gi_wp2
       exact bodyPost_end (results_none rfl _ _ _) rfl ⟨⟨_,rfl⟩,.inr ⟨i+1,by rw [HLN.out];omega,HJ3.out⟩⟩
  · exfalso
    have him:i=N:=xo;subst him;exact HNO.out _ (by rw [HLN.out];exact HJ0.out)
theorem windows_ok (sg at_:Int) (w:World):
    Calls Tryd.prog 87 #[.int .i64 sg,.int .i64 at_] w fun e w'=>e= .returned (.func (.func 96) #[] #[.pointer (some ⟨w.heap.size,0,none⟩),.pointer (some ⟨w.heap.size+1,0,none⟩)])∧
      w'=(w.alloc (.cells #[.int .i64 sg] 3)).alloc (.cells #[.int .i64 at_] 3):=by
 go_enter Tryd.func87,Tryd.ntmps87
 go_wp2
 go_ret
 exact ⟨rfl,rfl⟩
structure PathI (a at_ H B:Nat) (w:World) (k:Nat) (W:World):Prop where
 le:k≤H
 own:∃v,W.cell? ⟨B,0,none⟩=some v∧W.ownsRow (B+5) 77 2 v k ((prI (winsL a at_ k)).map (Value.int .i64))
 fz:W.frozen? ⟨B,0,none⟩=false
 hh:W.cell? ⟨B+2,0,none⟩=some (.int .i64 H)
 sz:B+5≤W.heap.size
 bel:Below B w W
theorem PathI.calm {a at_ H B M:Nat} {w:World} {k:Nat} {W W':World} (h:PathI a at_ H B w k W) (hc:Calm M W W') (hB:B≤M):PathI a at_ H B w k W':=by
 obtain ⟨h0,⟨v,h1,h2⟩,h3,h5,h6,h4⟩:=h;exact ⟨h0,⟨v,hc.cell h1,hc.owns h2⟩,hc.frozen h1 h3,hc.cell h5,Nat.le_trans h6 hc.size,hc.below hB h4⟩
structure PathX (a at_ H B:Nat) (w:World) (c:Code) (W:World):Prop where
 code:c= .exit 0
 own:∃v,W.cell? ⟨B,0,none⟩=some v∧W.ownsRow (B+5) 77 2 v (H+1) ((prI (winsL a at_ (H+1))).map (Value.int .i64))
 fz:W.frozen? ⟨B,0,none⟩=false
 bel:Below B w W
theorem PathX.calm {a at_ H B M:Nat} {w:World} {c:Code} {W W':World} (h:PathX a at_ H B w c W) (hc:Calm M W W') (hB:B≤M):PathX a at_ H B w c W':=by
 obtain ⟨h0,⟨v,h1,h2⟩,h3,h4⟩:=h;exact ⟨h0,⟨v,hc.cell h1,hc.owns h2⟩,hc.frozen h1 h3,hc.below hB h4⟩
theorem one_row {W : World} {b : Nat} {x : Int} (h : W.cell? ⟨b, 0,none⟩=some (.int .i64 x)):IsRow .i64 W (some ⟨b,0,none⟩) [x]:=by
 intro i hi;have:i=0:=by simpa using hi
 subst this
 exact ⟨b, 0, rfl, World.block_lt_of_cell? _ _ h, fun j hj => by have:j=0:=by simpa using hj
                                                                 subst this;exact h⟩
theorem Path_ok (seg size:Int) (a H:Nat) (k:WinC seg size a H) (at_:Nat) (hat:(at_:Int)<size) (w:World):
    Calls Tryd.prog 66 #[.int .i64 seg,.int .i64 size,.int .i64 at_] w (FreshW2 w (winsL a at_ (H+1)) (.int .i64 0)):=by
 obtain ⟨n1,n2,n3,n4,n5,n6,n7,n8,n9⟩:=k.nums;have hsg:=k.seg;have ha6:=k.a6;have haH:a+H≤16:=by
  have h1:2^(a+H)≤65536:=by rw [Nat.pow_add];exact k.big
  rcases Nat.lt_or_ge 16 (a+H) with q|q
  · have h2:=Nat.pow_lt_pow_right (a:=2) xo q;generalize 2^(a+H)=P at *;omega
  · exact q
 have AK:=hid (fun w p ca (hw:IsRow .i64 w p [(at_:Int)])=>wasked_ok seg size a H k p ca 1 [(at_:Int)] rfl xo (fun i hi=>by
  obtain rfl:i=0:=xo;exact ⟨by simp,by simpa using hat⟩) w hw)
 have IT:=hid (fun S b1 b2 s1 s2 w c1 c2=>windows1_iter a at_ (H+1) xo xo S b1 b2 s1 s2 w c1 c2);have HPL:=hid (winX_length a at_ (H+1));have HPG:=hid (fun k (h:k<H+1)=>winX_get (a:=a) (at_:=at_) h);have HSU:=hid (fun k=>winsL_succ a at_ k);have HLW:=hid (winsL_length a at_);rw [←hsg] at IT;clear k n5 n6 n7 hsg;refine calls_of_wp_m Tryd.func66 rfl ?_;simp only [Tryd.ntmps66,List.size_toArray,List.length_cons,List.length_nil,Nat.reduceAdd,Nat.reduceSub,Array.replicate_succ,Array.replicate_zero,List.push_toArray,List.append_toArray,List.nil_append,List.cons_append];go_wp2
 refine wp_scope_loop 0 (fun _ _ _=>False) rfl (fun _ _ _ h=>h.elim) ?_;intro HQ hH hpass;clear hH hpass;go_wp2_with fail
 refine (AK.out _ (some ⟨w.heap.size+1,0,none⟩) 1 (one_row ?_)).mono ?_
 · (exact xcn)
 rintro e w' ⟨rfl,rfl⟩;go_wp2
 refine wp_label ?_;go_wp2_with fail
 refine (windows_ok seg at_ _).mono ?_;rintro e w2 ⟨rfl,rfl⟩;go_wp2
 refine wp_range_e (xs:=winX a at_ (H+1)) (Kp:=KpS (fun k=>k≠w.heap.size∧k<w.heap.size+5)) rfl (enters_of Tryd.func96 xk rfl)
   (IT.out (fun k=>k≠w.heap.size∧k<w.heap.size+5) (w.heap.size+3) (w.heap.size+4) xo xo _ ?c1 ?c2) br (fun h k=>fun i hi=>(k i hi).trans (h i hi)) ?kb ?ps
   (PathI a at_ H w.heap.size w) (PathX a at_ H w.heap.size w) ?hI ?hX ?h0 ?round ?no ?stop
 case c1=>(exact xcn)
 case c2=>(exact xcn)
 case kb=>
  intro W l o o' hl _ _ k hk;simp at hl;exact World.putObj_heap_other xo
 case ps=>
  intro x hx;simp only [winX,List.mem_map] at hx;obtain ⟨k,_,rfl⟩:=hx;rfl
 case hI=>
  intro k W W' h hc;exact h.calm hc (by simp;omega)
 case hX=>
  intro k W W' h hc;exact h.calm hc (by simp;omega)
 case no=>
  intro W h;rw [HPL.out] at h;have:=h.le;omega
 case h0=>
  exact ⟨Nat.zero_le _,⟨_,by (exact xcn),World.ownsRow_nil _ _ _ _⟩,by (exact xcn),by (exact xcn),by first|(simp;done)|(simp;omega),by (exact xbel)⟩
 case round=>
  intro q k W hq hk hi;rw [HPL.out] at hk;rw [HPG.out k hk];have hsu:=hid (HSU.out k);obtain ⟨hle,⟨v,hv,ho⟩,hfz,hhh,hsz,hbel⟩:=hi;have hlt1:(prI (winsL a at_ k)).length=k*2:=by rw [prI_length,HLW.out]
  generalize ((wnd a k at_*2^(a+k):Nat):Int)=x at *;generalize x+((2^(a+k):Nat):Int)=y at *;have hzb:w.heap.size<W.heap.size:=World.block_lt_of_cell? _ _ hv;have hzb2:w.heap.size+2<W.heap.size:=World.block_lt_of_cell? _ _ hhh;obtain ⟨ao,co,rfl,-⟩:=owns_news ho;gi_wp2
  have hab:Below W.heap.size W (W.alloc (.cells #[.int .i64 x,.int .i64 y] 77)):=br.alloc (Nat.le_refl _) _;refine ⟨keeps_below hab,fun i hi=>hab.block i xo,?_⟩;intro W2 hc;have hc0:W2.cell? ⟨W.heap.size,0,none⟩=some (.int .i64 x):=hc.cell xcw;have hc1:W2.cell? ⟨W.heap.size,1,none⟩=some (.int .i64 y):=hc.cell xcw;have hv2:W2.cell? ⟨w.heap.size,0,none⟩=some (.slice ao k co):=hc.cell ((hab.cell (p:=⟨w.heap.size,0,none⟩) hzb).trans hv);have hh2:W2.cell? ⟨w.heap.size+2,0,none⟩=some (.int .i64 H):=hc.cell ((hab.cell (p:=⟨w.heap.size+2,0,none⟩) hzb2).trans hhh);have hfz2:W2.frozen? ⟨w.heap.size,0,none⟩=false:=hc.frozen ((hab.cell (p:=⟨w.heap.size,0,none⟩) hzb).trans hv) ((hab.frozen (p:=⟨w.heap.size,0,none⟩) hzb).trans hfz);have ho2:=hc.owns (owns_below ho hab);have hbel2:Below w.heap.size w W2:=hc.below (by simp;omega) (below_via hab hbel xo);have hz2:=hbel2.size;have hz5:w.heap.size+5≤W2.heap.size:=Nat.le_trans hsz (Nat.le_trans xsi hc.size);have HO2:=hid ho2;have HB2:=hid hbel2;have hzw:w.heap.size<W2.heap.size:=World.block_lt_of_cell? _ _ hv2;have hzw2:w.heap.size+2<W2.heap.size:=World.block_lt_of_cell? _ _ hh2;clear ho hbel hab hc ho2 hbel2 hv hfz hhh
  gi_wp2_with (gi_at_builtin;refine wpListIn_append_own _ rfl (.tmp 27) (.tmp 29) 79 rfl (w.heap.size+5) 77 _ (.agg #[.int .i64 0,.int .i64 0]) 2 16 Tryd.underlying79 (info_parts info_w2).choose_spec.1 (info_parts info_w2).choose_spec.2.1 (info_parts info_w2).choose_spec.2.2.1 (info_parts info_w2).choose_spec.2.2.2 rfl xdd _ k _ rfl (HO2.out.alloc (.cells #[.int .i64 x,.int .i64 y] 77)) ⟨W2.heap.size,0,none⟩ 1 1 [.int .i64 x,.int .i64 y] rfl rfl (new_cells _ [.int .i64 x,.int .i64 y] _ _ rfl _ rfl) (by simp [Value.oneCell']) (by unfold maxLen;omega) xo (by simp;omega) ?_;intro v' w3 ho3 hg3 _
               obtain ⟨a3,c3,rfl,-⟩:=owns_news ho3;have hne3:∀z,z<w.heap.size+5→some z≠(Value.slice ao k co).ownBlock:=fun z hz e=>(by have:=(HO2.out.lt _ e.symm).1;omega)
               have hbl3:=hg3.block w.heap.size (by simp;omega) (hne3 _ xo);have hv3:w3.cell? ⟨w.heap.size,0,none⟩=some (.slice ao k co):=(World.cell?_of_block (a:=⟨w.heap.size,0,none⟩) hbl3).trans ((((Below.refl _ W2).alloc (Nat.le_refl _) _).cell (p:=⟨w.heap.size,0,none⟩) hzw).trans hv2);have hfz3:w3.frozen? ⟨w.heap.size,0,none⟩=false:=(World.frozen?_of_block (a:=⟨w.heap.size,0,none⟩) hbl3).trans ((((Below.refl _ W2).alloc (Nat.le_refl _) _).frozen (p:=⟨w.heap.size,0,none⟩) hzw).trans hfz2);have hh3:w3.cell? ⟨w.heap.size+2,0,none⟩=some (.int .i64 H):=(World.cell?_of_block (a:=⟨w.heap.size+2,0,none⟩) (hg3.block (w.heap.size+2) (by simp;omega) (hne3 _ xo))).trans ((((Below.refl _ W2).alloc (Nat.le_refl _) _).cell (p:=⟨w.heap.size+2,0,none⟩) hzw2).trans hh2);have HO3:=hid ho3;have HG3:=hid hg3;have hkh:decide (k=H)=decide (k=H):=rfl;clear ho3 hg3 hbl3 hne3;by_cases hkH:k=H)
  all_goals
    have hB3:Below w.heap.size w w3:=(HB2.out.alloc xo (.cells #[.int .i64 x,.int .i64 y] 77)).grown HG3.out (by simp;omega) (fun z hz=>by have:=(HO2.out.lt _ hz).1;omega);have hK3:KeepsOthers W2 w3:=(keeps_below (((Below.refl _ W2).alloc (Nat.le_refl _) _))).trans (KeepsOthers.of_grownBy HG3.out (own_isCells (HO2.out.alloc _)))
  · refine ⟨hK3.trans (KeepsOthers.setCell _ _ _),⟨rfl,⟨_,World.cell?_setCell_same _ _ _ hv3,?_⟩,by rw [World.frozen?_setCell];exact hfz3,hB3.setCell (Nat.le_refl _) _⟩⟩;rw [←hkH,hsu.out,prI_append,List.map_append];exact owns_heap HO3.out fun z hz=>Below.heap_setCell _ _ _ _ (by have:=(HO3.out.lt _ hz).1;show z≠w.heap.size;omega)
  · refine ⟨hK3.trans (KeepsOthers.setCell _ _ _),fun i hi=> ?_,⟨by omega,⟨_,World.cell?_setCell_same _ _ _ hv3,?_⟩,?_,?_,?_,hB3.setCell (Nat.le_refl _) _⟩⟩
    · rw [Below.heap_setCell _ _ _ _ (show i≠w.heap.size from hi.1),HG3.out.block i (by simp;omega) (fun e=>by have:=(HO2.out.lt _ e.symm).1;omega)];exact ((Below.refl _ W2).alloc (Nat.le_refl _) _).block i xo
    · rw [hsu.out,prI_append,List.map_append];exact owns_heap HO3.out fun z hz=>Below.heap_setCell _ _ _ _ (by have:=(HO3.out.lt _ hz).1;show z≠w.heap.size;omega)
    · rw [World.frozen?_setCell];exact hfz3
    · rw [World.cell?_setCell_other _ _ _ _ (by intro e;simp at e)];exact hh3
    · have:=hB3.size;have:=HG3.out.size;simp at this ⊢;omega
 case stop=>
  intro D c W hD hX hK;obtain ⟨rfl,⟨v,hv,ho⟩,hfz,hbel⟩:=hX;obtain ⟨ao,co,rfl,-⟩:=owns_news ho;simp at hD;have HO:=hid ho;have HB:=hid hbel;clear ho hbel;go_wp2
  have hK2:(W.setCell ⟨w.heap.size,0,none⟩ (.slice ao (H+1) co)).heap[D]? =some (.deferred (some [])):=(Below.heap_setCell _ _ _ _ (by show D≠w.heap.size;omega)).trans hK;have hcalm:Calm (w.heap.size+1) (W.setCell ⟨w.heap.size,0,none⟩ (.slice ao (H+1) co)) ((W.setCell ⟨w.heap.size,0,none⟩ (.slice ao (H+1) co)).putObj D (.deferred none)):=Calm.putObj _ xo hK2 rfl;simp only [Exit.jump];refine postM_one hK2 (results_ct rfl rfl (run_loadVar_one Tryd.underlying79 rfl (hcalm.cell (World.cell?_setCell_same _ _ _ hv)))) ⟨_,rfl,?_,hcalm.below xo (HB.out.setCell (Nat.le_refl _) _)⟩;rw [HLW.out];exact owns_base (hcalm.owns (owns_heap HO.out fun z hz=>Below.heap_setCell _ _ _ _ (by have:=(HO.out.lt _ hz).1;show z≠w.heap.size;omega))) xo
end
section
open Go.RowKit Go.Shelf
attribute [local go_sem] Oper.semAt_some
structure NthI (ws:List Int) (n t b0 b1 B:Nat) (w:World) (k:Nat) (W:World):Prop where
 le:nthB ws n k≤t
 bx:W.cell? ⟨B,0,none⟩=some (.int .i64 ((t-nthB ws n k:Nat):Int))
 fz:W.frozen? ⟨B,0,none⟩=false
 box0:W.cell? ⟨b0,0,none⟩=some (.int .i64 0)
 box1:W.cell? ⟨b1,0,none⟩=some (.int .i64 0)
 fz0:W.frozen? ⟨b0,0,none⟩=false
 fz1:W.frozen? ⟨b1,0,none⟩=false
 bel:Below B w W
theorem NthI.calm {ws:List Int} {n t b0 b1 B M:Nat} {w:World} {k:Nat} {W W':World} (h:NthI ws n t b0 b1 B w k W) (hc:Calm M W W') (hB:B≤M):NthI ws n t b0 b1 B w k W':=
  ⟨h.le,hc.cell h.bx,hc.frozen h.bx h.fz,hc.cell h.box0,hc.cell h.box1,hc.frozen h.box0 h.fz0,hc.frozen h.box1 h.fz1,hc.below hB h.bel⟩
structure NthX (ws:List Int) (n t b0 b1 B:Nat) (w:World) (c:Code) (W:World):Prop where
 code:c= .ret
 lt:t<(plsW ws 0 n).length
 hit:W.cell? ⟨b0,0,none⟩=some (.int .i64 ((plsW ws 0 n).getD t 0:Nat))
 box1:W.cell? ⟨b1,0,none⟩=some (.int .i64 0)
 bel:Below B w W
theorem NthX.calm {ws:List Int} {n t b0 b1 B M:Nat} {w:World} {c:Code} {W W':World} (h:NthX ws n t b0 b1 B w c W) (hc:Calm M W W') (hB:B≤M):NthX ws n t b0 b1 B w c W':=
  ⟨h.code,h.lt,hc.cell h.hit,hc.cell h.box1,hc.below hB h.bel⟩
def nthV (ws:List Int) (n t:Nat):Int:=if t<(plsW ws 0 n).length then ((plsW ws 0 n).getD t 0:Nat) else 0
def nthE (ws:List Int) (n t:Nat):Int:=if t<(plsW ws 0 n).length then 0 else 6
theorem parts_get0 (ws:List Int) {n m:Nat} (h:m<(n+63)/64):(partsL ws 0 n).getD m #[]= #[.int .i64 ((64*m:Nat):Int),.int .u64 (cutV ws 0 n m)]:=by
 have:=partsL_get ws (a:=0) (b:=n) (k:=m) xo;rwa [Nat.zero_div,Nat.zero_add] at this
theorem parts_len0 (ws:List Int) (n:Nat):(partsL ws 0 n).length=(n+63)/64:=by
 rw [partsL_length,Nat.zero_div,Nat.sub_zero]
theorem Nth_ok (wa:Option Addr) (wc:Nat) (ws:List Int) (hu:U64s ws) (n t:Nat) (hn:n≤65536) (ht:t≤65536) (hl:ws.length≤1000000000000) (hmay:wMayB ws n=true) (w:World) (hw:IsRow .u64 w wa ws) (hT:TabAt w):
    Calls Tryd.prog 44 #[.slice wa ws.length wc,.int .i64 n,.int .i64 t] w (AnsB w (.tuple #[.int .i64 (nthV ws n t),.int .i64 (nthE ws n t)])):=by
 have AK:=hid (fun w hw=>(by have:=occCheck_ok wa wc ws hu n hn hl w hw;rwa [if_pos hmay] at this:Calls Tryd.prog 72 #[.slice wa ws.length wc,.int .i64 n] w fun e w'=>e= .returned (.int .i64 0)∧w=w'));have hlen:n≤64*ws.length:=by
  simp only [wMayB,Bool.and_eq_true,decide_eq_true_eq] at hmay;omega
 have IT:=hid (fun S b1 b2 b3 s1 s2 s3 sw w hw c1 c2 c3=>parts1_iter wa wc ws hu 0 n (Nat.zero_le _) hn xo hl S b1 b2 b3 s1 s2 s3 sw w hw c1 c2 c3);have HW:=hid hw;have HT:=hid hT;have HLT:=hid (fun x (h:wa=some x) (h0:0<ws.length)=>(show x.block<w.heap.size from by
  obtain ⟨bb,off,x',hx,-,-,hlt⟩:=hw.get h0;rw [hx] at h;cases h;exact hlt))
 obtain ⟨m,hm⟩:∃m,(n+63)/64=m:=⟨_,rfl⟩
 have HP:=hid (fun k (hk:k<m)=>parts_get0 ws (n:=n) (m:=k) xo);have HPL:=hid ((parts_len0 ws n).trans hm);have HV:=hid (fun k (hk:k<m)=>cutV_bd hu (a:=0) (b:=n) (k:=k) xo);have HIT:=hid (fun k (hk:k<m) j hj=>nth_hit (ws:=ws) hu (n:=n) (m:=k) (k:=j) xo hj);have HSU:=hid (fun k (hk:k<m)=>nthB_succ (ws:=ws) hu (n:=n) (m:=k) xo);have NON:=hid (nth_miss (ws:=ws) (n:=n) (m:=m) xo);have hmb:m≤1024:=xo;obtain ⟨M,hM⟩:∃M,ws.length=M:=⟨_,rfl⟩
 rw [hM] at hlen hl AK IT HLT ⊢;clear hw hmay hM hu hm hT;refine calls_of_wp_m Tryd.func44 rfl ?_;simp only [Tryd.ntmps44,List.size_toArray,List.length_cons,List.length_nil,Nat.reduceAdd,Nat.reduceSub,Array.replicate_succ,Array.replicate_zero,List.push_toArray,List.append_toArray,List.nil_append,List.cons_append];obtain ⟨V,hV⟩:∃V:Int,nthV ws n t=V:=⟨_,rfl⟩
 obtain ⟨E,hE⟩:∃E:Int,nthE ws n t=E:=⟨_,rfl⟩
 rw [hV,hE];have YES:=hid (fun (h:t<(plsW ws 0 n).length)=>(show V=((plsW ws 0 n).getD t 0:Nat)∧E=0 by rw [←hV,←hE,nthV,nthE,if_pos h,if_pos h];exact ⟨rfl,rfl⟩));have NO:=hid (fun (h:¬t<(plsW ws 0 n).length)=>(show V=0∧E=6 by rw [←hV,←hE,nthV,nthE,if_neg h,if_neg h];exact ⟨rfl,rfl⟩));clear hV hE;have g1:decide ((t:Int)<0)=false:=by simp
 go_wp2
 refine wp_scope_loop 0 (fun _ _ _=>False) rfl (fun _ _ _ h=>h.elim) ?_;intro H hH hpass;clear hH hpass;go_wp2_with fail
 refine (AK.out _ (HW.out.below xbel)).mono ?_;rintro e w' ⟨rfl,rfl⟩;go_wp2
 refine wp_label ?_;go_wp2_with fail
 refine (parts_ok wa M wc 0 n _).mono ?_;rintro e w2 ⟨rfl,rfl⟩;go_wp2
 refine wp_range (xs:=partsL ws 0 n) (Kp:=KpS (fun k=>k≠w.heap.size∧k≠w.heap.size+1∧k≠w.heap.size+2∧k<w.heap.size+6)) rfl (enters_of Tryd.func82 xk rfl)
   (IT.out (fun k=>k≠w.heap.size∧k≠w.heap.size+1∧k≠w.heap.size+2∧k<w.heap.size+6) (w.heap.size+1+1+1) (w.heap.size+1+1+2) (w.heap.size+1+1+3) xo xo xo ?sw _ ?hw ?c1 ?c2 ?c3) br (fun _ _ _=>rfl) (fun h k=>fun i hi=>(k i hi).trans (h i hi)) ?kb ?ps
   (NthI ws n t (w.heap.size+1) (w.heap.size+1+1) w.heap.size w) (NthX ws n t (w.heap.size+1) (w.heap.size+1+1) w.heap.size w) ?hI ?hX ?h0 ?round ?done ?stop
 case sw=>intro x hx h0;have:=HLT.out x hx h0;omega
 case hw=>exact HW.out.below xbel
 case c1=>(exact xcn)
 case c2=>(exact xcn)
 case c3=>(exact xcn)
 case kb=>
  intro W l o o' hl _ _ k hk;simp at hl;exact World.putObj_heap_other xo
 case ps=>
  intro x hx;simp only [partsL,List.mem_map] at hx;obtain ⟨k,_,rfl⟩:=hx;rfl
 case hI=>
  intro k W W' h hc;exact h.calm hc (by simp;omega)
 case hX=>
  intro k W W' h hc;exact h.calm hc (by simp;omega)
 case h0=>
  exact ⟨by rw [nthB_zero];omega,by rw [nthB_zero,Nat.sub_zero];(exact xcn),by (exact xcn),by (exact xcn),by (exact xcn),by (exact xcn),by (exact xcn),by (exact xbel)⟩
 case round=>
  intro l k W hl hk hi;rw [HPL.out] at hk;rw [HP.out k hk];have hv:=HV.out k hk;have HH:=hid (HIT.out k hk);have hsu:=HSU.out k hk;have h2:=popI_le (cutV ws 0 n k);have O1:=hid (fun W=>Ones_ok (cutV ws 0 n k) hv.1 hv.2 W);have TZ:=hid (fun j (hj:j<popI (cutV ws 0 n k))=>clrN_tz hv.1 hv.2 hj);generalize cutV ws 0 n k=x at *;generalize popI x=px at *;gi_wp2_with fail
  refine ⟨rfl,?_⟩;intro W2 hi2;have hle:=hi2.le;have hbx:=hi2.bx;have hb0:=hi2.box0;have hb1:=hi2.box1;have hfz:=hi2.fz;have hf0:=hi2.fz0;have hf1:=hi2.fz1;have HBL:=hid hi2.bel;obtain ⟨r,hr⟩:∃r,t-nthB ws n k=r:=⟨_,rfl⟩
  rw [hr] at hbx;have HSUC:=hid hsu;have hrt:nthB ws n k+r=t:=xo;have HRT:=hid hrt;have hrb:r≤65536:=xo;clear hi hi2 hsu hr hrt hle;gi_wp2_with fail
  refine ⟨trivial,rfl,(callsIn_wide.2 (O1.out _)).mono ?_⟩;rintro e w' ⟨rfl,rfl⟩;by_cases hlt:r<px
  · have d1:decide ((px:Int)≤(r:Int))=false:=by simp;omega
    gi_wp2
    gi_loopg [10,34] r (fun g xv iv wr=>∃i:Nat,i+g=r∧xv= .int .u64 (clrN x i)∧iv= .int .i64 i∧wr=W2)
    case atStart=>exact ⟨0,by omega,by rw [clrN_zero],rfl,rfl⟩
    case round=>
     obtain ⟨i,hir,rfl,rfl,rfl⟩:=hrel;by_cases hil:i<r
     · obtain ⟨q0,⟨q1,q2⟩,-⟩:=TZ.out i xo;have hcl:=clrN_succ x i;obtain ⟨cx,hcx⟩:∃c,clrN x i=c:=⟨_,rfl⟩
       rw [hcx] at hcl q0 q1 q2 ⊢;have hsub:IntKind.u64.wrap (cx-1)=cx-1:=IntWalk.u64_in _ xo;have HCL:=hid hcl;clear hcl hcx;gi_wp2
       gi_roundg (gk-1)
       case measure=>omega
       case rel=>exact ⟨i+1,by omega,by rw [HCL.out];rfl,by go_num,rfl⟩
     · have hie:i=r:=xo;subst hie;obtain ⟨q0,⟨q1,q2⟩,q3⟩:=TZ.out i hlt;obtain ⟨z1,z2⟩:=HH.out i hlt;have TT:=hid (tz_ok _ q1 q2 q0 wr (HT.out.below HBL.out));have t3:=(tzI_bit q1 q2 q0).1;rw [←q3,HRT.out] at z2;rw [HRT.out] at z1;generalize clrN x i=cx at *;generalize tzI cx=tz at *;have HE:Hid (((64*k:Nat):Int)+tz=((plsW ws 0 n).getD t 0:Nat)):=hid (by rw [←z2];push_cast;rfl);have HZ:=hid z1;clear q3 z1 z2 q0 q1 q2 O1 TZ HH;gi_wp2_with fail
       refine ⟨trivial,rfl,(callsIn_wide.2 TT.out).mono ?_⟩;rintro e w' ⟨rfl,rfl⟩;gi_wp2
       refine ⟨(KeepsOthers.setCell wr ⟨w.heap.size+1,0,none⟩ _).trans (KeepsOthers.setCell _ ⟨w.heap.size+1+1,0,none⟩ _),⟨rfl,HZ.out,?_,?_,?_⟩⟩
       · rw [←HE.out,World.cell?_setCell_other _ _ _ _ (by intro e;simp at e)];exact World.cell?_setCell_same _ _ _ hb0
       · exact World.cell?_setCell_same _ _ _ (by rw [World.cell?_setCell_other _ _ _ _ (by intro e;simp at e)];exact hb1)
       · exact (HBL.out.setCell xdo _).setCell xdo _
  · have d1:decide ((px:Int)≤(r:Int))=true:=by simp;omega
    have hwr:IntKind.i64.wrap ((r:Int)-(px:Int))=((r-px:Nat):Int):=by rw [show (r:Int)-(px:Int)=((r-px:Nat):Int) by omega];exact IntWalk.i64_in _ xo
    gi_wp2
    have e:t-nthB ws n (k+1)=r-px:=by have:=HSUC.out;have:=HRT.out;omega
    refine ⟨KeepsOthers.setCell W2 ⟨w.heap.size,0,none⟩ _,fun i hi=>Below.heap_setCell W2 ⟨w.heap.size,0,none⟩ _ _ hi.1,⟨?_,?_,?_,?_,?_,?_,?_,?_⟩⟩
    · have:=HSUC.out;have:=HRT.out;omega
    · rw [e];exact World.cell?_setCell_same _ _ _ hbx
    · rw [World.frozen?_setCell];exact hfz
    · rw [World.cell?_setCell_other _ _ _ _ (by intro e;simp at e)];exact hb0
    · rw [World.cell?_setCell_other _ _ _ _ (by intro e;simp at e)];exact hb1
    · rw [World.frozen?_setCell];exact hf0
    · rw [World.frozen?_setCell];exact hf1
    · exact HBL.out.setCell (Nat.le_refl _) _
 case done=>
  intro D W hD hi hK;have hb0:=hi.box0;have hb1:=hi.box1;have hf0:=hi.fz0;have hf1:=hi.fz1;have hle:=hi.le;have hbl:=hi.bel;rw [HPL.out,NON.out] at hle;obtain ⟨rfl,rfl⟩:=NO.out xo;simp at hD;have HBL:=hid hbl;clear hi hle hbl YES NO NON HIT HV HP;go_wp2
  have hK2:((W.setCell ⟨w.heap.size+1,0,none⟩ (.int .i64 0)).setCell ⟨w.heap.size+1+1,0,none⟩ (.int .i64 6)).heap[D]? =some (.deferred (some [])):=((Below.heap_setCell _ _ _ _ (by show D≠w.heap.size+1+1;omega)).trans (Below.heap_setCell _ _ _ _ (by show D≠w.heap.size+1;omega))).trans hK;have hcalm:Calm (w.heap.size+3) ((W.setCell ⟨w.heap.size+1,0,none⟩ (.int .i64 0)).setCell ⟨w.heap.size+1+1,0,none⟩ (.int .i64 6)) (((W.setCell ⟨w.heap.size+1,0,none⟩ (.int .i64 0)).setCell ⟨w.heap.size+1+1,0,none⟩ (.int .i64 6)).putObj D (.deferred none)):=Calm.putObj _ xo hK2 rfl;have c0:((W.setCell ⟨w.heap.size+1,0,none⟩ (.int .i64 0)).setCell ⟨w.heap.size+1+1,0,none⟩ (.int .i64 6)).cell? ⟨w.heap.size+1,0,none⟩=some (.int .i64 0):=by
   rw [World.cell?_setCell_other _ _ _ _ (by intro e;simp at e)];exact World.cell?_setCell_same _ _ _ hb0
  have c1:((W.setCell ⟨w.heap.size+1,0,none⟩ (.int .i64 0)).setCell ⟨w.heap.size+1+1,0,none⟩ (.int .i64 6)).cell? ⟨w.heap.size+1+1,0,none⟩=some (.int .i64 6):=World.cell?_setCell_same _ _ _ (by rw [World.cell?_setCell_other _ _ _ _ (by intro e;simp at e)];exact hb1);exact postM_one hK2 (results_cc rfl rfl rfl (run_loadVar_one Tryd.underlying3 rfl (hcalm.cell c0)) (run_loadVar_one Tryd.underlying34 rfl (hcalm.cell c1))) ⟨rfl,hcalm.below xo ((HBL.out.setCell xdo _).setCell xdo _)⟩
 case stop=>
  intro D c W hD hX hK;obtain ⟨rfl,hlt,hc0,hc1,hbel⟩:=hX;obtain ⟨rfl,rfl⟩:=YES.out hlt;simp at hD;have hcalm:Calm (w.heap.size+3) W (W.putObj D (.deferred none)):=Calm.putObj _ xo hK rfl;clear YES NO NON HIT HV HP;go_wp2
  exact postM_one hK (results_cc rfl rfl rfl (run_loadVar_one Tryd.underlying3 rfl (hcalm.cell hc0)) (run_loadVar_one Tryd.underlying34 rfl (hcalm.cell hc1))) ⟨rfl,hcalm.below xo hbel⟩
end
end Go.Proofs.YtmnlagmmbfjbeaaDoor

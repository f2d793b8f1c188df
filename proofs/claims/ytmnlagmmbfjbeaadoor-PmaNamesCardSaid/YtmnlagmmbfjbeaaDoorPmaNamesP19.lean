/- Merged: Plc, LayW, Put02, FilS, Filled, Empty04. -/
import Derived.Test.YtmnlagmmbfjbeaaDoorPmaNamesP10
import Derived.Test.YtmnlagmmbfjbeaaDoorPmaNamesP18
import Derived.Deep.CutRange
import Derived.Test.YtmnlagmmbfjbeaaDoorPmaNamesP11
import Derived.Test.YtmnlagmmbfjbeaaDoorPmaNamesP14
import Derived.Test.YtmnlagmmbfjbeaaDoorPmaNamesP5
import Derived.Test.YtmnlagmmbfjbeaaDoorPmaNamesP12
import Derived.Test.YtmnlagmmbfjbeaaDoorPmaNamesP2
namespace Go.Proofs.YtmnlagmmbfjbeaaDoor
set_option maxRecDepth 100000
set_option maxHeartbeats 40000000
set_option linter.unusedVariables false
set_option linter.unusedSimpArgs false
section
open Go.RowKit Go.Shelf
attribute [local go_sem] Oper.semAt_some
def intsA (l:List Int):List (Array Value):=l.map fun x=> #[.int .i64 x]
theorem intsA_length (l:List Int):(intsA l).length=l.length:=by simp [intsA]
theorem intsA_get {l:List Int} {k:Nat} (h:k<l.length):(intsA l).getD k #[]= #[.int .i64 (l.getD k 0)]:=by
 simp [intsA,List.getD_eq_getElem?_getD,List.getElem?_eq_getElem h]
theorem take_succ_int {l:List Int} {k:Nat} (h:k<l.length):l.take (k+1)=l.take k++[l.getD k 0]:=by
 rw [List.take_succ_eq_append_getElem h];simp [List.getD_eq_getElem?_getD,List.getElem?_eq_getElem h]
structure PlBox (W:World) (b1 b2 b3:Nat) (m lo hi:Nat):Prop where
 n:W.cell? ⟨b1,0,none⟩=some (.int .i64 m)
 lo:W.cell? ⟨b2,0,none⟩=some (.int .i64 lo)
 hi:W.cell? ⟨b3,0,none⟩=some (.int .i64 hi)
theorem PlBox.below {W W':World} {b1 b2 b3 m lo hi:Nat} (h:PlBox W b1 b2 b3 m lo hi) (hb:Below W.heap.size W W'):PlBox W' b1 b2 b3 m lo hi:=
  ⟨(hb.cell (World.block_lt_of_cell? _ _ h.n)).trans h.n,(hb.cell (World.block_lt_of_cell? _ _ h.lo)).trans h.lo,(hb.cell (World.block_lt_of_cell? _ _ h.hi)).trans h.hi⟩
theorem PlBox.kept {S:Nat→Prop} {W W':World} {b1 b2 b3 m lo hi:Nat} (h:PlBox W b1 b2 b3 m lo hi) (hk:KpS S W W') (s1:S b1) (s2:S b2) (s3:S b3):PlBox W' b1 b2 b3 m lo hi:=
  ⟨hk.cell (a:=⟨b1,0,none⟩) s1 h.n,hk.cell (a:=⟨b2,0,none⟩) s2 h.lo,hk.cell (a:=⟨b3,0,none⟩) s3 h.hi⟩
theorem places1_iter (m lo hi:Nat) (hlh:lo≤hi) (hhi:hi≤65536) (hm:m≤65536) (S:Nat→Prop) (b1 b2 b3:Nat) (s1:S b1) (s2:S b2) (s3:S b3) (w:World) (hbx:PlBox w b1 b2 b3 m lo hi):
    Iter Tryd.prog 101 #[.pointer (some ⟨b1,0,none⟩),.pointer (some ⟨b2,0,none⟩),.pointer (some ⟨b3,0,none⟩)] (intsA (ints (plR m lo hi))) (KpS S) w:=by
 intro l J Jx W hW hJ hJx hY h0;have HY:=hid hY;have HJ:=hid hJ;have HBX:=hid (hbx.below hW);have HLN:=hid (show (intsA (ints (plR m lo hi))).length=m by rw [intsA_length,ints_length,plR_length]);have HGT:=hid (fun k (h:k<m)=>show (intsA (ints (plR m lo hi))).getD k #[]= #[.int .i64 (plF m lo hi k:Nat)] by
  rw [intsA_get (by rw [ints_length,plR_length];exact h),getD_ints,plR_get h])
 have HH0:=hid h0;clear hY hJ hJx hbx h0;generalize intsA (ints (plR m lo hi))=xs at *;refine callsIn_of_wp Tryd.func101 rfl trivial ?_ rfl;simp only [Tryd.ntmps101,List.size_toArray,List.length_cons,List.length_nil,Nat.reduceAdd,Nat.reduceSub,Array.replicate_succ,Array.replicate_zero,List.push_toArray,List.append_toArray,List.nil_append,List.cons_append];have q1:=HBX.out.n;gi_wp2
 gi_loopg [7] m (fun g iv wr=>∃i:Nat,i+g=m∧iv= .int .i64 i∧Hid (J i wr)∧Hid (PlBox wr b1 b2 b3 m lo hi))
 case atStart=>exact ⟨0,by omega,rfl,HH0,HBX⟩
 case round=>
  obtain ⟨i,hi',rfl,HJ0,HB⟩:=hrel;clear q1 HH0;by_cases hlt:i<m
  · obtain ⟨q1,q2,q3⟩:=HB.out;have hb1:i*(hi-lo)≤65536*65536:=Nat.mul_le_mul xo xo;obtain ⟨D,hD⟩:∃D:Int,((hi-lo:Nat):Int)=D:=⟨_,rfl⟩
    have hDw:IntKind.i64.wrap ((hi:Int)-lo)=D:=by rw [←hD];rw [show (hi:Int)-lo=((hi-lo:Nat):Int) by omega];exact IntWalk.i64_in _ xo
    obtain ⟨X,hX⟩:∃X:Int,((i*(hi-lo):Nat):Int)=X:=⟨_,rfl⟩
    have hXw:IntKind.i64.wrap ((i:Int)*D)=X:=by rw [←hX,←hD];push_cast;exact IntWalk.i64_in _ (by push_cast at hb1;omega)
    obtain ⟨qn,hqn⟩:∃qn,i*(hi-lo)/m=qn:=⟨_,rfl⟩
    have hqb:qn≤65536*65536:=by rw [←hqn];exact Nat.le_trans (Nat.div_le_self _ _) hb1
    have hqt:X.tdiv m=(qn:Int):=by rw [←hX,Int.tdiv_eq_ediv_of_nonneg xo,←Int.natCast_ediv,hqn]
    have hqw:IntKind.i64.wrap (qn:Int)=qn:=IntWalk.i64_in _ xo;obtain ⟨pl,hpl⟩:∃pl:Int,((plF m lo hi i:Nat):Int)=pl:=⟨_,rfl⟩
    have hplw:IntKind.i64.wrap ((lo:Int)+qn)=pl:=by
     rw [←hpl,plF,hqn];push_cast
     exact IntWalk.i64_in _ xo
    have hpa:=HGT.out i hlt;rw [hpl] at hpa;have hm0:((m:Int)==0)=false:=by simp;omega
    have hm1:¬(m:Int)=0:=xo;have hm2:¬m=0:=xo;have HI2:=hid hi';clear hD hX hqn hpl hqb hb1 hi';gi_wp2
    refine wpIn_region_facts 10 xk (N:=23) rfl xk xk xdd (fun w'=>∃q,w'=wr.drewN q) (Ext 29) (factAt [.is (.func (.yield l) #[] #[]),.is (.int .i64 lo),.is (.int .i64 i),.is (.int .i64 hi),.is (.int .i64 lo),.is (.int .i64 D),.is (.int .i64 X),.is (.int .i64 m),.is (.int .i64 qn),.is (.int .i64 pl)]) (factAt_stays _) ⟨1,rfl⟩ ?steps ?fin
    case steps=>
     refine ⟨?o0,?o1,?o2,?o3,?o4,?o5,?o6,?o7,?o8,?o9,trivial⟩
     case o0=>
      intro u a w' ev hJ hd K hK;rw [if_pos (wanted_free rfl)];have e0:tg a 0= .func (.yield l) #[] #[]:=ev 0 xdd;have HK:=hid hK;clear hK ev hd;go_simp;exact HK.out _ _ xzc hJ rfl (Ext.refl _ _)
     case o1=>
      intro u a w' ev hJ hd K hK;rw [if_pos (wanted_free rfl)];have e2:tg a 2= .pointer (some ⟨b2,0,none⟩):=ev 2 xdd;have g0:=(cell_at_drew hJ q2)
      have HK:=hid hK;clear hK ev hd;go_simp;exact HK.out _ _ xzc hJ rfl (Ext.refl _ _)
     case o2=>
      intro u a w' ev hJ hd K hK;rw [if_pos (wanted_free rfl)];have e5:tg a 5= .int .i64 i:=ev 5 xdd;have HK:=hid hK;clear hK ev hd;go_simp;exact HK.out _ _ xzc hJ rfl (Ext.refl _ _)
     case o3=>
      intro u a w' ev hJ hd K hK;rw [if_pos (wanted_free rfl)];have e3:tg a 3= .pointer (some ⟨b3,0,none⟩):=ev 3 xdd;have g0:=(cell_at_drew hJ q3)
      have HK:=hid hK;clear hK ev hd;go_simp;exact HK.out _ _ xzc hJ rfl (Ext.refl _ _)
     case o4=>
      intro u a w' ev hJ hd K hK;rw [if_pos (wanted_free rfl)];have e2:tg a 2= .pointer (some ⟨b2,0,none⟩):=ev 2 xdd;have g0:=(cell_at_drew hJ q2)
      have HK:=hid hK;clear hK ev hd;go_simp;exact HK.out _ _ xzc hJ rfl (Ext.refl _ _)
     case o5=>
      intro u a w' ev hJ hd K hK;rw [if_pos (wanted_free rfl)];have e13:tg a 13= .int .i64 hi:=(ev 13 xdd).trans (hd 3 _ xk rfl);have e14:tg a 14= .int .i64 lo:=(ev 14 xdd).trans (hd 4 _ xk rfl);have HK:=hid hK;clear hK ev hd;go_simp;exact HK.out _ _ xzc hJ rfl (Ext.refl _ _)
     case o6=>
      intro u a w' ev hJ hd K hK;rw [if_pos (wanted_free rfl)];have e12:tg a 12= .int .i64 i:=(ev 12 xdd).trans (hd 2 _ xk rfl);have e15:tg a 15= .int .i64 D:=(ev 15 xdd).trans (hd 5 _ xk rfl);have HK:=hid hK;clear hK ev hd;go_simp;exact HK.out _ _ xzc hJ rfl (Ext.refl _ _)
     case o7=>
      intro u a w' ev hJ hd K hK;rw [if_pos (wanted_free rfl)];have e1:tg a 1= .pointer (some ⟨b1,0,none⟩):=ev 1 xdd;have g0:=(cell_at_drew hJ q1)
      have HK:=hid hK;clear hK ev hd;go_simp;exact HK.out _ _ xzc hJ rfl (Ext.refl _ _)
     case o8=>
      intro u a w' ev hJ hd K hK;rw [if_pos (wanted_free rfl)];have e16:tg a 16= .int .i64 X:=(ev 16 xdd).trans (hd 6 _ xk rfl);have e17:tg a 17= .int .i64 m:=(ev 17 xdd).trans (hd 7 _ xk rfl);have HK:=hid hK;clear hK ev hd;go_simp;exact HK.out _ _ xzc hJ rfl (Ext.refl _ _)
     case o9=>
      intro u a w' ev hJ hd K hK;rw [if_pos (wanted_free rfl)];have e11:tg a 11= .int .i64 lo:=(ev 11 xdd).trans (hd 1 _ xk rfl);have e18:tg a 18= .int .i64 qn:=(ev 18 xdd).trans (hd 8 _ xk rfl);have HK:=hid hK;clear hK ev hd;go_simp;exact HK.out _ _ xzc hJ rfl (Ext.refl _ _)
    case fin=>
     intro u w3 hJ3 hG;have h10:u 10= .func (.yield l) #[] #[]:=hG 0 _ rfl;have h19:u 19= .int .i64 pl:=hG 9 _ rfl;have hBq:Below wr.heap.size wr w3:=by obtain ⟨q,rfl⟩:=hJ3;exact below_drewN br q
     have HBQ:=hid hBq;obtain ⟨fn,tmps,assign,body,hy,hR⟩:=HY.out i w3 (by rw [HLN.out];exact hlt) (HJ.out _ _ _ HJ0.out hBq);rw [hpa] at hy;clear hG hJ3 hpa hBq q1 q2 q3;simp only [mixFrame,mixL,dstsOf,List.take_succ_cons,List.take_zero,List.filterMap_cons,List.filterMap_nil,List.contains_cons,List.contains_nil,Nat.reduceBEq,Bool.or_false,Bool.false_or,Bool.or_true,Bool.true_or,if_true,if_false,Bool.false_eq_true,Nat.reduceAdd,Nat.zero_add,List.drop_succ_cons,List.drop_zero,h10,h19];gi_wp2
     refine ⟨rfl,hR.mono ?_⟩;rintro e W3 (⟨rfl,hJ3,hk3⟩ | ⟨rfl,hJx3⟩)
     · have HB3:=hid ((HB.out.below HBQ.out).kept hk3 s1 s2 s3);have HJ3:=hid hJ3;clear hJ3 hk3 hy hR;gi_wp2
       gi_roundg (gk-1)
       case measure=>have:=HI2.out;omega
       case rel=>exact ⟨i+1,by have:=HI2.out;omega,by go_num,HJ3,HB3⟩
     · have HJ3:=hid hJx3;clear hJx3 hy hR;gi_wp2
       exact bodyPost_ret (results_none rfl _ _ _) rfl ⟨⟨_,rfl⟩,.inr ⟨i+1,by rw [HLN.out];omega,HJ3.out⟩⟩
  · have him:i=m:=xo;subst him;gi_wp2
    refine bodyPost_end (results_none rfl _ _ _) rfl ⟨⟨_,rfl⟩,.inl ?_⟩;rw [HLN.out];exact HJ0.out
structure AppN (l:List Int) (B:Nat) (w:World) (k:Nat) (W:World):Prop where
 own:∃v,W.cell? ⟨B,0,none⟩=some v∧W.ownsRow (B+1) 3 1 v k ((l.take k).map (Value.int .i64))
 fz:W.frozen? ⟨B,0,none⟩=false
 bel:Below B w W
theorem AppN.calm {l:List Int} {B M:Nat} {w:World} {k:Nat} {W W':World} (h:AppN l B w k W) (hc:Calm M W W') (hB:B≤M):AppN l B w k W':=by
 obtain ⟨⟨v,h1,h2⟩,h3,h4⟩:=h;exact ⟨⟨v,hc.cell h1,hc.owns h2⟩,hc.frozen h1 h3,hc.below hB h4⟩
theorem AppendInt_ok (l:List Int) (hl:l.length≤100000) (gf:Nat) (lb:Array Value) (eg:∀args w,(callFunc gf args).run Tryd.prog w= .ok (.enter gf args) w) (w:World) (hit:Iter Tryd.prog gf lb (intsA l) (KpS (fun k=>k<w.heap.size)) w):
    Calls Tryd.prog 100 #[.slice none 0 0,.func (.func gf) #[] lb] w (FreshInts w l):=by
 have IT:=hid (fun W (hb:Below w.heap.size w W)=>hit.later hb);have HPL:=hid (intsA_length l);have HPG:=hid (fun k (h:k<l.length)=>intsA_get h);clear hit;refine calls_of_wp_m Tryd.func100 rfl ?_;simp only [Tryd.ntmps100,List.size_toArray,List.length_cons,List.length_nil,Nat.reduceAdd,Nat.reduceSub,Array.replicate_succ,Array.replicate_zero,List.push_toArray,List.append_toArray,List.nil_append,List.cons_append];go_wp2
 refine wp_range_w (xs:=intsA l) (Kp:=KpS (fun k=>k<w.heap.size)) rfl eg
   (IT.out _ (br.alloc (Nat.le_refl _) _)) br (fun h k=>fun i hi=>(k i hi).trans (h i hi)) ?kb ?ps
   (AppN l w.heap.size w) (fun _ _=>False) ?hI (fun _ _ _ h _=>h) ?h0 ?round ?done (fun _ _ _ _ h _=>h.elim)
 case kb=>
  intro W q o o' hl _ _ k hk;simp at hl;exact World.putObj_heap_other xo
 case ps=>
  intro x hx;simp only [intsA,List.mem_map] at hx;obtain ⟨k,_,rfl⟩:=hx;rfl
 case hI=>
  intro k W W' h hc;exact h.calm hc xsi
 case h0=>
  exact ⟨⟨_,by (exact xcn),World.ownsRow_nil _ _ _ _⟩,by (exact xcn),by (exact xbel)⟩
 case round=>
  intro q k W hq hk hi;rw [HPL.out] at hk;rw [HPG.out k hk];have htk:=hid (take_succ_int hk);generalize l.getD k 0=x at *;obtain ⟨⟨v,hv,ho⟩,hfz,hbel⟩:=hi;have hzb:w.heap.size<W.heap.size:=World.block_lt_of_cell? _ _ hv;obtain ⟨ao,co,rfl,-⟩:=owns_news ho;have hlt1:(l.take k).length=k:=by rw [List.length_take];omega
  gi_wp2
  have hab:Below W.heap.size W W:=Below.refl _ _;refine ⟨keeps_below hab,fun i hi=>hab.block i xo,?_⟩;intro W2 hc;have hv2:W2.cell? ⟨w.heap.size,0,none⟩=some (.slice ao k co):=hc.cell ((hab.cell (p:=⟨w.heap.size,0,none⟩) hzb).trans hv);have hfz2:W2.frozen? ⟨w.heap.size,0,none⟩=false:=hc.frozen ((hab.cell (p:=⟨w.heap.size,0,none⟩) hzb).trans hv) ((hab.frozen (p:=⟨w.heap.size,0,none⟩) hzb).trans hfz);have ho2:=hc.owns (owns_below ho hab);have hbel2:Below w.heap.size w W2:=hc.below xsi hbel;have hz2:=hbel2.size;have HO2:=hid ho2;have HB2:=hid hbel2;have hzw:w.heap.size<W2.heap.size:=World.block_lt_of_cell? _ _ hv2;clear ho hbel hab hc ho2 hbel2 hv hfz
  gi_wp2_with (gi_at_builtin;refine wpListIn_append_own _ rfl (.tmp 8) (.tmp 10) 26 rfl (w.heap.size+1) 3 _ (.int .i64 0) 1 8 Tryd.underlying26 (info_parts info_int).choose_spec.1 (info_parts info_int).choose_spec.2.1 (info_parts info_int).choose_spec.2.2.1 (info_parts info_int).choose_spec.2.2.2 rfl xdd _ k _ rfl (HO2.out.alloc (.cells #[.int .i64 x] 3)) ⟨W2.heap.size,0,none⟩ 1 1 [.int .i64 x] rfl rfl (new_cells _ [.int .i64 x] _ _ rfl _ rfl) (by simp [Value.oneCell']) (by unfold maxLen;omega) xo (by simp;omega) ?_;intro v' w3 ho3 hg3 _
               obtain ⟨a3,c3,rfl,-⟩:=owns_news ho3;have hne3:some w.heap.size≠(Value.slice ao k co).ownBlock:=fun e=>(by have:=(HO2.out.lt _ e.symm).1;omega)
               have hbl3:=hg3.block w.heap.size (by simp;omega) hne3;have hv3:w3.cell? ⟨w.heap.size,0,none⟩=some (.slice ao k co):=(World.cell?_of_block (a:=⟨w.heap.size,0,none⟩) hbl3).trans ((((Below.refl _ W2).alloc (Nat.le_refl _) _).cell (p:=⟨w.heap.size,0,none⟩) hzw).trans hv2);have hfz3:w3.frozen? ⟨w.heap.size,0,none⟩=false:=(World.frozen?_of_block (a:=⟨w.heap.size,0,none⟩) hbl3).trans ((((Below.refl _ W2).alloc (Nat.le_refl _) _).frozen (p:=⟨w.heap.size,0,none⟩) hzw).trans hfz2);have HO3:=hid ho3;have HG3:=hid hg3;clear ho3 hg3 hbl3 hne3)
  have hB3:Below w.heap.size w w3:=(HB2.out.alloc xo (.cells #[.int .i64 x] 3)).grown HG3.out (by simp;omega) (fun z hz=>by have:=(HO2.out.lt _ hz).1;omega);have hK3:KeepsOthers W2 w3:=(keeps_below (((Below.refl _ W2).alloc (Nat.le_refl _) _))).trans (KeepsOthers.of_grownBy HG3.out (own_isCells (HO2.out.alloc _)));refine ⟨hK3.trans (KeepsOthers.setCell _ _ _),fun i hi=> ?_,⟨⟨_,World.cell?_setCell_same _ _ _ hv3,?_⟩,?_,hB3.setCell (Nat.le_refl _) _⟩⟩
  · rw [Below.heap_setCell _ _ _ _ (show i≠w.heap.size by omega),HG3.out.block i (by simp;omega) (fun e=>by have:=(HO2.out.lt _ e.symm).1;omega)];exact ((Below.refl _ W2).alloc (Nat.le_refl _) _).block i xo
  · rw [htk.out,List.map_append];exact owns_heap HO3.out fun z hz=>Below.heap_setCell _ _ _ _ (by have:=(HO3.out.lt _ hz).1;show z≠w.heap.size;omega)
  · rw [World.frozen?_setCell];exact hfz3
 case done=>
  intro D W hD hi hK;obtain ⟨⟨v,hv,ho⟩,hfz,hbel⟩:=hi;rw [HPL.out,List.take_length] at ho;obtain ⟨ao,co,rfl,-⟩:=owns_news ho;have HO:=hid ho;have HB:=hid hbel;clear ho hbel;go_wp2
  simp at hD;refine postM_one hK (results_tmp rfl _ _ _) ⟨_,rfl,?_,?_⟩
  · exact owns_base ((Calm.putObj (B:=0) _ (Nat.zero_le _) hK rfl).owns HO.out) xo
  · exact (Calm.putObj (B:=w.heap.size) _ xo hK rfl).below (Nat.le_refl _) HB.out
theorem CollectInt_ok (l:List Int) (hl:l.length≤100000) (gf:Nat) (lb:Array Value) (eg:∀args w,(callFunc gf args).run Tryd.prog w= .ok (.enter gf args) w) (w:World) (hit:Iter Tryd.prog gf lb (intsA l) (KpS (fun k=>k<w.heap.size)) w):
    Calls Tryd.prog 98 #[.func (.func gf) #[] lb] w (FreshInts w l):=by
 have A:=hid (AppendInt_ok l hl gf lb eg w hit);clear hit;go_enter Tryd.func98,Tryd.ntmps98
 go_wp2_with fail
 refine A.out.mono ?_;rintro e w1 ⟨v,rfl,ho,hb⟩;have HO:=hid ho;have HB:=hid hb;clear ho hb;go_wp2
 go_ret
 exact ⟨v,rfl,HO.out,HB.out⟩
theorem splaces_ok (m lo hi:Int) (w:World):
    Calls Tryd.prog 99 #[.int .i64 m,.int .i64 lo,.int .i64 hi] w fun e w'=>e= .returned (.func (.func 101) #[] #[.pointer (some ⟨w.heap.size,0,none⟩),.pointer (some ⟨w.heap.size+1,0,none⟩),.pointer (some ⟨w.heap.size+2,0,none⟩)])∧
      w'=((w.alloc (.cells #[.int .i64 m] 3)).alloc (.cells #[.int .i64 lo] 3)).alloc (.cells #[.int .i64 hi] 3):=by
 go_enter Tryd.func99,Tryd.ntmps99
 go_wp2
 go_ret
 exact ⟨rfl,rfl⟩
theorem smay_ok (m lo hi:Nat) (hlh:lo≤hi) (hhi:hi≤65536) (hm:m≤hi-lo) (w:World):
    Calls Tryd.prog 97 #[.int .i64 m,.int .i64 lo,.int .i64 hi] w fun e w'=>e= .returned (.bool true)∧w=w':=by
 have hw:IntKind.i64.wrap ((hi:Int)-lo)=(hi:Int)-lo:=IntWalk.i64_in _ xo;have hg:decide ((m:Int)≤(hi:Int)-lo)=true:=by simp;omega
 go_enter Tryd.func97,Tryd.ntmps97
 go_wp2
 go_ret
 exact ⟨rfl,rfl⟩
def FreshI2 (w:World) (l:List Int) (x:Value) (e:Ending) (w':World):Prop:=
  ∃v,e= .returned (.tuple #[v,x])∧w'.ownsRow w.heap.size 3 1 v l.length (l.map (Value.int .i64))∧Below w.heap.size w w'
theorem Places_ok (m lo hi:Nat) (hlh:lo≤hi) (hhi:hi≤65536) (hm:m≤hi-lo) (w:World):
    Calls Tryd.prog 88 #[.int .i64 m,.int .i64 lo,.int .i64 hi] w (FreshI2 w (ints (plR m lo hi)) (.int .i64 0)):=by
 have MY:=hid (fun w=>smay_ok m lo hi hlh hhi hm w);have PS:=hid (fun w=>splaces_ok m lo hi w);have HL:=hid (show (ints (plR m lo hi)).length≤100000 by rw [ints_length,plR_length];omega);have IT:=hid (fun W hbx=>places1_iter m lo hi hlh hhi xo (fun k=>k<w.heap.size+3) w.heap.size (w.heap.size+1) (w.heap.size+2) xo xo xo W hbx);generalize ints (plR m lo hi)=L at *;go_enter Tryd.func88,Tryd.ntmps88
 go_wp2_with (first
   | (go_at_call 97;refine (MY.out _).mono ?_;rintro e w' ⟨rfl,rfl⟩)
   | (go_at_call 99;refine (PS.out _).mono ?_;rintro e w' ⟨rfl,rfl⟩)
   | (go_at_call 98;fail))
 have hB:Below w.heap.size w (((w.alloc (.cells #[.int .i64 m] 3)).alloc (.cells #[.int .i64 lo] 3)).alloc (.cells #[.int .i64 hi] 3)):=xbel;have hI:Iter Tryd.prog 101 #[.pointer (some ⟨w.heap.size,0,none⟩),.pointer (some ⟨w.heap.size+1,0,none⟩),.pointer (some ⟨w.heap.size+2,0,none⟩)] (intsA L) (KpS (fun k=>k<w.heap.size+3)) (((w.alloc (.cells #[.int .i64 m] 3)).alloc (.cells #[.int .i64 lo] 3)).alloc (.cells #[.int .i64 hi] 3)):=
   IT.out _ ⟨by (exact xcn),by (exact xcn),by (exact xcn)⟩
 have hz:(((w.alloc (.cells #[.int .i64 m] 3)).alloc (.cells #[.int .i64 lo] 3)).alloc (.cells #[.int .i64 hi] 3)).heap.size=w.heap.size+3:=by simp
 generalize (((w.alloc (.cells #[.int .i64 m] 3)).alloc (.cells #[.int .i64 lo] 3)).alloc (.cells #[.int .i64 hi] 3))=w1 at *;rw [←hz] at hI;have CO:=hid (CollectInt_ok L HL.out 101 _ (fun args w=>rfl) w1 hI);have HB:=hid hB;clear hI hB IT;go_wp2_with fail
 refine CO.out.mono ?_;rintro e w2 ⟨v,rfl,ho,hb⟩;have HO:=hid (owns_base ho (by omega:w.heap.size≤w1.heap.size));have HB2:=xv hb HB;clear ho hb;go_wp2
 go_ret2
 exact ⟨v,rfl,HO.out,HB2.out⟩
end
section
open Go.RowKit Go.Shelf
attribute [local go_sem] Oper.semAt_some
theorem over_core (w:World) (seg:Int) (wa ka va ca:Option Addr) (wc kc vc cc lw n lv lc:Nat) (laid:Int) (lo hi m:Nat) (ps:List Int) (la:Option Addr) (pl:Nat) (d:SlC) (hps:ps.length=m)
    (CK:Hid (∀W,Below w.heap.size w W→Calls Tryd.prog 52 #[.agg #[.int .i64 seg,.slice wa lw wc,.slice ka n kc,.slice va lv vc,.slice ca lc cc,.int .u64 laid]] W (AnsB W (.int .i64 0))))
    (PL:Hid (∀W,Below w.heap.size w W→Calls Tryd.prog 88 #[.int .i64 m,.int .i64 lo,.int .i64 hi] W (FreshI2 W ps (.int .i64 0))))
    (FI:Hid (∀W pa pc,Below w.heap.size w W→IsRow .i64 W pa ps→Calls Tryd.prog 89 #[.agg #[.int .i64 seg,.slice wa lw wc,.slice ka n kc,.slice va lv vc,.slice ca lc cc,.int .u64 laid],.int .i64 lo,.int .i64 hi,.slice pa m pc,.slice la m pl] W (FreshSl2 W d (.int .i64 0)))):
    Calls Tryd.prog 67 #[.agg #[.int .i64 seg,.slice wa lw wc,.slice ka n kc,.slice va lv vc,.slice ca lc cc,.int .u64 laid],.int .i64 lo,.int .i64 hi,.slice la m pl] w (FreshSl2 w d (.int .i64 0)):=by
 have HPL:=hid hps;clear hps;go_enter Tryd.func67,Tryd.ntmps67
 go_wp2
 refine wp_scope_loop 0 (fun _ _ _=>False) rfl (fun _ _ _ h=>h.elim) ?_;intro H hH hpass;go_wp2_with fail
 refine (CK.out _ xbel).mono ?_;rintro e w1 ⟨rfl,hb1⟩;have hz_w1:=hb1.size;try simp only [World.size_alloc,World.size_setCell] at hz_w1
 have hh:=bc6 hb1 (au6 (al6 (b:=w.heap.size) xsi));obtain ⟨c_t0,c_t1,c_t2,c_t3,c_t4,c_t5⟩:=hh;have z_t:=blt hb1 (auz (alz (b:=w.heap.size) xsi));have hh:=bc6 hb1 (al6 (b:=w.heap.size+1) xsi);obtain ⟨c_r0,c_r1,c_r2,c_r3,c_r4,c_r5⟩:=hh;have hh:=bf6 hb1 (alz (b:=w.heap.size+1) xsi) (alf6 (b:=w.heap.size+1) xsi);obtain ⟨f_r0,f_r1,f_r2,f_r3,f_r4,f_r5⟩:=hh;have z_r:=blt hb1 (alz (b:=w.heap.size+1) xsi);have hB1:Below w.heap.size w w1:=xbel;have HB1:=hid hB1;clear hb1 hB1;go_wp2_with fail
 refine (PL.out _ HB1.out).mono ?_;rintro e w2 ⟨v,rfl,ho,hb2⟩;have hz_w2:=hb2.size;simp (disch:=omega) only [xcl hb2,xfr hb2] at c_t0 c_t1 c_t2 c_t3 c_t4 c_t5 c_r0 c_r1 c_r2 c_r3 c_r4 c_r5 f_r0 f_r1 f_r2 f_r3 f_r4 f_r5;replace z_t:=blt hb2 z_t;replace z_r:=blt hb2 z_r;have HB2:=xv hb2 HB1;rw [HPL.out] at ho;obtain ⟨pa,pc,rfl,hi2,-⟩:=row_of_owns ho;have FC:=hid (FI.out w2 pa pc HB2.out hi2);have hz2:=z_r;clear hb2 ho hi2;go_wp2_with fail
 refine (FC.out).mono ?_;rintro e w3 ⟨v1,v2,v3,v4,rfl,p1,p2,p3,p4,hb3⟩;have hz_w3:=hb3.size;simp (disch:=omega) only [xcl hb3,xfr hb3] at c_t0 c_t1 c_t2 c_t3 c_t4 c_t5 c_r0 c_r1 c_r2 c_r3 c_r4 c_r5 f_r0 f_r1 f_r2 f_r3 f_r4 f_r5;replace z_t:=blt hb3 z_t;replace z_r:=blt hb3 z_r;have HB3:=xv hb3 HB2;obtain ⟨a1,k1,rfl,-⟩:=owns_news p1;obtain ⟨a2,k2,rfl,-⟩:=owns_news p2;obtain ⟨a3,k3,rfl,-⟩:=owns_news p3;obtain ⟨a4,k4,rfl,-⟩:=owns_news p4;have HP1:=hid p1;have HP2:=hid p2;have HP3:=hid p3;have HP4:=hid p4;clear p1 p2 p3 p4;clear hb3;go_upto_region 7 with (fail)
 have hsx:=six_set (x:= .int .i64 d.seg) (y:= .slice a1 d.ws.length k1) (z:= .slice a2 d.ks.length k2) (p:= .slice a3 d.vs.length k3) (q:= .slice a4 d.cs.length k4) (r:= .int .u64 d.laid) c_r0 c_r1 c_r2 c_r3 c_r4 c_r5;have hfz:∀a:Addr,((((((w3.setCell ⟨w.heap.size+1,0,none⟩ (.int .i64 d.seg)).setCell ⟨w.heap.size+1,1,none⟩ (.slice a1 d.ws.length k1)).setCell ⟨w.heap.size+1,2,none⟩ (.slice a2 d.ks.length k2)).setCell ⟨w.heap.size+1,3,none⟩ (.slice a3 d.vs.length k3)).setCell ⟨w.heap.size+1,4,none⟩ (.slice a4 d.cs.length k4)).setCell ⟨w.heap.size+1,5,none⟩ (.int .u64 d.laid)).frozen? a=w3.frozen? a:=fun a=>by
  rw [World.frozen?_setCell,World.frozen?_setCell,World.frozen?_setCell,World.frozen?_setCell,World.frozen?_setCell,World.frozen?_setCell]
 have HQw4:Hid (∀q,q≠w.heap.size+1→((((((w3.setCell ⟨w.heap.size+1,0,none⟩ (.int .i64 d.seg)).setCell ⟨w.heap.size+1,1,none⟩ (.slice a1 d.ws.length k1)).setCell ⟨w.heap.size+1,2,none⟩ (.slice a2 d.ks.length k2)).setCell ⟨w.heap.size+1,3,none⟩ (.slice a3 d.vs.length k3)).setCell ⟨w.heap.size+1,4,none⟩ (.slice a4 d.cs.length k4)).setCell ⟨w.heap.size+1,5,none⟩ (.int .u64 d.laid)).heap[q]? =w3.heap[q]?):=hid fun q hq=>by
  rw [heap_setCell_ne _ _ _ hq,heap_setCell_ne _ _ _ hq,heap_setCell_ne _ _ _ hq,heap_setCell_ne _ _ _ hq,heap_setCell_ne _ _ _ hq,heap_setCell_ne _ _ _ hq]
 have hzw4:((((((w3.setCell ⟨w.heap.size+1,0,none⟩ (.int .i64 d.seg)).setCell ⟨w.heap.size+1,1,none⟩ (.slice a1 d.ws.length k1)).setCell ⟨w.heap.size+1,2,none⟩ (.slice a2 d.ks.length k2)).setCell ⟨w.heap.size+1,3,none⟩ (.slice a3 d.vs.length k3)).setCell ⟨w.heap.size+1,4,none⟩ (.slice a4 d.cs.length k4)).setCell ⟨w.heap.size+1,5,none⟩ (.int .u64 d.laid)).heap.size=w3.heap.size:=by simp
 have HSw4:Hid (Below w.heap.size w ((((((w3.setCell ⟨w.heap.size+1,0,none⟩ (.int .i64 d.seg)).setCell ⟨w.heap.size+1,1,none⟩ (.slice a1 d.ws.length k1)).setCell ⟨w.heap.size+1,2,none⟩ (.slice a2 d.ks.length k2)).setCell ⟨w.heap.size+1,3,none⟩ (.slice a3 d.vs.length k3)).setCell ⟨w.heap.size+1,4,none⟩ (.slice a4 d.cs.length k4)).setCell ⟨w.heap.size+1,5,none⟩ (.int .u64 d.laid))):=hid ((((((HB3.out.setCell xdo _).setCell xdo _).setCell xdo _).setCell xdo _).setCell xdo _).setCell xdo _);generalize ((((((w3.setCell ⟨w.heap.size+1,0,none⟩ (.int .i64 d.seg)).setCell ⟨w.heap.size+1,1,none⟩ (.slice a1 d.ws.length k1)).setCell ⟨w.heap.size+1,2,none⟩ (.slice a2 d.ks.length k2)).setCell ⟨w.heap.size+1,3,none⟩ (.slice a3 d.vs.length k3)).setCell ⟨w.heap.size+1,4,none⟩ (.slice a4 d.cs.length k4)).setCell ⟨w.heap.size+1,5,none⟩ (.int .u64 d.laid))=w4 at *;have s0:=hsx 0 _ rfl;have s1:=hsx 1 _ rfl;have s2:=hsx 2 _ rfl;have s3:=hsx 3 _ rfl;have s4:=hsx 4 _ rfl;have s5:=hsx 5 _ rfl;replace f_r0:=(hfz _).trans f_r0;replace f_r1:=(hfz _).trans f_r1;replace f_r2:=(hfz _).trans f_r2;replace f_r3:=(hfz _).trans f_r3;replace f_r4:=(hfz _).trans f_r4;replace f_r5:=(hfz _).trans f_r5;clear hsx hfz c_r0 c_r1 c_r2 c_r3 c_r4 c_r5;go_wp2
 simp only [Exit.jump];refine bodyPost_ret (results_ct rfl rfl (run_loadVar_many _ Tryd.underlying29 rfl xk (six_set s0 s1 s2 s3 s4 s5))) rfl ⟨_,_,_,_,rfl,?_,?_,?_,?_,?_⟩
 · exact owns_base (owns_heap HP1.out fun j hj=>(by
     have h9:=(HP1.out.lt j hj).1;rw [heap_setCell_ne _ _ _ xdo,heap_setCell_ne _ _ _ xdo,heap_setCell_ne _ _ _ xdo,heap_setCell_ne _ _ _ xdo,heap_setCell_ne _ _ _ xdo,heap_setCell_ne _ _ _ xdo];exact HQw4.out _ xo)) xo
 · exact owns_base (owns_heap HP2.out fun j hj=>(by
     have h9:=(HP2.out.lt j hj).1;rw [heap_setCell_ne _ _ _ xdo,heap_setCell_ne _ _ _ xdo,heap_setCell_ne _ _ _ xdo,heap_setCell_ne _ _ _ xdo,heap_setCell_ne _ _ _ xdo,heap_setCell_ne _ _ _ xdo];exact HQw4.out _ xo)) xo
 · exact owns_base (owns_heap HP3.out fun j hj=>(by
     have h9:=(HP3.out.lt j hj).1;rw [heap_setCell_ne _ _ _ xdo,heap_setCell_ne _ _ _ xdo,heap_setCell_ne _ _ _ xdo,heap_setCell_ne _ _ _ xdo,heap_setCell_ne _ _ _ xdo,heap_setCell_ne _ _ _ xdo];exact HQw4.out _ xo)) xo
 · exact owns_base (owns_heap HP4.out fun j hj=>(by
     have h9:=(HP4.out.lt j hj).1;rw [heap_setCell_ne _ _ _ xdo,heap_setCell_ne _ _ _ xdo,heap_setCell_ne _ _ _ xdo,heap_setCell_ne _ _ _ xdo,heap_setCell_ne _ _ _ xdo,heap_setCell_ne _ _ _ xdo];exact HQw4.out _ xo)) xo
 · exact (((((HSw4.out.setCell xdo _).setCell xdo _).setCell xdo _).setCell xdo _).setCell xdo _).setCell xdo _
theorem Into_core (w:World) (seg:Int) (wa ka va ca:Option Addr) (wc kc vc cc lw n lv lc:Nat) (laid:Int) (size m:Nat) (la:Option Addr) (pl:Nat) (z d:SlC) (hzu:U64s z.ws)
    (CK:Hid (∀W,Below w.heap.size w W→Calls Tryd.prog 52 #[.agg #[.int .i64 seg,.slice wa lw wc,.slice ka n kc,.slice va lv vc,.slice ca lc cc,.int .u64 laid]] W (AnsB W (.int .i64 0))))
    (NW:Hid (∀W,Below w.heap.size w W→Calls Tryd.prog 54 #[.int .i64 seg,.int .i64 size] W (FreshSl2 W z (.int .i64 0))))
    (OV:Hid (∀W sa,Below w.heap.size w W→SlIn W ⟨z.seg,z.ws,z.ks,z.vs,z.cs,laid⟩ sa→(sa.wa=none→sa.wc=0)→(sa.ka=none→sa.kc=0)→(sa.va=none→sa.vc=0)→(sa.ca=none→sa.cc=0)→Calls Tryd.prog 67 #[slV ⟨z.seg,z.ws,z.ks,z.vs,z.cs,laid⟩ sa,.int .i64 0,.int .i64 size,.slice la m pl] W (FreshSl2 W d (.int .i64 0)))):
    Calls Tryd.prog 43 #[.agg #[.int .i64 seg,.slice wa lw wc,.slice ka n kc,.slice va lv vc,.slice ca lc cc,.int .u64 laid],.int .i64 size,.slice la m pl] w (FreshSl2 w d (.int .i64 0)):=by
 go_enter Tryd.func43,Tryd.ntmps43
 go_wp2_with fail
 refine (CK.out _ xbel).mono ?_;rintro e w0 ⟨rfl,hb0⟩;have hz_w0:=hb0.size;try simp only [World.size_alloc,World.size_setCell] at hz_w0
 have hh:=bc6 hb0 (au6 (al6 (b:=w.heap.size) xsi));obtain ⟨c_t0,c_t1,c_t2,c_t3,c_t4,c_t5⟩:=hh;have z_t:=blt hb0 (auz (alz (b:=w.heap.size) xsi));have hh:=bc6 hb0 (al6 (b:=w.heap.size+1) xsi);obtain ⟨c_r0,c_r1,c_r2,c_r3,c_r4,c_r5⟩:=hh;have hh:=bf6 hb0 (alz (b:=w.heap.size+1) xsi) (alf6 (b:=w.heap.size+1) xsi);obtain ⟨f_r0,f_r1,f_r2,f_r3,f_r4,f_r5⟩:=hh;have z_r:=blt hb0 (alz (b:=w.heap.size+1) xsi);have hB0:Below w.heap.size w w0:=xbel;have HB0:=hid hB0;clear hb0 hB0;go_wp2_with fail
 refine (NW.out _ HB0.out).mono ?_;rintro e w1 ⟨v1,v2,v3,v4,rfl,p1,p2,p3,p4,hb1⟩;have hz_w1:=hb1.size;simp (disch:=omega) only [xcl hb1,xfr hb1] at *;replace z_t:=blt hb1 z_t;replace z_r:=blt hb1 z_r;obtain ⟨a1,k1,rfl,i1,-,y1,-,-⟩:=row_of_owns p1;obtain ⟨a2,k2,rfl,i2,-,y2,-,-⟩:=row_of_owns p2;obtain ⟨a3,k3,rfl,i3,-,y3,-,-⟩:=row_of_owns p3;obtain ⟨a4,k4,rfl,i4,-,y4,-,-⟩:=row_of_owns p4;have HI:=hid (show SlIn w1 ⟨z.seg,z.ws,z.ks,z.vs,z.cs,laid⟩ ⟨a1,a2,a3,a4,k1,k2,k3,k4⟩ from ⟨i1,i2,i3,i4,hzu⟩);have HY:=hid (And.intro y1 (And.intro y2 (And.intro y3 y4)));have HB1:=xv hb1 HB0;clear p1 p2 p3 p4 i1 i2 i3 i4 y1 y2 y3 y4 hb1 hzu;go_upto_region 8 with (fail)
 generalize hw2:w1.alloc _=w2;have hh:=ec6 hw2 (au6 (⟨c_t0,c_t1,c_t2,c_t3,c_t4,c_t5⟩));clear c_t0 c_t1 c_t2 c_t3 c_t4 c_t5;obtain ⟨c_t0,c_t1,c_t2,c_t3,c_t4,c_t5⟩:=hh;replace z_t:=elt hw2 (auz (z_t));have hh:=ec6 hw2 (au6 (⟨c_r0,c_r1,c_r2,c_r3,c_r4,c_r5⟩));clear c_r0 c_r1 c_r2 c_r3 c_r4 c_r5;obtain ⟨c_r0,c_r1,c_r2,c_r3,c_r4,c_r5⟩:=hh;have hh:=ef6 hw2 (auf6 z_r ⟨f_r0,f_r1,f_r2,f_r3,f_r4,f_r5⟩);clear f_r0 f_r1 f_r2 f_r3 f_r4 f_r5;obtain ⟨f_r0,f_r1,f_r2,f_r3,f_r4,f_r5⟩:=hh;replace z_r:=elt hw2 (auz (z_r));have hh:=ec6 hw2 (al6 (b:=w1.heap.size) xsi);obtain ⟨c_o0,c_o1,c_o2,c_o3,c_o4,c_o5⟩:=hh;have z_o:=elt hw2 (alz (b:=w1.heap.size) xsi);have hb2:Below w1.heap.size w1 w2:=by rw [←hw2];exact br.alloc (Nat.le_refl _) _
 have HB2:=xv hb2 HB1;have HC:=hid (OV.out w2 ⟨a1,a2,a3,a4,k1,k2,k3,k4⟩ HB2.out (HI.out.below hb2) (fun e=>(HY.out.1 e).2) (fun e=>(HY.out.2.1 e).2) (fun e=>(HY.out.2.2.1 e).2) (fun e=>(HY.out.2.2.2 e).2));have hz2:=HB2.out.size;have hz22:=z_r;clear hw2 hb2;dsimp only [slV] at HC;go_wp2_with fail
 refine HC.out.mono ?_;rintro e w3 ⟨v1,v2,v3,v4,rfl,p1,p2,p3,p4,hb3⟩;have hz_w3:=hb3.size;simp (disch:=omega) only [xcl hb3,xfr hb3] at *;replace z_t:=blt hb3 z_t;replace z_r:=blt hb3 z_r;replace z_o:=blt hb3 z_o;have HB3:=hid (below_via hb3 HB2.out hz2);obtain ⟨x1,y1,rfl,-⟩:=owns_news p1;obtain ⟨x2,y2,rfl,-⟩:=owns_news p2;obtain ⟨x3,y3,rfl,-⟩:=owns_news p3;obtain ⟨x4,y4,rfl,-⟩:=owns_news p4;have HP1:=hid p1;have HP2:=hid p2;have HP3:=hid p3;have HP4:=hid p4;clear p1 p2 p3 p4;clear hb3;go_wp2
 have HQ:Hid (∀q,q≠w.heap.size+1→((((((w3.setCell ⟨w.heap.size+1,0,none⟩ (.int .i64 d.seg)).setCell ⟨w.heap.size+1,1,none⟩ (.slice x1 d.ws.length y1)).setCell ⟨w.heap.size+1,2,none⟩ (.slice x2 d.ks.length y2)).setCell ⟨w.heap.size+1,3,none⟩ (.slice x3 d.vs.length y3)).setCell ⟨w.heap.size+1,4,none⟩ (.slice x4 d.cs.length y4)).setCell ⟨w.heap.size+1,5,none⟩ (.int .u64 d.laid)).heap[q]? =w3.heap[q]?):=hid fun q hq=>by
  rw [heap_setCell_ne _ _ _ hq,heap_setCell_ne _ _ _ hq,heap_setCell_ne _ _ _ hq,heap_setCell_ne _ _ _ hq,heap_setCell_ne _ _ _ hq,heap_setCell_ne _ _ _ hq]
 refine bodyPost_ret (results_ct rfl rfl (run_loadVar_many _ Tryd.underlying29 rfl xk (six_set c_r0 c_r1 c_r2 c_r3 c_r4 c_r5))) rfl ⟨_,_,_,_,rfl,?_,?_,?_,?_,?_⟩
 · exact owns_base (owns_heap HP1.out fun j hj=>HQ.out _ (by have:=(HP1.out.lt j hj).1;omega)) xo
 · exact owns_base (owns_heap HP2.out fun j hj=>HQ.out _ (by have:=(HP2.out.lt j hj).1;omega)) xo
 · exact owns_base (owns_heap HP3.out fun j hj=>HQ.out _ (by have:=(HP3.out.lt j hj).1;omega)) xo
 · exact owns_base (owns_heap HP4.out fun j hj=>HQ.out _ (by have:=(HP4.out.lt j hj).1;omega)) xo
 · exact (((((HB3.out.setCell xdo _).setCell xdo _).setCell xdo _).setCell xdo _).setCell xdo _).setCell xdo _
end
section
open Go.RowKit
end
section
open Go.RowKit
structure FilS (B:Nat) (W:World) (b g1 g2 g3 g4 k1 k2 k3 k4 lw n lc:Nat) (c:SlC):Prop where
 c0:W.cell? ⟨b,0,none⟩=some (.int .i64 c.seg)
 c1:W.cell? ⟨b,1,none⟩=some (.slice (some ⟨g1,0,none⟩) lw k1)
 c2:W.cell? ⟨b,2,none⟩=some (.slice (some ⟨g2,0,none⟩) n k2)
 c3:W.cell? ⟨b,3,none⟩=some (.slice (some ⟨g3,0,none⟩) n k3)
 c4:W.cell? ⟨b,4,none⟩=some (.slice (some ⟨g4,0,none⟩) lc k4)
 c5:W.cell? ⟨b,5,none⟩=some (.int .u64 c.laid)
 f1:W.frozen? ⟨b,1,none⟩=false
 f5:W.frozen? ⟨b,5,none⟩=false
 o1:W.ownsRow B 27 1 (.slice (some ⟨g1,0,none⟩) lw k1) lw (c.ws.map (Value.int .u64))
 o2:W.ownsRow B 2 1 (.slice (some ⟨g2,0,none⟩) n k2) n (c.ks.map (Value.int .i64))
 o3:W.ownsRow B 2 1 (.slice (some ⟨g3,0,none⟩) n k3) n (c.vs.map (Value.int .i64))
 o4:W.ownsRow B 3 1 (.slice (some ⟨g4,0,none⟩) lc k4) lc (c.cs.map (Value.int .i64))
 bB:b<B
 n23:g2≠g3
theorem owns_ne {w:World} {B g g' n n' k k':Nat} {e e':TypeId} {xs xs':List Value} (ha:w.ownsRow B e 1 (.slice (some ⟨g,0,none⟩) n k) n xs) (hb:w.ownsRow B e' 1 (.slice (some ⟨g',0,none⟩) n' k') n' xs') (hc:e≠e'):g≠g':=by
 rcases owns_apart ha hb hc with h|h
 · cases h
 · intro hgg;exact h (by subst hgg;rfl)
section
variable {B b g1 g2 g3 g4 k1 k2 k3 k4 lw n lc:Nat} {W W':World} {c:SlC}
theorem FilS.nums (h:FilS B W b g1 g2 g3 g4 k1 k2 k3 k4 lw n lc c):B≤g1∧B≤g2∧B≤g3∧B≤g4∧g1<W.heap.size∧g2<W.heap.size∧g3<W.heap.size∧g4<W.heap.size∧g1≠g2∧g1≠g3∧g1≠g4∧g2≠g4∧g3≠g4∧b<W.heap.size:=
  ⟨(h.o1.lt g1 rfl).1,(h.o2.lt g2 rfl).1,(h.o3.lt g3 rfl).1,(h.o4.lt g4 rfl).1,(h.o1.lt g1 rfl).2,(h.o2.lt g2 rfl).2,(h.o3.lt g3 rfl).2,(h.o4.lt g4 rfl).2,owns_ne h.o1 h.o2 xdd,owns_ne h.o1 h.o3 xdd,owns_ne h.o1 h.o4 xdd,owns_ne h.o2 h.o4 xdd,owns_ne h.o3 h.o4 xdd,World.block_lt_of_cell? _ _ h.c0⟩
theorem FilS.heap (h:FilS B W b g1 g2 g3 g4 k1 k2 k3 k4 lw n lc c) (hb:W'.heap[b]? =W.heap[b]?) (h1:W'.heap[g1]? =W.heap[g1]?) (h2:W'.heap[g2]? =W.heap[g2]?) (h3:W'.heap[g3]? =W.heap[g3]?) (h4:W'.heap[g4]? =W.heap[g4]?):FilS B W' b g1 g2 g3 g4 k1 k2 k3 k4 lw n lc c:=
  ⟨(World.cell?_of_block (a:=⟨b,0,none⟩) hb).trans h.c0,(World.cell?_of_block (a:=⟨b,1,none⟩) hb).trans h.c1,(World.cell?_of_block (a:=⟨b,2,none⟩) hb).trans h.c2,(World.cell?_of_block (a:=⟨b,3,none⟩) hb).trans h.c3,(World.cell?_of_block (a:=⟨b,4,none⟩) hb).trans h.c4,(World.cell?_of_block (a:=⟨b,5,none⟩) hb).trans h.c5,
    (World.frozen?_of_block (a:=⟨b,1,none⟩) hb).trans h.f1,(World.frozen?_of_block (a:=⟨b,5,none⟩) hb).trans h.f5,
    owns_heap h.o1 fun j hj=>by cases hj;exact h1,owns_heap h.o2 fun j hj=>by cases hj;exact h2,owns_heap h.o3 fun j hj=>by cases hj;exact h3,owns_heap h.o4 fun j hj=>by cases hj;exact h4,h.bB,h.n23⟩
theorem FilS.below (h:FilS B W b g1 g2 g3 g4 k1 k2 k3 k4 lw n lc c) (hb:Below W.heap.size W W'):FilS B W' b g1 g2 g3 g4 k1 k2 k3 k4 lw n lc c:=by
 have q:=h.nums;exact h.heap (hb.block _ xo) (hb.block _ xo) (hb.block _ xo) (hb.block _ xo) (hb.block _ xo)
theorem FilS.drew (h:FilS B W b g1 g2 g3 g4 k1 k2 k3 k4 lw n lc c):FilS B W.drew b g1 g2 g3 g4 k1 k2 k3 k4 lw n lc c:=h.heap rfl rfl rfl rfl rfl
theorem FilS.setL (h:FilS B W b g1 g2 g3 g4 k1 k2 k3 k4 lw n lc c) (y:Int):FilS B (W.setCell ⟨b,5,none⟩ (.int .u64 y)) b g1 g2 g3 g4 k1 k2 k3 k4 lw n lc ⟨c.seg,c.ws,c.ks,c.vs,c.cs,y⟩:=by
 have q:=h.nums;have hbB:=h.bB;have hk:∀z,z≠b→(W.setCell ⟨b,5,none⟩ (.int .u64 y)).heap[z]? =W.heap[z]? :=fun z hz=>heap_setCell_ne _ _ _ hz
 exact ⟨set_keep xsi h.c0,set_keep xsi h.c1,set_keep xsi h.c2,set_keep xsi h.c3,set_keep xsi h.c4,World.cell?_setCell_same _ _ _ h.c5,
   by rw [World.frozen?_setCell];exact h.f1,by rw [World.frozen?_setCell];exact h.f5,
   owns_heap h.o1 fun j hj=>by cases hj;exact hk _ xdo,owns_heap h.o2 fun j hj=>by cases hj;exact hk _ xdo,owns_heap h.o3 fun j hj=>by cases hj;exact hk _ xdo,owns_heap h.o4 fun j hj=>by cases hj;exact hk _ xdo,h.bB,h.n23⟩
end
end
section
open Go.RowKit Go.Shelf
attribute [local go_sem] Oper.semAt_some
structure FilK (w w2 W:World):Prop where
 bel:Below w.heap.size w W
 keep:∀q,q<w.heap.size+2→q≠w.heap.size→W.heap[q]? =w2.heap[q]?
 size:w.heap.size+2≤W.heap.size
theorem FilK.below {w w2 W W':World} (h:FilK w w2 W) (hb:Below W.heap.size W W'):FilK w w2 W':=
  ⟨below_via hb h.bel (by have:=h.size;omega),fun q hq hne=>(hb.block q (by have:=h.size;omega)).trans (h.keep q hq hne),Nat.le_trans h.size hb.size⟩
theorem FilK.drew {w w2 W:World} (h:FilK w w2 W):FilK w w2 W.drew:=⟨h.bel.drew,h.keep,h.size⟩
theorem FilK.setCell {w w2 W:World} (h:FilK w w2 W) {a:Addr} (ha:a.block=w.heap.size∨w.heap.size+2≤a.block) (v:Value):FilK w w2 (W.setCell a v):=
  ⟨h.bel.setCell xo v,fun q hq hne=>(heap_setCell_ne _ _ _ xo).trans (h.keep q hq hne),by rw [World.size_setCell];exact h.size⟩
end
section
open Go.RowKit Go.Shelf
attribute [local go_sem] Oper.semAt_some
end
end Go.Proofs.YtmnlagmmbfjbeaaDoor

/- Merged: Empty04, Spr, SetCs, PutL, ApFull, Share, LoadW. -/
import Derived.Test.YtookgoidlnlckaaGreatDoorGapTellsP15
import Derived.Deep.CutRange
import Derived.Test.YtookgoidlnlckaaGreatDoorGapTellsP21
import Derived.Test.YtookgoidlnlckaaGreatDoorGapTellsP22
import Derived.Test.YtookgoidlnlckaaGreatDoorGapTellsP7
import Derived.Test.YtookgoidlnlckaaGreatDoorGapTellsP9
import Derived.Test.YtookgoidlnlckaaGreatDoorGapTellsP1
import Derived.Test.YtookgoidlnlckaaGreatDoorGapTellsP19
import Derived.Test.YtookgoidlnlckaaGreatDoorGapTellsP3
import Derived.Test.YtookgoidlnlckaaGreatDoorGapTellsP16
namespace Go.Proofs.YtookgoidlnlckaaGreatDoor
set_option maxRecDepth 100000
set_option maxHeartbeats 40000000
set_option linter.unusedVariables false
set_option linter.unusedSimpArgs false
section
open Go.RowKit Go.Shelf
attribute [local go_sem] Oper.semAt_some
theorem Empty04_core (w:World) (seg many nw nc:Nat) (hs:4≤seg) (hm:many≤65536) (hs2:seg≤64) (hnw:((many:Int)+63).tdiv 64=nw) (hnc:(many:Int).tdiv seg=nc) (hnw2:nw≤65536) (hnc2:nc≤65536):
    Calls Tryz.prog 19 #[.int .i64 seg,.int .i64 many] w (FreshSl w (zeroSl seg many nw nc)):=by
 have hs0:((seg:Int)==0)=false:=by simp;omega
 have hsn:¬(seg:Int)=0:=xo;have hsn2:¬seg=0:=xo;have hw0:IntKind.i64.wrap ((many:Int)+63)=(many:Int)+63:=IntWalk.i64_in _ xo;have hw1:IntKind.i64.wrap (nw:Int)=(nw:Int):=IntWalk.i64_in _ xo;have hw2:IntKind.i64.wrap (nc:Int)=(nc:Int):=IntWalk.i64_in _ xo;go_enter Tryz.func19,Tryz.ntmps19
 go_upto_region 1 with (fail)
 generalize hwz:w.alloc (.cells #[.int .i64 0,.slice none 0 0,.slice none 0 0,.slice none 0 0,.slice none 0 0,.int .u64 0] 29)=wz;have c_r0:wz.cell? ⟨w.heap.size,0,none⟩=some (.int .i64 0):=by rw [←hwz];(exact xcg)
 have f_r0:wz.frozen? ⟨w.heap.size,0,none⟩=false:=by rw [←hwz];(exact xcg)
 have c_r1:wz.cell? ⟨w.heap.size,1,none⟩=some (.slice none 0 0):=by rw [←hwz];(exact xcg)
 have f_r1:wz.frozen? ⟨w.heap.size,1,none⟩=false:=by rw [←hwz];(exact xcg)
 have c_r2:wz.cell? ⟨w.heap.size,2,none⟩=some (.slice none 0 0):=by rw [←hwz];(exact xcg)
 have f_r2:wz.frozen? ⟨w.heap.size,2,none⟩=false:=by rw [←hwz];(exact xcg)
 have c_r3:wz.cell? ⟨w.heap.size,3,none⟩=some (.slice none 0 0):=by rw [←hwz];(exact xcg)
 have f_r3:wz.frozen? ⟨w.heap.size,3,none⟩=false:=by rw [←hwz];(exact xcg)
 have c_r4:wz.cell? ⟨w.heap.size,4,none⟩=some (.slice none 0 0):=by rw [←hwz];(exact xcg)
 have f_r4:wz.frozen? ⟨w.heap.size,4,none⟩=false:=by rw [←hwz];(exact xcg)
 have c_r5:wz.cell? ⟨w.heap.size,5,none⟩=some (.int .u64 0):=by rw [←hwz];(exact xcg)
 have f_r5:wz.frozen? ⟨w.heap.size,5,none⟩=false:=by rw [←hwz];(exact xcg)
 have z_r:w.heap.size<wz.heap.size:=by rw [←hwz];(exact xlt)
 have HS:Hid (Below w.heap.size w wz):=by rw [←hwz];exact hid ((Below.refl _ _).alloc (Nat.le_refl _) _)
 have hz:w.heap.size+1=wz.heap.size:=by rw [←hwz];simp
 clear hwz;refine wp_region_late 14 xk (N:=19) rfl xk xk (by decide) (fun w'=>Below wz.heap.size wz w') RB (factRAt [.is (.int .i64 seg),.is (.int .i64 many),.is (.int .i64 ((many:Int)+63)),.is (.int .i64 nw),.own wz.heap.size 27 nw ((List.replicate nw (0:Int)).map (Value.int .u64)),.is (.int .i64 many),.own wz.heap.size 2 many ((List.replicate many (0:Int)).map (Value.int .i64)),.is (.int .i64 many),.own wz.heap.size 2 many ((List.replicate many (0:Int)).map (Value.int .i64)),.is (.int .i64 many),.is (.int .i64 seg),.is (.int .i64 nc),.own wz.heap.size 3 nc ((List.replicate nc (0:Int)).map (Value.int .i64)),.sl wz.heap.size (zeroSl seg many nw nc)]) (factRAt_stays _) (Below.refl _ _).drew ?steps ?fin
 case steps=>
  refine ⟨?o0,?o1,?o2,?o3,?o4,?o5,?o6,?o7,?o8,?o9,?o10,?o11,?o12,?o13,trivial⟩
  case o0=>
   intro u a w' ev hJ hd K hK;have e0:a.tmps.getD 0 undef= .int .i64 seg:=ev 0 (by decide);have HK:=hid hK;clear hK ev hd;go_simp;exact HK.out _ _ xzc hJ rfl (Below.refl _ _)
  case o1=>
   intro u a w' ev hJ hd K hK;have e1:a.tmps.getD 1 undef= .int .i64 many:=ev 1 (by decide);have HK:=hid hK;clear hK ev hd;go_simp;exact HK.out _ _ xzc hJ rfl (Below.refl _ _)
  case o2=>
   intro u a w' ev hJ hd K hK;have e6:a.tmps.getD 6 undef= .int .i64 many:=(ev 6 (by decide)).trans (hd 1 _ xk rfl);have HK:=hid hK;clear hK ev hd;go_simp;exact HK.out _ _ xzc hJ rfl (Below.refl _ _)
  case o3=>
   intro u a w' ev hJ hd K hK;have e7:a.tmps.getD 7 undef= .int .i64 ((many:Int)+63):=(ev 7 (by decide)).trans (hd 2 _ xk rfl);have HK:=hid hK;clear hK ev hd;go_simp;exact HK.out _ _ xzc hJ rfl (Below.refl _ _)
  case o4=>
   intro u a w' ev hJ hd K hK;have e8:a.tmps.getD 8 undef= .int .i64 nw:=(ev 8 (by decide)).trans (hd 3 _ xk rfl);exact wp_make (.tmp 8) (.tmp 8) 24 27 _ 1 8 Tryz.underlying24 info4_uint64 (by decide) wz.heap.size nw _ rfl xo hJ.size rfl e8 e8 (fun g w'' k1 k2 k3=>hK _ _ xzc (hJ.trans (k3.mono hJ.size)) ⟨g,rfl,by rw [made_zero] at k2;exact k2⟩ k3)
  case o5=>
   intro u a w' ev hJ hd K hK;have e1:a.tmps.getD 1 undef= .int .i64 many:=ev 1 (by decide);have HK:=hid hK;clear hK ev hd;go_simp;exact HK.out _ _ xzc hJ rfl (Below.refl _ _)
  case o6=>
   intro u a w' ev hJ hd K hK;have e10:a.tmps.getD 10 undef= .int .i64 many:=(ev 10 (by decide)).trans (hd 5 _ xk rfl);exact wp_make (.tmp 10) (.tmp 10) 25 2 _ 1 8 Tryz.underlying25 info4_int64 (by decide) wz.heap.size many _ rfl xo hJ.size rfl e10 e10 (fun g w'' k1 k2 k3=>hK _ _ xzc (hJ.trans (k3.mono hJ.size)) ⟨g,rfl,by rw [made_zero] at k2;exact k2⟩ k3)
  case o7=>
   intro u a w' ev hJ hd K hK;have e1:a.tmps.getD 1 undef= .int .i64 many:=ev 1 (by decide);have HK:=hid hK;clear hK ev hd;go_simp;exact HK.out _ _ xzc hJ rfl (Below.refl _ _)
  case o8=>
   intro u a w' ev hJ hd K hK;have e12:a.tmps.getD 12 undef= .int .i64 many:=(ev 12 (by decide)).trans (hd 7 _ xk rfl);exact wp_make (.tmp 12) (.tmp 12) 25 2 _ 1 8 Tryz.underlying25 info4_int64 (by decide) wz.heap.size many _ rfl xo hJ.size rfl e12 e12 (fun g w'' k1 k2 k3=>hK _ _ xzc (hJ.trans (k3.mono hJ.size)) ⟨g,rfl,by rw [made_zero] at k2;exact k2⟩ k3)
  case o9=>
   intro u a w' ev hJ hd K hK;have e1:a.tmps.getD 1 undef= .int .i64 many:=ev 1 (by decide);have HK:=hid hK;clear hK ev hd;go_simp;exact HK.out _ _ xzc hJ rfl (Below.refl _ _)
  case o10=>
   intro u a w' ev hJ hd K hK;have e0:a.tmps.getD 0 undef= .int .i64 seg:=ev 0 (by decide);have HK:=hid hK;clear hK ev hd;go_simp;exact HK.out _ _ xzc hJ rfl (Below.refl _ _)
  case o11=>
   intro u a w' ev hJ hd K hK;have e14:a.tmps.getD 14 undef= .int .i64 many:=(ev 14 (by decide)).trans (hd 9 _ xk rfl);have e15:a.tmps.getD 15 undef= .int .i64 seg:=(ev 15 (by decide)).trans (hd 10 _ xk rfl);have HK:=hid hK;clear hK ev hd;go_simp;exact HK.out _ _ xzc hJ rfl (Below.refl _ _)
  case o12=>
   intro u a w' ev hJ hd K hK;have e16:a.tmps.getD 16 undef= .int .i64 nc:=(ev 16 (by decide)).trans (hd 11 _ xk rfl);exact wp_make (.tmp 16) (.tmp 16) 26 3 _ 1 8 Tryz.underlying26 info4_int (by decide) wz.heap.size nc _ rfl xo hJ.size rfl e16 e16 (fun g w'' k1 k2 k3=>hK _ _ xzc (hJ.trans (k3.mono hJ.size)) ⟨g,rfl,by rw [made_zero] at k2;exact k2⟩ k3)
  case o13=>
   intro u a w' ev hJ hd K hK;have h5:u 5= .int .i64 seg:=hd 0 _ xk rfl;obtain ⟨g9,h9,o9⟩:(FactR.own wz.heap.size 27 nw ((List.replicate nw (0:Int)).map (Value.int .u64))).holds (u 9) w':=hd 4 _ xk rfl;obtain ⟨g11,h11,o11⟩:(FactR.own wz.heap.size 2 many ((List.replicate many (0:Int)).map (Value.int .i64))).holds (u 11) w':=hd 6 _ xk rfl;obtain ⟨g13,h13,o13⟩:(FactR.own wz.heap.size 2 many ((List.replicate many (0:Int)).map (Value.int .i64))).holds (u 13) w':=hd 8 _ xk rfl;obtain ⟨g17,h17,o17⟩:(FactR.own wz.heap.size 3 nc ((List.replicate nc (0:Int)).map (Value.int .i64))).holds (u 17) w':=hd 12 _ xk rfl;have f5:a.tmps[5]?.getD undef= .int .i64 seg:=by rw [←Array.getD_eq_getD_getElem?];exact (ev 5 (by decide)).trans h5
   have f9:a.tmps[9]?.getD undef= .slice (some ⟨g9,0,none⟩) nw nw:=by rw [←Array.getD_eq_getD_getElem?];exact (ev 9 (by decide)).trans h9
   have f11:a.tmps[11]?.getD undef= .slice (some ⟨g11,0,none⟩) many many:=by rw [←Array.getD_eq_getD_getElem?];exact (ev 11 (by decide)).trans h11
   have f13:a.tmps[13]?.getD undef= .slice (some ⟨g13,0,none⟩) many many:=by rw [←Array.getD_eq_getD_getElem?];exact (ev 13 (by decide)).trans h13
   have f17:a.tmps[17]?.getD undef= .slice (some ⟨g17,0,none⟩) nc nc:=by rw [←Array.getD_eq_getD_getElem?];exact (ev 17 (by decide)).trans h17
   have HK:=hid hK;have O9:=hid o9;have O11:=hid o11;have O13:=hid o13;have O17:=hid o17;clear hK ev hd h5 h9 h11 h13 h17 o9 o11 o13 o17;go_simp;exact HK.out _ _ xzc hJ ⟨_,_,_,_,rfl,by simpa [zeroSl] using O9.out,by simpa [zeroSl] using O11.out,by simpa [zeroSl] using O13.out,by simpa [zeroSl] using O17.out⟩ (Below.refl _ _)
 case fin=>
  intro u w2 hJ hG;obtain ⟨v1,v2,v3,v4,h18,p1,p2,p3,p4⟩:(FactR.sl wz.heap.size (zeroSl seg many nw nc)).holds (u 18) w2:=hG 13 _ rfl;obtain ⟨a1,c1,rfl,-⟩:=owns_news p1;obtain ⟨a2,c2,rfl,-⟩:=owns_news p2;obtain ⟨a3,c3,rfl,-⟩:=owns_news p3;obtain ⟨a4,c4,rfl,-⟩:=owns_news p4;have HP1:=hid p1;have HP2:=hid p2;have HP3:=hid p3;have HP4:=hid p4;have hz_w2:=hJ.size;replace c_r0:w2.cell? ⟨w.heap.size,0,none⟩=some (.int .i64 0):=(hJ.cell (p:=⟨w.heap.size,0,none⟩) xlt).trans xcn;replace f_r0:w2.frozen? ⟨w.heap.size,0,none⟩=false:=(hJ.frozen (p:=⟨w.heap.size,0,none⟩) xlt).trans xcn;replace c_r1:w2.cell? ⟨w.heap.size,1,none⟩=some (.slice none 0 0):=(hJ.cell (p:=⟨w.heap.size,1,none⟩) xlt).trans xcn;replace f_r1:w2.frozen? ⟨w.heap.size,1,none⟩=false:=(hJ.frozen (p:=⟨w.heap.size,1,none⟩) xlt).trans xcn;replace c_r2:w2.cell? ⟨w.heap.size,2,none⟩=some (.slice none 0 0):=(hJ.cell (p:=⟨w.heap.size,2,none⟩) xlt).trans xcn;replace f_r2:w2.frozen? ⟨w.heap.size,2,none⟩=false:=(hJ.frozen (p:=⟨w.heap.size,2,none⟩) xlt).trans xcn;replace c_r3:w2.cell? ⟨w.heap.size,3,none⟩=some (.slice none 0 0):=(hJ.cell (p:=⟨w.heap.size,3,none⟩) xlt).trans xcn;replace f_r3:w2.frozen? ⟨w.heap.size,3,none⟩=false:=(hJ.frozen (p:=⟨w.heap.size,3,none⟩) xlt).trans xcn;replace c_r4:w2.cell? ⟨w.heap.size,4,none⟩=some (.slice none 0 0):=(hJ.cell (p:=⟨w.heap.size,4,none⟩) xlt).trans xcn;replace f_r4:w2.frozen? ⟨w.heap.size,4,none⟩=false:=(hJ.frozen (p:=⟨w.heap.size,4,none⟩) xlt).trans xcn;replace c_r5:w2.cell? ⟨w.heap.size,5,none⟩=some (.int .u64 0):=(hJ.cell (p:=⟨w.heap.size,5,none⟩) xlt).trans xcn;replace f_r5:w2.frozen? ⟨w.heap.size,5,none⟩=false:=(hJ.frozen (p:=⟨w.heap.size,5,none⟩) xlt).trans xcn;replace z_r:w.heap.size<w2.heap.size:=xo;have hB2:Below w.heap.size w w2:=below_via hJ HS.out xo;clear hG p1 p2 p3 p4 hJ;simp only [mixFrame,mixL,dstsOf,List.take_succ_cons,List.take_zero,List.filterMap_cons,List.filterMap_nil,List.contains_cons,List.contains_nil,Nat.reduceBEq,Bool.or_false,Bool.false_or,Bool.or_true,Bool.true_or,if_true,if_false,Bool.false_eq_true,Nat.reduceAdd,Nat.zero_add,List.drop_succ_cons,List.drop_zero,h18];go_wp2
  have HQ:Hid (∀q,w.heap.size+1≤q→((((((w2.setCell ⟨w.heap.size,0,none⟩ (.int .i64 (zeroSl seg many nw nc).seg)).setCell ⟨w.heap.size,1,none⟩ (.slice a1 (zeroSl seg many nw nc).ws.length c1)).setCell ⟨w.heap.size,2,none⟩ (.slice a2 (zeroSl seg many nw nc).ks.length c2)).setCell ⟨w.heap.size,3,none⟩ (.slice a3 (zeroSl seg many nw nc).vs.length c3)).setCell ⟨w.heap.size,4,none⟩ (.slice a4 (zeroSl seg many nw nc).cs.length c4)).setCell ⟨w.heap.size,5,none⟩ (.int .u64 (zeroSl seg many nw nc).laid)).heap[q]? =w2.heap[q]?):=hid fun q hq=>by
   rw [heap_setCell_ne _ _ _ xdo,heap_setCell_ne _ _ _ xdo,heap_setCell_ne _ _ _ xdo,heap_setCell_ne _ _ _ xdo,heap_setCell_ne _ _ _ xdo,heap_setCell_ne _ _ _ xdo]
  refine bodyPost_ret (results_c rfl rfl (run_loadVar_many _ Tryz.underlying29 rfl xk (six_set c_r0 c_r1 c_r2 c_r3 c_r4 c_r5))) rfl ⟨_,_,_,_,rfl,?_,?_,?_,?_,?_⟩
  · exact owns_base (owns_heap HP1.out fun j hj=>HQ.out j (by have:=(HP1.out.lt j hj).1;omega)) xo
  · exact owns_base (owns_heap HP2.out fun j hj=>HQ.out j (by have:=(HP2.out.lt j hj).1;omega)) xo
  · exact owns_base (owns_heap HP3.out fun j hj=>HQ.out j (by have:=(HP3.out.lt j hj).1;omega)) xo
  · exact owns_base (owns_heap HP4.out fun j hj=>HQ.out j (by have:=(HP4.out.lt j hj).1;omega)) xo
  · exact (((((hB2.setCell xdo _).setCell xdo _).setCell xdo _).setCell xdo _).setCell xdo _).setCell xdo _
end
section
open Go.RowKit
def CapsZ (a:SlA):Prop:=(a.wa=none→a.wc=0)∧(a.ka=none→a.kc=0)∧(a.va=none→a.vc=0)∧(a.ca=none→a.cc=0)
theorem gd_may {c:SlC} {S lw n lc:Nat} (h:SlGd c S lw n lc) (hS:pwB (S:Int)=true) (hM:pwB (lc:Int)=true) (hlw:lw=(n+63)/64):slMay c=true:=by
 have hlc1:1≤lc:=by
  rcases Nat.eq_zero_or_pos lc with e|e
  · rw [e] at hM;cases hM
  · exact e
 have h4:=h.s4;have hn:(n:Int)/(S:Int)=lc:=by
  rw [h.cn,Int.natCast_mul,Int.mul_ediv_cancel_left _ xo]
 have hn2:(n:Int)%(S:Int)=0:=by
  rw [h.cn,Int.natCast_mul,Int.mul_emod_right]
 have hle:S*1≤S*lc:=Nat.mul_le_mul_left _ hlc1;simp only [slMay,slHead,fitB,wMayB,clrB,cntB,Bool.and_eq_true,decide_eq_true_eq,List.all_eq_true];rw [h.elk,h.elv,h.elw,h.elc,h.seg,hn,hn2];refine ⟨⟨⟨⟨⟨⟨⟨⟨⟨⟨⟨by have:=h.s4;omega,by have:=h.s64;omega⟩,hS⟩,by have:=h.cn;omega⟩,by have:=h.nm;omega⟩,rfl⟩,hM⟩,rfl⟩,hlw,?_⟩,rfl⟩,?_⟩,?_⟩
 · intro i hi;have:=(List.mem_range'_1.1 hi).1;rw [h.hi i this];rfl
 · intro i hi;cases hb:bitW c.ws i with
   | true=>rfl
   | false=>
    have:=h.clr i hb;simp only [Bool.false_or,Bool.and_eq_true,beq_iff_eq];exact this
 · intro k hk;have:=h.cnt k (List.mem_range.1 hk);rw [Int.toNat_natCast,this,beq_self_eq_true]
theorem gd_fit {c:SlC} {S lw n lc:Nat} (h:SlGd c S lw n lc) (hm:slMay c=true):fitB (S:Int) n=true:=by
 simp only [slMay,slHead,Bool.and_eq_true] at hm;have:=hm.1.1.1.1.1;rwa [h.elk,h.seg] at this
theorem over_ok {c:SlC} {S lw n lc:Nat} (h:SlGd c S lw n lc) (hm:slMay c=true) (sa:SlA) (lo hi:Nat) (hlo:lo≤hi) (hhi:hi≤n) (L:List (Int×Int)) (hL:L.length≤hi-lo) (la:Option Addr) (pl:Nat) (w:World) (hin:SlIn w c sa) (hla:IsRow .i64 w la (prI L)):
    Calls Tryz.prog 56 #[slV c sa,.int .i64 lo,.int .i64 hi,.slice la L.length pl] w (FreshSl2 w (spC c lo hi L) (.int .i64 0)):=by
 have n1:=h.n1;have nm:=h.nm;have s4:=h.s4;have wn:=h.wn;have hlc:0<lc:=by
  rcases Nat.eq_zero_or_pos lc with e|e
  · have:=h.cn;rw [e] at this;omega
  · exact e
 have hlc2:lc≤65536:=by
  have h9:1*lc≤S*lc:=Nat.mul_le_mul_right _ xo;have:=h.cn;omega
 have hlw2:lw≤65536:=by
  have:=slHead_facts (slMay_head hm);obtain ⟨S',M,-,-,-,b3,-,-,-,b7,-,b9,-⟩:=this;rw [h.elw] at b9;omega
 refine over_core w c.seg sa.wa sa.ka sa.va sa.ca sa.wc sa.kc sa.vc sa.cc c.ws.length c.ks.length c.vs.length c.cs.length c.laid lo hi L.length (ints (plR L.length lo hi)) la pl (spC c lo hi L) (by rw [ints_length,plR_length]) (hid fun W hb=> ?_) (hid fun W hb=>Places_ok L.length lo hi hlo xo hL W) (hid fun W pa pc hb hp=> ?_)
 · have:=slCheck_ok c sa (by rw [h.elw];omega) (by rw [h.elk];omega) W (hin.below hb);rwa [show slE c=0 by simp [slE,hm]] at this
 · have hin2:=hin.below hb;have e1:=h.elw;have e2:=h.elk;have e3:=h.elv;have e4:=h.elc;rw [e1,e2,e3,e4];refine slFill_core W c.seg sa.wa sa.ka sa.va sa.ca sa.wc sa.kc sa.vc sa.cc lw n lc c.laid c lo hi L.length S (plR L.length lo hi) L pa la pc pl rfl rfl e1 e2 e3 e4 xo xo hlc nm hlw2 hlc2 h.seg s4 hlo hhi wn h.cn (plR_length _ _ _) rfl xo (fun k hk=>plR_pv hk hL) (fun j hj=>(h.tks j xo).ok) (fun k hk=>(SlGd.lys (h.tks (hi-lo) xo) (fun k=>plR_ltn hL hhi xo k) L k).ok) (hid hp) (hid (hla.below hb)) (hid fun W' hb'=> ?_) (hid fun W' hb'=> ?_)
   · have:=part_ok c sa (by rw [e1];omega) (by rw [e2];omega) lo hi W' (hin2.below hb');rw [show partE c lo hi=0 by unfold partE;rw [if_pos hm,if_pos (by rw [e2];omega)]] at this;simpa only [slV,e1,e2,e3,e4] using this
   · have:=slTwin_ok c sa W' (hin2.below hb') (by rw [e1];omega) (by rw [e2];omega) (by rw [e3];omega) (by rw [e4];omega);simpa only [slV,e1,e2,e3,e4] using this
theorem Spread08_ok {c:SlC} {S lw n lc:Nat} (h:SlGd c S lw n lc) (hlw2:lw≤2000) (sa:SlA) (hz:CapsZ sa) (lo hi:Nat) (hlo:lo≤hi) (hhi:hi≤n) (L:List (Int×Int)) (hL:L.length≤hi-lo) (la:Option Addr) (pl:Nat) (w:World) (hin:SlIn w c sa) (hla:IsRow .i64 w la (prI L)):
    Calls Tryz.prog 67 #[slV c sa,.int .i64 lo,.int .i64 hi,.slice la L.length pl] w (FreshSl w (spC c lo hi L)):=by
 have n1:=h.n1;have nm:=h.nm;have s4:=h.s4;have wn:=h.wn;have hlc:0<lc:=by
  rcases Nat.eq_zero_or_pos lc with e|e
  · have:=h.cn;rw [e] at this;omega
  · exact e
 have hlc2:lc≤65536:=by
  have h9:1*lc≤S*lc:=Nat.mul_le_mul_right _ xo;have:=h.cn;omega
 refine Spread08_core w c.seg sa.wa sa.ka sa.va sa.ca sa.wc sa.kc sa.vc sa.cc c.ws.length c.ks.length c.vs.length c.cs.length c.laid lo hi L.length (ints (plR L.length lo hi)) la pl (spC c lo hi L) (by rw [ints_length,plR_length]) (hid fun W hb=>Of07_ok L.length lo hi hlo xo hL W) (hid fun W pa pc hb hp=> ?_);have hin2:=hin.below hb;have e1:=h.elw;have e2:=h.elk;have e3:=h.elv;have e4:=h.elc;rw [e1,e2,e3,e4];refine Filled_core W c.seg sa.wa sa.ka sa.va sa.ca sa.wc sa.kc sa.vc sa.cc lw n lc c.laid c lo hi L.length S (plR L.length lo hi) L pa la pc pl h xo hlc hlw2 hlo hhi (plR_length _ _ _) rfl xo (fun k=>plR_ltn hL hhi xo k) (fun k hk=>lys_free h hlo hhi hL hk) (hid hp) (hid (hla.below hb)) (hid fun W' hb'=> ?_);have:=Twin04N_ok c sa W' (hin2.below hb') (by rw [e1];omega) (by rw [e2];omega) (by rw [e3];omega) (by rw [e4];omega) hz.1 hz.2.1 hz.2.2.1 hz.2.2.2;simpa only [slV,e1,e2,e3,e4] using this
def emptyL (S M:Nat) (laid:Int):SlC:=⟨S,List.replicate ((S*M+63)/64) 0,List.replicate (S*M) 0,List.replicate (S*M) 0,List.replicate M 0,laid⟩
theorem emptyL_gd {S M:Nat} (h4:4≤S) (h6:S≤64) (hM:1≤M) (hm:S*M≤65536) (laid:Int):SlGd (emptyL S M laid) S ((S*M+63)/64) (S*M) M:=by
 have z:=zero_gd h4 h6 hM hm (lw:=(S*M+63)/64) rfl;exact ⟨z.seg,z.elw,z.elk,z.elv,z.elc,z.s4,z.s64,z.cn,z.wn,z.n1,z.nm,z.u,z.cnt,z.hi,z.clr⟩
def wideC (S M:Nat) (laid:Int) (L:List (Int×Int)):SlC:=spC (emptyL S M laid) 0 (S*M) L
theorem new_nums {S M:Nat} (h4:4≤S) (hm:S*M≤65536):(((S*M:Nat):Int)+63).tdiv 64=((S*M+63)/64:Nat)∧((S*M:Nat):Int).tdiv S=M∧(S*M+63)/64≤2000∧M≤65536:=by
 have h9:1*M≤S*M:=Nat.mul_le_mul_right _ xo;refine ⟨?_,?_,by omega,by omega⟩
 · rw [Int.tdiv_eq_ediv_of_nonneg xo];omega
 · rw [Int.tdiv_eq_ediv_of_nonneg xo,Int.natCast_mul,Int.mul_ediv_cancel_left _ xo]
theorem Into_ok {c:SlC} {S lw n lc:Nat} (h:SlGd c S lw n lc) (hm:slMay c=true) (sa:SlA) (M:Nat) (hM:1≤M) (hS:pwB (S:Int)=true) (hMp:pwB (M:Int)=true) (hsm:S*M≤65536) (L:List (Int×Int)) (hL:L.length≤S*M) (la:Option Addr) (pl:Nat) (w:World) (hin:SlIn w c sa) (hla:IsRow .i64 w la (prI L)):
    Calls Tryz.prog 28 #[slV c sa,.int .i64 ((S*M:Nat):Int),.slice la L.length pl] w (FreshSl2 w (wideC S M c.laid L) (.int .i64 0)):=by
 obtain ⟨q1,q2,q3,q4⟩:=new_nums (M:=M) h.s4 hsm;have ge:=emptyL_gd h.s4 h.s64 hM hsm c.laid;have gm:=gd_may ge hS hMp rfl;refine Into_core w c.seg sa.wa sa.ka sa.va sa.ca sa.wc sa.kc sa.vc sa.cc c.ws.length c.ks.length c.vs.length c.cs.length c.laid (S*M) L.length la pl (zeroSl S (S*M) ((S*M+63)/64) M) (wideC S M c.laid L) ge.u (hid fun W hb=> ?_) (hid fun W hb=> ?_) (hid fun W sa' hb hi z1 z2 z3 z4=> ?_)
 · have:=slCheck_ok c sa (by rw [h.elw];have:=slHead_facts (slMay_head hm);obtain ⟨S',M',-,-,-,b3,-,-,-,b7,-,b9,-⟩:=this;rw [h.elw] at b9;omega) (by rw [h.elk];have:=h.nm;omega) W (hin.below hb);rwa [show slE c=0 by simp [slE,hm]] at this
 · rw [h.seg];refine slNew_core W S (S*M) ((S*M+63)/64) M h.s4 hsm h.s64 q1 q2 xo q4 (hid fun W'=> ?_);have:=fits_ok (S:Int) ((S*M:Nat):Int) W';rwa [gd_fit ge gm] at this
 · exact over_ok ge gm sa' 0 (S*M) (Nat.zero_le _) (Nat.le_refl _) L xo la pl W hi (hla.below hb)
theorem Wide08_ok {c:SlC} {S lw n lc:Nat} (h:SlGd c S lw n lc) (sa:SlA) (M:Nat) (hM:1≤M) (hsm:S*M≤65536) (L:List (Int×Int)) (hL:L.length≤S*M) (la:Option Addr) (pl:Nat) (w:World) (hla:IsRow .i64 w la (prI L)):
    Calls Tryz.prog 65 #[slV c sa,.int .i64 ((S*M:Nat):Int),.slice la L.length pl] w (FreshSl w (wideC S M c.laid L)):=by
 obtain ⟨q1,q2,q3,q4⟩:=new_nums (M:=M) h.s4 hsm;have ge:=emptyL_gd h.s4 h.s64 hM hsm c.laid;refine Wide08_core w c.seg sa.wa sa.ka sa.va sa.ca sa.wc sa.kc sa.vc sa.cc c.ws.length c.ks.length c.vs.length c.cs.length c.laid (S*M) L.length la pl (zeroSl S (S*M) ((S*M+63)/64) M) (wideC S M c.laid L) h.seg.symm ge.u (hid fun W hb=> ?_) (hid fun W sa' hb hi z1 z2 z3 z4=> ?_)
 · rw [h.seg];exact Empty04_core W S (S*M) ((S*M+63)/64) M h.s4 hsm h.s64 q1 q2 xo q4
 · exact Spread08_ok ge q3 sa' ⟨z1,z2,z3,z4⟩ 0 (S*M) (Nat.zero_le _) (Nat.le_refl _) L xo la pl W hi (hla.below hb)
end
section
open Go.RowKit
def setCs:World→Nat→Nat→List Value→World
  | W,_,_,[]=>W
  | W,b,i,v::l=>setCs (W.setCell ⟨b,i,none⟩ v) b (i+1) l
theorem setCs_other {b:Nat} {p:Addr} (hp:p.block≠b):∀(l:List Value) (W:World) (i:Nat),(setCs W b i l).cell? p=W.cell? p
  | [],W,i=>rfl
  | v::l,W,i=>by
   rw [setCs,setCs_other hp l];exact World.cell?_setCell_other _ _ _ _ (by intro e;exact hp (by rw [←e]))
theorem setCs_low {b k:Nat}:∀(l:List Value) (W:World) (i:Nat),k<i→(setCs W b i l).cell? ⟨b,k,none⟩=W.cell? ⟨b,k,none⟩
  | [],W,i,_=>rfl
  | v::l,W,i,h=>by
   rw [setCs,setCs_low l _ _ xo];exact World.cell?_setCell_other _ _ _ _ (by intro e;simp at e<;>omega)
theorem setCs_at {b:Nat}:∀(l:List Value) (W:World) (i:Nat),(∀j,j<l.length→∃u,W.cell? ⟨b,i+j,none⟩=some u)→∀j v,l[j]? =some v→(setCs W b i l).cell? ⟨b,i+j,none⟩=some v
  | [],W,i,_,j,v,h=>by simp at h
  | x::l,W,i,hc,0,v,h=>by
   obtain ⟨u,hu⟩:=hc 0 (by simp);rw [setCs,Nat.add_zero,setCs_low l _ _ xo];simp at h;rw [←h];exact World.cell?_setCell_same _ _ _ hu
  | x::l,W,i,hc,j+1,v,h=>by
   rw [setCs,show i+(j+1)=(i+1)+j by omega];refine setCs_at l _ _ (fun k hk=> ?_) j v (by simpa using h);obtain ⟨u,hu⟩:=hc (k+1) (by simpa using hk);refine ⟨u,?_⟩;rw [World.cell?_setCell_other _ _ _ _ (by intro e;simp at e<;>omega)];rw [show i+1+k=i+(k+1) by omega];exact hu
theorem setCs_all {b:Nat} {l:List Value} {W:World} (hc:∀j,j<l.length→∃u,W.cell? ⟨b,j,none⟩=some u):∀j v,l[j]? =some v→(setCs W b 0 l).cell? ⟨b,j,none⟩=some v:=fun j v h=>by
 have:=setCs_at (b:=b) l W 0 (fun j hj=>by rw [Nat.zero_add];exact hc j hj) j v h;rwa [Nat.zero_add] at this
theorem setCs_below {B b:Nat} {w:World} (hb:B≤b):∀(l:List Value) (W:World) (i:Nat),Below B w W→Below B w (setCs W b i l)
  | [],W,i,h=>h
  | v::l,W,i,h=>setCs_below hb l _ _ (h.setCell (by exact hb) v)
theorem setCs_heap {b k:Nat} (hk:k≠b):∀(l:List Value) (W:World) (i:Nat),(setCs W b i l).heap[k]? =W.heap[k]?
  | [],W,i=>rfl
  | v::l,W,i=>by rw [setCs,setCs_heap hk l];exact heap_setCell_ne _ _ _ hk
theorem setCs_owns {B b:Nat} {e:TypeId} {s n:Nat} {v:Value} {xs:List Value} (hb:b<B) {W:World} {i:Nat} (l:List Value) (h:W.ownsRow B e s v n xs):(setCs W b i l).ownsRow B e s v n xs:=
  owns_heap h fun k hk=>setCs_heap (by have:=(h.lt k hk).1;omega) l W i
theorem six_some {W:World} {b:Nat} {v0 v1 v2 v3 v4 v5:Value} (h:W.cell? ⟨b,0,none⟩=some v0∧W.cell? ⟨b,1,none⟩=some v1∧W.cell? ⟨b,2,none⟩=some v2∧W.cell? ⟨b,3,none⟩=some v3∧W.cell? ⟨b,4,none⟩=some v4∧W.cell? ⟨b,5,none⟩=some v5):∀j,j<6→∃u,W.cell? ⟨b,j,none⟩=some u:=by
 obtain ⟨h0,h1,h2,h3,h4,h5⟩:=h;intro j hj;match j,hj with
 | 0,_=>exact ⟨_,h0⟩
 | 1,_=>exact ⟨_,h1⟩
 | 2,_=>exact ⟨_,h2⟩
 | 3,_=>exact ⟨_,h3⟩
 | 4,_=>exact ⟨_,h4⟩
 | 5,_=>exact ⟨_,h5⟩
theorem setCs_frozen' {b:Nat} {p:Addr}:∀(l:List Value) (W:World) (i:Nat),(setCs W b i l).frozen? p=W.frozen? p
  | [],W,i=>rfl
  | v::l,W,i=>by rw [setCs,setCs_frozen' l];exact World.frozen?_setCell _ _ _ _
theorem setCs_size' {b:Nat}:∀(l:List Value) (W:World) (i:Nat),(setCs W b i l).heap.size=W.heap.size
  | [],W,i=>rfl
  | v::l,W,i=>by rw [setCs,setCs_size' l];exact World.size_setCell _ _ _
theorem xsA {W W':World} {b:Nat} {l:List Value} (e:W'=setCs W b 0 l) (hc:∀j,j<l.length→∃u,W.cell? ⟨b,j,none⟩=some u) (j:Nat) {v:Value} (h:l[j]? =some v):W'.cell? ⟨b,j,none⟩=some v:=e ▸ setCs_all hc j v h
theorem xsO {W W':World} {b i:Nat} {l:List Value} (e:W'=setCs W b i l) {c j:Nat} (hp:c≠b):W.cell? ⟨c,j,none⟩=W'.cell? ⟨c,j,none⟩:=e ▸ (setCs_other (p:=⟨c,j,none⟩) hp l W i).symm
theorem xsF {W W':World} {b i:Nat} {l:List Value} (e:W'=setCs W b i l) {p:Addr}:W.frozen? p=W'.frozen? p:=e ▸ (setCs_frozen' l W i).symm
theorem xsZ {W W':World} {b i k:Nat} {l:List Value} (e:W'=setCs W b i l) (h:k<W.heap.size):k<W'.heap.size:=e ▸ Nat.lt_of_lt_of_eq h (setCs_size' l W i).symm
end
section
open Go.RowKit Go.Shelf Go.Sort
theorem Even_core (seg:Int) (wa ka va ca:Option Addr) (wc kc vc cc lw n lv lc:Nat) (laid:Int) (lo hi:Int) (L:List (Int×Int)) (d:SlC) (w:World)
    (PR:Hid (∀W,Below w.heap.size w W→Calls Tryz.prog 26 #[.agg #[.int .i64 seg,.slice wa lw wc,.slice ka n kc,.slice va lv vc,.slice ca lc cc,.int .u64 laid],.int .i64 lo,.int .i64 hi] W (FreshPr2 W L (.int .i64 0))))
    (OV:Hid (∀la pl W,Below w.heap.size w W→IsRow .i64 W la (prI L)→Calls Tryz.prog 56 #[.agg #[.int .i64 seg,.slice wa lw wc,.slice ka n kc,.slice va lv vc,.slice ca lc cc,.int .u64 laid],.int .i64 lo,.int .i64 hi,.slice la L.length pl] W (FreshSl2 W d (.int .i64 0)))):
    Calls Tryz.prog 36 #[.agg #[.int .i64 seg,.slice wa lw wc,.slice ka n kc,.slice va lv vc,.slice ca lc cc,.int .u64 laid],.int .i64 lo,.int .i64 hi] w (FreshSl2 w d (.int .i64 0)):=by
 go_enter Tryz.func36,Tryz.ntmps36
 go_wp2_with fail
 refine (PR.out _ xbel).mono ?_;rintro e w1 ⟨v,rfl,ho1,hb1⟩;have hz_w1:=hb1.size;try simp only [World.size_alloc,World.size_setCell] at hz_w1
 have hh:=bc6 hb1 (au6 (al6 (b:=w.heap.size) (by simp)));obtain ⟨c_t0,c_t1,c_t2,c_t3,c_t4,c_t5⟩:=hh;have z_t:=blt hb1 (auz (alz (b:=w.heap.size) (by simp)));have hh:=bc6 hb1 (al6 (b:=w.heap.size+1) (by simp));obtain ⟨c_r0,c_r1,c_r2,c_r3,c_r4,c_r5⟩:=hh;have hh:=bf6 hb1 (alz (b:=w.heap.size+1) (by simp)) (alf6 (b:=w.heap.size+1) (by simp));obtain ⟨f_r0,f_r1,f_r2,f_r3,f_r4,f_r5⟩:=hh;have z_r:=blt hb1 (alz (b:=w.heap.size+1) (by simp));have hB1:Below w.heap.size w w1:=xbel;have hza:=z_r;obtain ⟨la,pl,rfl,hi1,-,-,-,-⟩:=row_of_owns ho1;have OV1:=hid (OV.out la pl w1 hB1 hi1);have HB1:=hid hB1;clear hb1 hB1 ho1 hi1;go_wp2_with fail
 refine (OV1.out).mono ?_;rintro e w2 ⟨v1,v2,v3,v4,rfl,p1,p2,p3,p4,hb2⟩;have hz_w2:=hb2.size;simp (disch:=omega) only [xcl hb2,xfr hb2] at c_t0 c_t1 c_t2 c_t3 c_t4 c_t5 c_r0 c_r1 c_r2 c_r3 c_r4 c_r5 f_r0 f_r1 f_r2 f_r3 f_r4 f_r5;replace z_t:=blt hb2 z_t;replace z_r:=blt hb2 z_r;have hB2:=below_via hb2 HB1.out HB1.out.size;obtain ⟨a1,k1,rfl,-,-,-,-,-⟩:=row_of_owns p1;obtain ⟨a2,k2,rfl,-,-,-,-,-⟩:=row_of_owns p2;obtain ⟨a3,k3,rfl,-,-,-,-,-⟩:=row_of_owns p3;obtain ⟨a4,k4,rfl,-,-,-,-,-⟩:=row_of_owns p4;have HP:=hid (And.intro p1 (And.intro p2 (And.intro p3 p4)));clear p1 p2 p3 p4 hb2;have hz1:w.heap.size+1<w1.heap.size:=hza;go_wp2
 have HC:=hid (six_some ⟨c_r0,c_r1,c_r2,c_r3,c_r4,c_r5⟩);refine bodyPost_ret (results_ct rfl rfl (run_loadVar_many _ Tryz.underlying29 rfl xk (setCs_all (W:=w2) (b:=w.heap.size+1) (l:=[.int .i64 d.seg,.slice a1 d.ws.length k1,.slice a2 d.ks.length k2,.slice a3 d.vs.length k3,.slice a4 d.cs.length k4,.int .u64 d.laid]) HC.out))) rfl ⟨_,_,_,_,rfl,?_,?_,?_,?_,?_⟩
 · exact owns_base (setCs_owns (b:=w.heap.size+1) (i:=0) hz1 [.int .i64 d.seg,.slice a1 d.ws.length k1,.slice a2 d.ks.length k2,.slice a3 d.vs.length k3,.slice a4 d.cs.length k4,.int .u64 d.laid] HP.out.1) xo
 · exact owns_base (setCs_owns (b:=w.heap.size+1) (i:=0) hz1 [.int .i64 d.seg,.slice a1 d.ws.length k1,.slice a2 d.ks.length k2,.slice a3 d.vs.length k3,.slice a4 d.cs.length k4,.int .u64 d.laid] HP.out.2.1) xo
 · exact owns_base (setCs_owns (b:=w.heap.size+1) (i:=0) hz1 [.int .i64 d.seg,.slice a1 d.ws.length k1,.slice a2 d.ks.length k2,.slice a3 d.vs.length k3,.slice a4 d.cs.length k4,.int .u64 d.laid] HP.out.2.2.1) xo
 · exact owns_base (setCs_owns (b:=w.heap.size+1) (i:=0) hz1 [.int .i64 d.seg,.slice a1 d.ws.length k1,.slice a2 d.ks.length k2,.slice a3 d.vs.length k3,.slice a4 d.cs.length k4,.int .u64 d.laid] HP.out.2.2.2) xo
 · exact setCs_below (b:=w.heap.size+1) xo [.int .i64 d.seg,.slice a1 d.ws.length k1,.slice a2 d.ks.length k2,.slice a3 d.vs.length k3,.slice a4 d.cs.length k4,.int .u64 d.laid] _ 0 hB2
end
section
open Go.RowKit
section
variable {P:Program}
theorem run_append_full (w:World) (base:Nat) (t ty e:TypeId) (z:Value) (size bytes:Nat) (ht:P.underlying t=some (.slice e))
    (hinfo:(P.info? e).map (fun i=>(i.zero,i.size,i.bytes))=some (some z,size,bytes)) (hzs:z.cells.size=size) (hsz:0<size)
    (bo:Option Addr) (n:Nat) (xs:List Value) (hlo:xs.length=n*size) (hb0:bo=none→n=0) (holds:∀b,bo=some b→∀j u,xs[j]? =some u→w.cell? (b.add j)=some u)
    (ad:Addr) (m c:Nat) (news:List Value) (hl:news.length=m*size) (hnews:∀j u,news[j]? =some u→w.cell? (ad.add j)=some u) (h1:∀u ∈ news,u.oneCell'=true)
    (hm:0<m) (h63:n+m≤4294967296) (hbytes:bytes≤1024) (hbase:base≤w.heap.size):
    ∃ v' w',(Builtin.append_ #[t,t] ty #[.slice bo n n,.slice (some ad) m c]).run P w= .ok v' w'∧w'.ownsRow base e size v' (n+m) (xs++news)∧w.grownBy w' none∧
      (∀k,v'.ownBlock=some k→w.heap.size≤k):=by
 have hm1:n+m≤maxLen:=by unfold maxLen;omega
 have hm2:(n+m)*bytes≤140737488355328:=Nat.le_trans (Nat.mul_le_mul h63 hbytes) (by decide);cases bo with
 | none=>
  obtain rfl:=hb0 rfl;have hx:xs=[]:=List.eq_nil_of_length_eq_zero (by simpa using hlo);subst hx;obtain ⟨v',w',hr,ho,hg,hv⟩:=run_append_x (P:=P) w base t ty e z size bytes ht hinfo hzs hsz (.slice none 0 0) 0 [] (World.ownsRow_nil w _ e size) (some ad) m c news hl xzc (fun a h=>by cases h;exact hnews) h1 h63 hbytes hbase;refine ⟨v',w',hr,ho,hg,?_⟩;intro k hk;rcases hv with hv|hv
  · rw [hk] at hv;cases hv
  · exact hv k hk
 | some b=>
  obtain ⟨i,hi,hz,hs,hb⟩:=info_parts hinfo;have hr:=run_append_grow (P:=P) w t ty e i z ht hi hz b n n xs (by rw [hs];exact hlo) (holds b rfl) ad m c news (by rw [hs];exact hl) hnews xo xo (growslice_fits xo (by rw [hb];exact hm2));have hge:=grownCap_ge w (n+m) n e;have hcm:grownCap w (n+m) n e≤maxLen:=grownCap_le_maxLen w (n+m) n e hm1;have hlen:(xs++news).length=(n+m)*size:=by rw [List.length_append,hlo,hl,Nat.add_mul]
  refine ⟨_,_,hr,⟨hlen,.inr ⟨w.heap.size,_,_,rfl,hbase,heap_alloc_new w.drew _,hge,hcm,?_,?_⟩⟩,⟨rfl,rfl,rfl,by simp,fun k hk _=>heap_alloc_old w.drew _ hk⟩,fun k hk=>by cases hk;exact Nat.le_refl _⟩
  · simp only [Array.size_append,List.size_toArray,size_zeroCells,hzs,hlo,hl,←Nat.add_mul];congr 1
    omega
  · simp only [Array.toList_append,List.append_assoc];rw [←List.append_assoc,←hlen];exact List.take_left
end
end
section
open Go.RowKit
theorem cntW_add (ws:List Int) {a b d:Nat} (h1:a≤b) (h2:b≤d):cntW ws a d=cntW ws a b+cntW ws b d:=by
 unfold cntW;rw [←List.countP_append];congr 1
 have e:List.range' a (b-a)++List.range' b (d-b)=List.range' a (d-a):=by
  have:=List.range'_append (s:=a) (m:=b-a) (n:=d-b) (step:=1);rw [show a+1*(b-a)=b by omega,show b-a+(d-b)=d-a by omega] at this;exact this
 rw [e]
theorem sumC_cnt {c:SlC} {S lw n lc:Nat} (h:SlGd c S lw n lc) (a:Nat):∀d,a+d≤lc→sumC c.cs a (a+d)=(cntW c.ws (a*S) ((a+d)*S):Int)
  | 0,_=>by rw [Nat.add_zero,sumC_nil,cntW_none (Nat.le_refl _)];rfl
  | d+1,hd=>by
   have ih:=sumC_cnt h a d xo;have e:=cntW_add c.ws (a:=a*S) (b:=(a+d)*S) (d:=(a+d+1)*S) (Nat.mul_le_mul_right _ xo) (Nat.mul_le_mul_right _ xo);rw [←Nat.add_assoc,sumC_succ c.cs xo,ih,h.cnt (a+d) xo,e];push_cast
   rfl
theorem sumC_cnt2 {c:SlC} {S lw n lc:Nat} (h:SlGd c S lw n lc) {a b:Nat} (hab:a≤b) (hb:b≤lc):sumC c.cs a b=(cntW c.ws (a*S) (b*S):Int):=by
 have:=sumC_cnt h a (b-a) xo;rwa [show a+(b-a)=b by omega] at this
end
section
open Go.RowKit Go.Shelf
attribute [local go_sem] Oper.semAt_some
end
end Go.Proofs.YtookgoidlnlckaaGreatDoor

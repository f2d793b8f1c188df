/- Merged: Filled, Empty04, Spr, LoadW, GapLd, PmSz, PmGet, NthPl, WndPl. -/
import Derived.Test.YtmnlagmmbfjbeaaGreatDoorPmaTurnsP14
import Derived.Test.YtmnlagmmbfjbeaaGreatDoorPmaTurnsP3
import Derived.Test.YtmnlagmmbfjbeaaGreatDoorPmaTurnsP8
import Derived.Test.YtmnlagmmbfjbeaaGreatDoorPmaTurnsP1
import Derived.Deep.CutRange
import Derived.Test.YtmnlagmmbfjbeaaGreatDoorPmaTurnsP11
import Derived.Test.YtmnlagmmbfjbeaaGreatDoorPmaTurnsP7
import Derived.Test.YtmnlagmmbfjbeaaGreatDoorPmaTurnsP4
import Derived.Test.YtmnlagmmbfjbeaaGreatDoorPmaTurnsP12
import Derived.Test.YtmnlagmmbfjbeaaGreatDoorPmaTurnsP5
import Derived.Test.YtmnlagmmbfjbeaaGreatDoorPmaTurnsP10
import Derived.Test.YtmnlagmmbfjbeaaGreatDoorPmaTurnsP13
import Derived.Test.YtmnlagmmbfjbeaaGreatDoorPmaTurnsP2
namespace Go.Proofs.YtmnlagmmbfjbeaaGreatDoor
set_option maxRecDepth 100000
set_option maxHeartbeats 40000000
set_option linter.unusedVariables false
set_option linter.unusedSimpArgs false
section
open Go.RowKit Go.Shelf
attribute [local go_sem] Oper.semAt_some
structure FilK (w w2 W:World):Prop where
 bel:Below w.heap.size w W
 keep:∀q,q<w.heap.size+2→q≠w.heap.size→W.heap[q]? =w2.heap[q]?
 size:w.heap.size+2≤W.heap.size
theorem FilK.below {w w2 W W':World} (h:FilK w w2 W) (hb:Below W.heap.size W W'):FilK w w2 W':=
  ⟨below_via hb h.bel (by have:=h.size;omega),fun q hq hne=>(hb.block q (by have:=h.size;omega)).trans (h.keep q hq hne),Nat.le_trans h.size hb.size⟩
theorem FilK.drew {w w2 W:World} (h:FilK w w2 W):FilK w w2 W.drew:=⟨h.bel.drew,h.keep,h.size⟩
theorem FilK.setCell {w w2 W:World} (h:FilK w w2 W) {a:Addr} (ha:a.block=w.heap.size∨w.heap.size+2≤a.block) (v:Value):FilK w w2 (W.setCell a v):=
  ⟨h.bel.setCell xo v,fun q hq hne=>(heap_setCell_ne _ _ _ xo).trans (h.keep q hq hne),by rw [World.size_setCell];exact h.size⟩
theorem trnL_length (ws:List Int) (i:Nat) (b:Bool):(trnL ws i b).length=ws.length:=by rw [trnL_set,List.length_set]
theorem Filled_core (w:World) (seg:Int) (wa ka va ca:Option Addr) (wc kc vc cc lw n lc:Nat) (laid:Int) (c:SlC) (lo hi m S:Nat) (ps:List Nat) (L:List (Int×Int)) (pa la:Option Addr) (pc pl:Nat)
    (hgd:SlGd c S lw n lc) (hlw:0<lw) (hlc:0<lc) (hlw2:lw≤2000) (hlo:lo≤hi) (hhi:hi≤n) (hps:ps.length=m) (hL:L.length=m) (hm:m≤65536)
    (hp:∀k,ps.getD k 0<n) (hfree:∀k,k<m→bitW (lys (tks c lo (hi-lo)) ps L k).ws (ps.getD k 0)=false)
    (HP:Hid (IsRow .i64 w pa (ints ps))) (HL:Hid (IsRow .i64 w la (prI L)))
    (TW:Hid (∀W,Below w.heap.size w W→Calls Tryz.prog 24 #[.agg #[.int .i64 seg,.slice wa lw wc,.slice ka n kc,.slice va n vc,.slice ca lc cc,.int .u64 laid]] W (FreshSlN W c))):
    Calls Tryz.prog 157 #[.agg #[.int .i64 seg,.slice wa lw wc,.slice ka n kc,.slice va n vc,.slice ca lc cc,.int .u64 laid],.int .i64 lo,.int .i64 hi,.slice pa m pc,.slice la m pl] w (FreshSl w (lys (tks c lo (hi-lo)) ps L m)):=by
 have HGD:=hid hgd;have HPN:=hid hp;have HFR:=hid hfree;have HPS:=hid hps;have HLL:=hid hL;have hn6:=hgd.nm;have hn1:=hgd.n1;have hS4:=hgd.s4;have hcn:=hgd.cn;have hwn:=hgd.wn;have hS64:=hgd.s64;have hLc:lc≤65536:=by
  have h9:1*lc≤S*lc:=Nat.mul_le_mul_right _ xo;omega
 have HCN:=hid hcn;clear hgd hp hfree hps hL hcn;go_enter Tryz.func157,Tryz.ntmps157
 go_wp2_with fail
 refine (TW.out _ xbel).mono ?_;rintro e w1 ⟨v1,v2,v3,v4,rfl,o1,o2,o3,o4,hb1,hne⟩;have hz_w1:=hb1.size;try simp only [World.size_alloc,World.size_setCell] at hz_w1
 have hh:=bc6 hb1 (au6 (al6 (b:=w.heap.size) xsi));obtain ⟨c_t0,c_t1,c_t2,c_t3,c_t4,c_t5⟩:=hh;have hh:=bf6 hb1 (auz (alz (b:=w.heap.size) xsi)) (auf6 (alz (b:=w.heap.size) xsi) (alf6 (b:=w.heap.size) xsi));obtain ⟨f_t0,f_t1,f_t2,f_t3,f_t4,f_t5⟩:=hh;have z_t:=blt hb1 (auz (alz (b:=w.heap.size) xsi));have hh:=bc6 hb1 (al6 (b:=w.heap.size+1) xsi);obtain ⟨c_r0,c_r1,c_r2,c_r3,c_r4,c_r5⟩:=hh;have hh:=bf6 hb1 (alz (b:=w.heap.size+1) xsi) (alf6 (b:=w.heap.size+1) xsi);obtain ⟨f_r0,f_r1,f_r2,f_r3,f_r4,f_r5⟩:=hh;have z_r:=blt hb1 (alz (b:=w.heap.size+1) xsi);have hB1:Below w.heap.size w w1:=xbel;have hz1:w.heap.size+2≤w1.heap.size:=xo;obtain ⟨g1,k1,rfl,hg1,-⟩:=owns_at o1 (by rw [HGD.out.elw];exact hlw);obtain ⟨g2,k2,rfl,hg2,-⟩:=owns_at o2 (by rw [HGD.out.elk];omega);obtain ⟨g3,k3,rfl,hg3,-⟩:=owns_at o3 (by rw [HGD.out.elv];omega);obtain ⟨g4,k4,rfl,hg4,-⟩:=owns_at o4 (by rw [HGD.out.elc];exact hlc);rw [HGD.out.elw] at o1;rw [HGD.out.elk] at o2;rw [HGD.out.elv] at o3;rw [HGD.out.elc] at o4;have n23:g2≠g3:=hne g2 g3 rfl rfl;rw [HGD.out.elw,HGD.out.elk,HGD.out.elv,HGD.out.elc];go_upto_region 2 with (fail)
 have hsx:=six_set (x:= .int .i64 c.seg) (y:= .slice (some ⟨g1,0,none⟩) lw k1) (z:= .slice (some ⟨g2,0,none⟩) n k2) (p:= .slice (some ⟨g3,0,none⟩) n k3) (q:= .slice (some ⟨g4,0,none⟩) lc k4) (r:= .int .u64 c.laid) c_t0 c_t1 c_t2 c_t3 c_t4 c_t5;have hfz:∀a:Addr,((((((w1.setCell ⟨w.heap.size,0,none⟩ (.int .i64 c.seg)).setCell ⟨w.heap.size,1,none⟩ (.slice (some ⟨g1,0,none⟩) lw k1)).setCell ⟨w.heap.size,2,none⟩ (.slice (some ⟨g2,0,none⟩) n k2)).setCell ⟨w.heap.size,3,none⟩ (.slice (some ⟨g3,0,none⟩) n k3)).setCell ⟨w.heap.size,4,none⟩ (.slice (some ⟨g4,0,none⟩) lc k4)).setCell ⟨w.heap.size,5,none⟩ (.int .u64 c.laid)).frozen? a=w1.frozen? a:=fun a=>by
  rw [World.frozen?_setCell,World.frozen?_setCell,World.frozen?_setCell,World.frozen?_setCell,World.frozen?_setCell,World.frozen?_setCell]
 clear c_t0 c_t1 c_t2 c_t3 c_t4 c_t5;generalize hw2:(((((w1.setCell ⟨w.heap.size,0,none⟩ (.int .i64 c.seg)).setCell ⟨w.heap.size,1,none⟩ (.slice (some ⟨g1,0,none⟩) lw k1)).setCell ⟨w.heap.size,2,none⟩ (.slice (some ⟨g2,0,none⟩) n k2)).setCell ⟨w.heap.size,3,none⟩ (.slice (some ⟨g3,0,none⟩) n k3)).setCell ⟨w.heap.size,4,none⟩ (.slice (some ⟨g4,0,none⟩) lc k4)).setCell ⟨w.heap.size,5,none⟩ (.int .u64 c.laid)=w2 at *;have c_t0:=hsx 0 _ rfl;have c_t1:=hsx 1 _ rfl;have c_t2:=hsx 2 _ rfl;have c_t3:=hsx 3 _ rfl;have c_t4:=hsx 4 _ rfl;have c_t5:=hsx 5 _ rfl;replace f_t1:=(hfz _).trans f_t1;replace f_t5:=(hfz _).trans f_t5;clear hsx;have hne2:∀q,q≠w.heap.size→w2.heap[q]? =w1.heap[q]? :=fun q hq=>by
  rw [←hw2,heap_setCell_ne _ _ _ hq,heap_setCell_ne _ _ _ hq,heap_setCell_ne _ _ _ hq,heap_setCell_ne _ _ _ hq,heap_setCell_ne _ _ _ hq,heap_setCell_ne _ _ _ hq]
 have hz2:w2.heap.size=w1.heap.size:=by rw [←hw2];simp
 have HK2:Hid (FilK w w2 w2):=hid ⟨by rw [←hw2];exact (((((hB1.setCell (Nat.le_refl _) _).setCell (Nat.le_refl _) _).setCell (Nat.le_refl _) _).setCell (Nat.le_refl _) _).setCell (Nat.le_refl _) _).setCell (Nat.le_refl _) _,fun _ _ _=>rfl,by omega⟩;have HF2:Hid (FilS (w.heap.size+2) w2 w.heap.size g1 g2 g3 g4 k1 k2 k3 k4 lw n lc c):=hid ⟨c_t0,c_t1,c_t2,c_t3,c_t4,c_t5,f_t1,f_t5,
   owns_heap (owns_base o1 xsi) fun j hj=>by cases hj;exact hne2 _ (by dsimp only;simp at hg1;omega),
   owns_heap (owns_base o2 xsi) fun j hj=>by cases hj;exact hne2 _ (by dsimp only;simp at hg2;omega),
   owns_heap (owns_base o3 xsi) fun j hj=>by cases hj;exact hne2 _ (by dsimp only;simp at hg3;omega),
   owns_heap (owns_base o4 xsi) fun j hj=>by cases hj;exact hne2 _ (by dsimp only;simp at hg4;omega),by omega,n23⟩
 have hrb:w2.heap[w.heap.size+1]? =w1.heap[w.heap.size+1]? :=hne2 _ xo;have rc:∀k,w2.cell? ⟨w.heap.size+1,k,none⟩=w1.cell? ⟨w.heap.size+1,k,none⟩:=fun k=>World.cell?_of_block (a:=⟨w.heap.size+1,k,none⟩) hrb
 have HR2:=hid (And.intro ((rc 0).trans c_r0) (And.intro ((rc 1).trans c_r1) (And.intro ((rc 2).trans c_r2) (And.intro ((rc 3).trans c_r3) (And.intro ((rc 4).trans c_r4) (And.intro ((rc 5).trans c_r5) (And.intro ((hfz _).trans f_r0) (And.intro ((hfz _).trans f_r1) (And.intro ((hfz _).trans f_r2) (And.intro ((hfz _).trans f_r3) (And.intro ((hfz _).trans f_r4) ((hfz _).trans f_r5))))))))))));replace hg2:w.heap.size+2≤g2:=by simpa using hg2
 replace hg3:w.heap.size+2≤g3:=by simpa using hg3
 replace hg4:w.heap.size+2≤g4:=by simpa using hg4
 clear hw2 hfz hrb rc hne2 o1 o2 o3 o4 hne hb1 hB1 hg1 c_t0 c_t1 c_t2 c_t3 c_t4 c_t5 f_t0 f_t1 f_t2 f_t3 f_t4 f_t5 c_r0 c_r1 c_r2 c_r3 c_r4 c_r5 f_r0 f_r1 f_r2 f_r3 f_r4 f_r5 TW;go_wp2
 go_loopg [11] (hi-lo) (fun gk iv wr=>∃i g1 k1:Nat,i+gk=hi∧lo≤i∧iv= .int .i64 i∧Hid (FilS (w.heap.size+2) wr w.heap.size g1 g2 g3 g4 k1 k2 k3 k4 lw n lc (tks c lo (i-lo)))∧Hid (FilK w w2 wr))
 case atStart=>exact ⟨lo,g1,k1,by omega,Nat.le_refl _,rfl,by rw [Nat.sub_self];exact HF2,HK2⟩
 case round=>
  clear HF2 HK2;obtain ⟨i,g1,k1,hi',hli,rfl,HF,HK⟩:=hrel;by_cases hlt:i<hi
  · have GD:SlGd (tks c lo (i-lo)) S lw n lc:=SlGd.tks HGD.out (i-lo) xo;have hnx:tks c lo (i+1-lo)=rtC (tks c lo (i-lo)) i:=by
     rw [rtC_eq GD.u,show i+1-lo=(i-lo)+1 by omega,tks,show lo+(i-lo)=i by omega]
    have HNX:=hid hnx;have hu:=GD.u;have hel:=GD.elw;have hcs:=GD.cnt;have hsg:=GD.seg;generalize tks c lo (i-lo)=d at *;clear GD hnx;obtain ⟨dseg,dws,dks,dvs,dcs,dlaid⟩:=d;dsimp only at hu hel hcs hsg;subst hsg;have HI:=hid hi';clear hi';obtain ⟨s,hs⟩:∃s,i/S=s:=⟨_,rfl⟩
    have hsl:s<lc:=by rw [←hs];exact Nat.div_lt_of_lt_mul (by rw [←HCN.out];omega)
    have hsT:(i:Int).tdiv (S:Int)=s:=by rw [Int.tdiv_eq_ediv_of_nonneg xo,←Int.natCast_ediv,hs]
    have hsw:IntKind.i64.wrap (s:Int)=s:=IntWalk.i64_in _ xo;have hs0:((S:Int)==0)=false:=by simp;omega
    have hs1:¬(S:Int)=0:=xo;have hs2:¬S=0:=xo;have hxn:i<n:=xo;have hcn:=hcs s hsl;have hcl:=cntW_le dws (s*S) ((s+1)*S);rw [win_wd] at hcl;obtain ⟨nx,hnx⟩:∃nx,dcs.getD s 0=nx:=⟨_,rfl⟩
    rw [hnx] at hcn;have hnw:IntKind.i64.wrap (nx-1)=nx-1:=IntWalk.i64_in _ xo;have HST:=hid (And.intro hs hnx);have hib:i/64<lw:=xo;clear hs hcs hcn hcl;obtain ⟨c0,c1,c2,c3,c4,c5,f1,f5,o1,o2,o3,o4,-,-⟩:=HF.out;dsimp only at c0 c1 c2 c3 c4 c5 o1 o2 o3 o4;obtain ⟨d4,e4⟩:=own_cells o4 (j:=s) hsl;obtain ⟨d2,e2⟩:=own_cells o2 (j:=i) hxn;obtain ⟨d3,e3⟩:=own_cells o3 (j:=i) hxn;clear o2 o3 o4;obtain ⟨_,_,he,R0,-⟩:=row_of_owns o1;cases he;have IS:=hid (fun W hb=>Is04_ok (S:Int) (some ⟨g1,0,none⟩) (some ⟨g2,0,none⟩) (some ⟨g3,0,none⟩) (some ⟨g4,0,none⟩) k1 k2 k3 k4 lw n n lc dlaid dws hel hu i hib xo W (R0.below hb));have PUT:=hid (fun bt hbt W hw=>Put02_ok (some ⟨g1,0,none⟩) k1 dws hu i (by rw [hel];exact hib) xo bt hbt W hw);rw [hel] at PUT;clear R0;go_wp2_with fail
    refine (IS.out _ br).mono ?_;rintro e w3 ⟨rfl,hb3⟩;have HF3:=hid (HF.out.below hb3);have HK3:=hid (HK.out.below hb3);clear hb3 IS;clear c0 c1 c2 c3 c4 c5 f1 f5 o1 d2 d3 d4 e2 e3 e4;cases hbt:bitW dws i with
    | true=>
     obtain ⟨c0,c1,c2,c3,c4,c5,f1,f5,o1,o2,o3,o4,-,-⟩:=HF3.out;dsimp only at c0 c1 c2 c3 c4 c5 o1 o2 o3 o4;obtain ⟨d4,e4⟩:=own_cells o4 (j:=s) hsl;obtain ⟨d2,e2⟩:=own_cells o2 (j:=i) hxn;obtain ⟨d3,e3⟩:=own_cells o3 (j:=i) hxn;clear o2 o3 o4;rw [hnx] at d4;go_upto_region 6 with (fail)
     go_still_tail 10,xk
     go_upto_region 7 with (fail)
     have HF4:=hid ((HF3.out.setN s (nx-1)).drew);have HK4:=hid ((HK3.out.setCell (a:=⟨g4,s,none⟩) (.inr hg4) (.int .i64 (nx-1))).drew);generalize (w3.setCell ⟨g4,s,none⟩ (.int .i64 (nx-1))).drew=w4 at *;clear HF3 HK3;clear c0 c1 c2 c3 c4 c5 f1 f5 o1 d2 d3 d4 e2 e3 e4;obtain ⟨c0,c1,c2,c3,c4,c5,f1,f5,o1,o2,o3,o4,-,-⟩:=HF4.out;dsimp only at c0 c1 c2 c3 c4 c5 o1 o2 o3 o4;obtain ⟨d4,e4⟩:=own_cells o4 (j:=s) hsl;obtain ⟨d2,e2⟩:=own_cells o2 (j:=i) hxn;obtain ⟨d3,e3⟩:=own_cells o3 (j:=i) hxn;clear o2 o3 o4;obtain ⟨_,_,he,R4,-⟩:=row_of_owns o1;cases he;have P4:=hid (PUT.out false (by rw [hbt];rfl) w4 R4);clear R4 PUT;go_wp2_with fail
     refine P4.out.mono ?_;rintro e w5 ⟨v,rfl,ho,hb5⟩;rw [trnL_length,hel] at ho;obtain ⟨g,kk,rfl,hg,-⟩:=owns_at ho hlw;have HF6:=hid (HF4.out.setW hb5 ho HK4.out.size);have HK6:=hid ((HK4.out.below hb5).setCell (a:=⟨w.heap.size,1,none⟩) (.inl rfl) (.slice (some ⟨g,0,none⟩) lw kk));have HF5:=hid (HF4.out.below hb5);clear ho hg hb5 P4;clear c0 c1 c2 c3 c4 c5 f1 f5 o1 d2 d3 d4 e2 e3 e4;obtain ⟨c0,c1,c2,c3,c4,c5,f1,f5,o1,o2,o3,o4,-,-⟩:=HF5.out;dsimp only at c0 c1 c2 c3 c4 c5 o1 o2 o3 o4;obtain ⟨d4,e4⟩:=own_cells o4 (j:=s) hsl;obtain ⟨d2,e2⟩:=own_cells o2 (j:=i) hxn;obtain ⟨d3,e3⟩:=own_cells o3 (j:=i) hxn;clear o2 o3 o4;go_upto_region 8 with (fail)
     generalize w5.setCell ⟨w.heap.size,1,none⟩ (.slice (some ⟨g,0,none⟩) lw kk)=w6 at *;clear HF5;clear c0 c1 c2 c3 c4 c5 f1 f5 o1 d2 d3 d4 e2 e3 e4;obtain ⟨c0,c1,c2,c3,c4,c5,f1,f5,o1,o2,o3,o4,-,-⟩:=HF6.out;dsimp only at c0 c1 c2 c3 c4 c5 o1 o2 o3 o4;obtain ⟨d4,e4⟩:=own_cells o4 (j:=s) hsl;obtain ⟨d2,e2⟩:=own_cells o2 (j:=i) hxn;obtain ⟨d3,e3⟩:=own_cells o3 (j:=i) hxn;clear o2 o3 o4;go_upto_region 9 with (fail)
     have YF7:=hid (HF6.out.setK i 0);have YK7:=hid (HK6.out.setCell (a:=⟨g2,i,none⟩) (.inr hg2) (.int .i64 0));generalize w6.setCell ⟨g2,i,none⟩ (.int .i64 0)=w7 at *;clear c0 c1 c2 c3 c4 c5 f1 f5 o1 d2 d3 d4 e2 e3 e4;obtain ⟨c0,c1,c2,c3,c4,c5,f1,f5,o1,o2,o3,o4,-,-⟩:=YF7.out;dsimp only at c0 c1 c2 c3 c4 c5 o1 o2 o3 o4;obtain ⟨d4,e4⟩:=own_cells o4 (j:=s) hsl;obtain ⟨d2,e2⟩:=own_cells o2 (j:=i) hxn;obtain ⟨d3,e3⟩:=own_cells o3 (j:=i) hxn;clear o2 o3 o4;go_wp2
     have YF8:=hid (YF7.out.setV i 0);have YK8:=hid (YK7.out.setCell (a:=⟨g3,i,none⟩) (.inr hg3) (.int .i64 0));go_roundg (gk-1)
     case measure=>have:=HI.out;omega
     case rel=>
      refine ⟨i+1,g,kk,by have:=HI.out;omega,by omega,by go_num,hid ?_,YK8⟩;rw [HNX.out,rtC,if_pos hbt];dsimp only;rw [Int.toNat_natCast,HST.out.1,HST.out.2];exact YF8.out
    | false=>
     go_upto_region 8 with (fail)
     obtain ⟨c0,c1,c2,c3,c4,c5,f1,f5,o1,o2,o3,o4,-,-⟩:=HF3.out;dsimp only at c0 c1 c2 c3 c4 c5 o1 o2 o3 o4;obtain ⟨d4,e4⟩:=own_cells o4 (j:=s) hsl;obtain ⟨d2,e2⟩:=own_cells o2 (j:=i) hxn;obtain ⟨d3,e3⟩:=own_cells o3 (j:=i) hxn;clear o2 o3 o4;go_upto_region 9 with (fail)
     have XF7:=hid (HF3.out.setK i 0);have XK7:=hid (HK3.out.setCell (a:=⟨g2,i,none⟩) (.inr hg2) (.int .i64 0));generalize w3.setCell ⟨g2,i,none⟩ (.int .i64 0)=w7 at *;clear c0 c1 c2 c3 c4 c5 f1 f5 o1 d2 d3 d4 e2 e3 e4;obtain ⟨c0,c1,c2,c3,c4,c5,f1,f5,o1,o2,o3,o4,-,-⟩:=XF7.out;dsimp only at c0 c1 c2 c3 c4 c5 o1 o2 o3 o4;obtain ⟨d4,e4⟩:=own_cells o4 (j:=s) hsl;obtain ⟨d2,e2⟩:=own_cells o2 (j:=i) hxn;obtain ⟨d3,e3⟩:=own_cells o3 (j:=i) hxn;clear o2 o3 o4;go_wp2
     have XF8:=hid (XF7.out.setV i 0);have XK8:=hid (XK7.out.setCell (a:=⟨g3,i,none⟩) (.inr hg3) (.int .i64 0));go_roundg (gk-1)
     case measure=>have:=HI.out;omega
     case rel=>
      refine ⟨i+1,g1,k1,by have:=HI.out;omega,by omega,by go_num,hid ?_,XK8⟩;rw [HNX.out,rtC,if_neg (by simp [hbt])];exact XF8.out
  · have hih:i=hi:=xo;subst hih;have HDL:=hid (show lo+(i-lo)≤n by omega);generalize i-lo=dl at *;clear hi' hli hlt hlo hhi;go_wp2
    go_loopg [12] m (fun gk iv wr2=>∃k g1 k1:Nat,k+gk=m∧iv= .int .i64 k∧Hid (FilS (w.heap.size+2) wr2 w.heap.size g1 g2 g3 g4 k1 k2 k3 k4 lw n lc (lys (tks c lo dl) ps L k))∧Hid (FilK w w2 wr2))
    case atStart=>exact ⟨0,g1,k1,by omega,rfl,HF,HK⟩
    case round=>
     clear HF HK;obtain ⟨k,g1,k1,hk,rfl,HF,HK⟩:=hrel;by_cases hlt:k<m
     · obtain ⟨bp,op,x',rfl,hx',cl0,zl⟩:=HP.out.get (i:=k) (by rw [ints_length,HPS.out];exact hlt);obtain ⟨bl,ol,rfl,q00,q10,zq⟩:=pr_get HL.out (i:=k) (by rw [HLL.out];exact hlt);obtain ⟨x,hx⟩:∃x,ps.getD k 0=x:=⟨_,rfl⟩
       have hxx:x'=(x:Int):=by rw [←hx'.out,getD_ints,hx]
       subst hxx;have hxn:x<n:=by rw [←hx];exact HPN.out k
       have GD:SlGd (lys (tks c lo dl) ps L k) S lw n lc:=SlGd.lys (HGD.out.tks dl HDL.out) HPN.out L k;have hfr:=HFR.out k hlt;rw [hx] at hfr;have hnx:lys (tks c lo dl) ps L (k+1)=rlC (lys (tks c lo dl) ps L k) x (L.getD k (0,0)).1 (L.getD k (0,0)).2:=by
        rw [rlC_eq GD.u hfr,lys,hx]
       have HNX:=hid hnx;have hu:=GD.u;have hel:=GD.elw;have hcs:=GD.cnt;have hsg:=GD.seg;generalize (L.getD k (0,0)).1=kx at *;generalize (L.getD k (0,0)).2=vx at *;generalize lys (tks c lo dl) ps L k=d at *;clear GD hnx hx hx';obtain ⟨dseg,dws,dks,dvs,dcs,dlaid⟩:=d;dsimp only at hu hel hcs hsg hfr;subst hsg;have HI:=hid hk;clear hk;obtain ⟨s,hs⟩:∃s,x/S=s:=⟨_,rfl⟩
       have hsl:s<lc:=by rw [←hs];exact Nat.div_lt_of_lt_mul (by rw [←HCN.out];omega)
       have hsT:(x:Int).tdiv (S:Int)=s:=by rw [Int.tdiv_eq_ediv_of_nonneg xo,←Int.natCast_ediv,hs]
       have hsw:IntKind.i64.wrap (s:Int)=s:=IntWalk.i64_in _ xo;have hs0:((S:Int)==0)=false:=by simp;omega
       have hs1:¬(S:Int)=0:=xo;have hs2:¬S=0:=xo;have hcn:=hcs s hsl;have hcl:=cntW_le dws (s*S) ((s+1)*S);rw [win_wd] at hcl;obtain ⟨nx,hnx⟩:∃nx,dcs.getD s 0=nx:=⟨_,rfl⟩
       rw [hnx] at hcn;have hnw:IntKind.i64.wrap (nx+1)=nx+1:=IntWalk.i64_in _ xo;have HST:=hid (And.intro hs hnx);have hib:x/64<lw:=xo;have PUT:=hid (fun W hw=>Put02_ok (some ⟨g1,0,none⟩) k1 dws hu x (by rw [hel];exact hib) xo true (by rw [hfr];rfl) W hw);have HTL:=hid ((trnL_length dws x true).trans hel);rw [hel] at PUT;clear hs hcs hcn hcl hfr hu hel;obtain ⟨c0,c1,c2,c3,c4,c5,f1,f5,o1,o2,o3,o4,-,-⟩:=HF.out;dsimp only at c0 c1 c2 c3 c4 c5 o1 o2 o3 o4;obtain ⟨d4,e4⟩:=own_cells o4 (j:=s) hsl;obtain ⟨d2,e2⟩:=own_cells o2 (j:=x) hxn;obtain ⟨d3,e3⟩:=own_cells o3 (j:=x) hxn;clear o2 o3 o4;have cl:=(HK.out.bel.cell (p:=⟨bp,op+k,none⟩) zl).trans cl0;have q0:=(HK.out.bel.cell (p:=⟨bl,ol+k*2,none⟩) zq).trans q00;have q1:=(HK.out.bel.cell (p:=⟨bl,ol+k*2+1,none⟩) zq).trans q10;rw [hnx] at d4;go_upto_region 13 with (fail)
       go_still_tail 13,xk
       go_upto_region 14 with (fail)
       have HF4:=hid ((HF.out.setN s (nx+1)).drew);have HK4:=hid ((HK.out.setCell (a:=⟨g4,s,none⟩) (.inr hg4) (.int .i64 (nx+1))).drew);generalize (wr.setCell ⟨g4,s,none⟩ (.int .i64 (nx+1))).drew=w4 at *;clear HF HK cl q0 q1;clear c0 c1 c2 c3 c4 c5 f1 f5 o1 d2 d3 d4 e2 e3 e4;obtain ⟨c0,c1,c2,c3,c4,c5,f1,f5,o1,o2,o3,o4,-,-⟩:=HF4.out;dsimp only at c0 c1 c2 c3 c4 c5 o1 o2 o3 o4;obtain ⟨d4,e4⟩:=own_cells o4 (j:=s) hsl;obtain ⟨d2,e2⟩:=own_cells o2 (j:=x) hxn;obtain ⟨d3,e3⟩:=own_cells o3 (j:=x) hxn;clear o2 o3 o4;have cl:=(HK4.out.bel.cell (p:=⟨bp,op+k,none⟩) zl).trans cl0;have q0:=(HK4.out.bel.cell (p:=⟨bl,ol+k*2,none⟩) zq).trans q00;have q1:=(HK4.out.bel.cell (p:=⟨bl,ol+k*2+1,none⟩) zq).trans q10;obtain ⟨_,_,he,R4',-⟩:=row_of_owns o1;cases he;have R4:=hid R4';have hz4:=HK4.out.size;have cl4:=cl;have zl4:bp<w4.heap.size:=xo;clear R4';refine wp_region_facts 7 xk (N:=103) rfl xk xk xdd (fun w'=>Below w4.heap.size w4 w') (Ext 29) (factAt [.is (.pointer (some ⟨w.heap.size,1,none⟩)),.is (.slice (some ⟨g1,0,none⟩) lw k1),.is (.slice (some ⟨bp,op,none⟩) m pc),.is (.int .i64 k),.is (.pointer (some ⟨bp,op+k,none⟩)),.is (.int .i64 x),.row w4.heap.size 27 xdd 1 lw ((trnL dws x true).map (Value.int .u64))]) (factAt_stays _) br.drew ?steps ?fin
       case steps=>
        refine ⟨?o0,?o1,?o2,?o3,?o4,?o5,?o6,trivial⟩
        case o0=>
         intro u a w' ev hJ hd K hK;have e5:tg a 5= .pointer (some ⟨w.heap.size,0,none⟩):=ev 5 xdd;have HK:=hid hK;clear hK ev hd;go_simp;exact HK.out _ _ xzc hJ rfl (Ext.refl _ _)
        case o1=>
         intro u a w' ev hJ hd K hK;have e66:tg a 66= .pointer (some ⟨w.heap.size,1,none⟩):=(ev 66 xdd).trans (hd 0 _ xk rfl);have g0:=(hJ.cell (p:=⟨w.heap.size,1,none⟩) (by have:=hz4;dsimp only;omega)).trans c1;have HK:=hid hK;clear hK ev hd;go_simp;exact HK.out _ _ xzc hJ rfl (Ext.refl _ _)
        case o2=>
         intro u a w' ev hJ hd K hK;have e3:tg a 3= .slice (some ⟨bp,op,none⟩) m pc:=ev 3 xdd;have HK:=hid hK;clear hK ev hd;go_simp;exact HK.out _ _ xzc hJ rfl (Ext.refl _ _)
        case o3=>
         intro u a w' ev hJ hd K hK;have e12:tg a 12= .int .i64 k:=ev 12 xdd;have HK:=hid hK;clear hK ev hd;go_simp;exact HK.out _ _ xzc hJ rfl (Ext.refl _ _)
        case o4=>
         intro u a w' ev hJ hd K hK;have e68:tg a 68= .slice (some ⟨bp,op,none⟩) m pc:=(ev 68 xdd).trans (hd 2 _ xk rfl);have e69:tg a 69= .int .i64 k:=(ev 69 xdd).trans (hd 3 _ xk rfl);have HK:=hid hK;clear hK ev hd;go_simp;exact HK.out _ _ xzc hJ rfl (Ext.refl _ _)
        case o5=>
         intro u a w' ev hJ hd K hK;have e70:tg a 70= .pointer (some ⟨bp,op+k,none⟩):=(ev 70 xdd).trans (hd 4 _ xk rfl);have g0:=xjc hJ cl4;have HK:=hid hK;clear hK ev hd;go_simp;exact HK.out _ _ xzc hJ rfl (Ext.refl _ _)
        case o6=>
         intro u a w' ev hJ hd K hK;have e67:tg a 67= .slice (some ⟨g1,0,none⟩) lw k1:=(ev 67 xdd).trans (hd 1 _ xk rfl);have e71:tg a 71= .int .i64 x:=(ev 71 xdd).trans (hd 5 _ xk rfl);have HK':=hid hK;have PT:=hid (PUT.out w' (R4.out.below hJ));have hzJ:=hJ.size;have HJ:=hid hJ;clear hK ev hd hJ;go_simp;refine PT.out.mono ?_;rintro e w'' ⟨v,rfl,ho,hb⟩;rw [HTL.out] at ho;exact HK'.out _ _ xzc (HJ.out.trans (hb.mono hzJ)) (owns_base ho hzJ) (Ext.below hb)
       case fin=>
        intro u w5 hJ hG;have ho:w5.ownsRow w4.heap.size 27 1 (u 72) lw ((trnL dws x true).map (Value.int .u64)):=hG 6 _ rfl;obtain ⟨g,kk,h72,hg,-⟩:=owns_at ho hlw;have h66:u 66= .pointer (some ⟨w.heap.size,1,none⟩):=hG 0 _ rfl;rw [h72] at ho;have HF6:=hid (HF4.out.setW hJ ho HK4.out.size);have HK6:=hid ((HK4.out.below hJ).setCell (a:=⟨w.heap.size,1,none⟩) (.inl rfl) (.slice (some ⟨g,0,none⟩) lw kk));have HF5:=hid (HF4.out.below hJ);clear ho hg hJ hG PUT R4 cl4 cl q0 q1;clear c0 c1 c2 c3 c4 c5 f1 f5 o1 d2 d3 d4 e2 e3 e4;obtain ⟨c0,c1,c2,c3,c4,c5,f1,f5,o1,o2,o3,o4,-,-⟩:=HF5.out;dsimp only at c0 c1 c2 c3 c4 c5 o1 o2 o3 o4;obtain ⟨d4,e4⟩:=own_cells o4 (j:=s) hsl;obtain ⟨d2,e2⟩:=own_cells o2 (j:=x) hxn;obtain ⟨d3,e3⟩:=own_cells o3 (j:=x) hxn;clear o2 o3 o4;simp only [mixFrame,mixL,dstsOf,List.take_succ_cons,List.take_zero,List.filterMap_cons,List.filterMap_nil,List.contains_cons,List.contains_nil,Nat.reduceBEq,Bool.or_false,Bool.false_or,Bool.or_true,Bool.true_or,if_true,if_false,Bool.false_eq_true,Nat.reduceAdd,Nat.zero_add,List.drop_succ_cons,List.drop_zero,h72];go_upto_region 15 with (fail)
        generalize w5.setCell ⟨w.heap.size,1,none⟩ (.slice (some ⟨g,0,none⟩) lw kk)=w6 at *;clear HF5;clear c0 c1 c2 c3 c4 c5 f1 f5 o1 d2 d3 d4 e2 e3 e4;obtain ⟨c0,c1,c2,c3,c4,c5,f1,f5,o1,o2,o3,o4,-,-⟩:=HF6.out;dsimp only at c0 c1 c2 c3 c4 c5 o1 o2 o3 o4;obtain ⟨d4,e4⟩:=own_cells o4 (j:=s) hsl;obtain ⟨d2,e2⟩:=own_cells o2 (j:=x) hxn;obtain ⟨d3,e3⟩:=own_cells o3 (j:=x) hxn;clear o2 o3 o4;have cl:=(HK6.out.bel.cell (p:=⟨bp,op+k,none⟩) zl).trans cl0;have q0:=(HK6.out.bel.cell (p:=⟨bl,ol+k*2,none⟩) zq).trans q00;have q1:=(HK6.out.bel.cell (p:=⟨bl,ol+k*2+1,none⟩) zq).trans q10;go_still_tail 12,xk
        go_upto_region 16 with (fail)
        have HF7:=hid ((HF6.out.setK x kx).drew);have HK7:=hid ((HK6.out.setCell (a:=⟨g2,x,none⟩) (.inr hg2) (.int .i64 kx)).drew);generalize (w6.setCell ⟨g2,x,none⟩ (.int .i64 kx)).drew=w7 at *;clear cl q0 q1 HF6 HK6;clear c0 c1 c2 c3 c4 c5 f1 f5 o1 d2 d3 d4 e2 e3 e4;obtain ⟨c0,c1,c2,c3,c4,c5,f1,f5,o1,o2,o3,o4,-,-⟩:=HF7.out;dsimp only at c0 c1 c2 c3 c4 c5 o1 o2 o3 o4;obtain ⟨d4,e4⟩:=own_cells o4 (j:=s) hsl;obtain ⟨d2,e2⟩:=own_cells o2 (j:=x) hxn;obtain ⟨d3,e3⟩:=own_cells o3 (j:=x) hxn;clear o2 o3 o4;have cl:=(HK7.out.bel.cell (p:=⟨bp,op+k,none⟩) zl).trans cl0;have q0:=(HK7.out.bel.cell (p:=⟨bl,ol+k*2,none⟩) zq).trans q00;have q1:=(HK7.out.bel.cell (p:=⟨bl,ol+k*2+1,none⟩) zq).trans q10;go_still_tail 12,xk
        go_upto_region 17 with (fail)
        have HF8:=hid ((HF7.out.setV x vx).drew);have HK8:=hid ((HK7.out.setCell (a:=⟨g3,x,none⟩) (.inr hg3) (.int .i64 vx)).drew);generalize (w7.setCell ⟨g3,x,none⟩ (.int .i64 vx)).drew=w8 at *;clear cl q0 q1 HF7 HK7;clear c0 c1 c2 c3 c4 c5 f1 f5 o1 d2 d3 d4 e2 e3 e4;obtain ⟨c0,c1,c2,c3,c4,c5,f1,f5,o1,o2,o3,o4,-,-⟩:=HF8.out;dsimp only at c0 c1 c2 c3 c4 c5 o1 o2 o3 o4;obtain ⟨d4,e4⟩:=own_cells o4 (j:=s) hsl;obtain ⟨d2,e2⟩:=own_cells o2 (j:=x) hxn;obtain ⟨d3,e3⟩:=own_cells o3 (j:=x) hxn;clear o2 o3 o4;go_wp2
        have HF9:=hid (HF8.out.setL (IntKind.u64.wrap (dlaid+1)));have HK9:=hid (HK8.out.setCell (a:=⟨w.heap.size,5,none⟩) (.inl rfl) (.int .u64 (IntKind.u64.wrap (dlaid+1))));go_roundg (gk-1)
        case measure=>have:=HI.out;omega
        case rel=>
         refine ⟨k+1,g,kk,by have:=HI.out;omega,by go_num,hid ?_,HK9⟩;rw [HNX.out,rlC];dsimp only;rw [Int.toNat_natCast,HST.out.1,HST.out.2];exact HF9.out
     · have hkm:m=k:=xo;subst hkm;generalize lys (tks c lo dl) ps L m=d at *;obtain ⟨c0,c1,c2,c3,c4,c5,f1,f5,p1,p2,p3,p4,-,-⟩:=HF.out;have l1:=own_len p1;have l2:=own_len p2;have l3:=own_len p3;have l4:=own_len p4;obtain ⟨r0,r1,r2,r3,r4,r5,t0,t1,t2,t3,t4,t5⟩:=HR2.out;have hrb:=HK.out.keep (w.heap.size+1) xo xo;have rc:∀k,wr.cell? ⟨w.heap.size+1,k,none⟩=w2.cell? ⟨w.heap.size+1,k,none⟩:=fun k=>World.cell?_of_block (a:=⟨w.heap.size+1,k,none⟩) hrb
       have rf:∀k,wr.frozen? ⟨w.heap.size+1,k,none⟩=w2.frozen? ⟨w.heap.size+1,k,none⟩:=fun k=>World.frozen?_of_block (a:=⟨w.heap.size+1,k,none⟩) hrb
       replace r0:=(rc 0).trans r0;replace r1:=(rc 1).trans r1;replace r2:=(rc 2).trans r2;replace r3:=(rc 3).trans r3;replace r4:=(rc 4).trans r4;replace r5:=(rc 5).trans r5;replace t0:=(rf 0).trans t0;replace t1:=(rf 1).trans t1;replace t2:=(rf 2).trans t2;replace t3:=(rf 3).trans t3;replace t4:=(rf 4).trans t4;replace t5:=(rf 5).trans t5;have hzr:=HK.out.size;have HP1:=hid (owns_base p1 (by omega:w.heap.size≤w.heap.size+2));have HP2:=hid (owns_base p2 (by omega:w.heap.size≤w.heap.size+2));have HP3:=hid (owns_base p3 (by omega:w.heap.size≤w.heap.size+2));have HP4:=hid (owns_base p4 (by omega:w.heap.size≤w.heap.size+2));have HN1:=hid (And.intro (p1.lt g1 rfl).1 (And.intro (p2.lt g2 rfl).1 (And.intro (p3.lt g3 rfl).1 (p4.lt g4 rfl).1)));have HLN:=hid (And.intro l1 (And.intro l2 (And.intro l3 l4)));have HB:=hid HK.out.bel;clear rc rf hrb p1 p2 p3 p4 l1 l2 l3 l4;go_wp2
       have HQ:Hid (∀q,q≠w.heap.size+1→((((((wr.setCell ⟨w.heap.size+1,0,none⟩ (.int .i64 d.seg)).setCell ⟨w.heap.size+1,1,none⟩ (.slice (some ⟨g1,0,none⟩) lw k1)).setCell ⟨w.heap.size+1,2,none⟩ (.slice (some ⟨g2,0,none⟩) n k2)).setCell ⟨w.heap.size+1,3,none⟩ (.slice (some ⟨g3,0,none⟩) n k3)).setCell ⟨w.heap.size+1,4,none⟩ (.slice (some ⟨g4,0,none⟩) lc k4)).setCell ⟨w.heap.size+1,5,none⟩ (.int .u64 d.laid)).heap[q]? =wr.heap[q]?):=hid fun q hq=>by
        rw [heap_setCell_ne _ _ _ hq,heap_setCell_ne _ _ _ hq,heap_setCell_ne _ _ _ hq,heap_setCell_ne _ _ _ hq,heap_setCell_ne _ _ _ hq,heap_setCell_ne _ _ _ hq]
       refine bodyPost_ret (results_c rfl rfl (run_loadVar_many _ Tryz.underlying29 rfl xk (six_set r0 r1 r2 r3 r4 r5))) rfl ⟨_,_,_,_,rfl,?_,?_,?_,?_,?_⟩
       · rw [HLN.out.1];exact owns_heap HP1.out fun j hj=>by cases hj;exact HQ.out _ (by have:=HN1.out.1;dsimp only;omega)
       · rw [HLN.out.2.1];exact owns_heap HP2.out fun j hj=>by cases hj;exact HQ.out _ (by have:=HN1.out.2.1;dsimp only;omega)
       · rw [HLN.out.2.2.1];exact owns_heap HP3.out fun j hj=>by cases hj;exact HQ.out _ (by have:=HN1.out.2.2.1;dsimp only;omega)
       · rw [HLN.out.2.2.2];exact owns_heap HP4.out fun j hj=>by cases hj;exact HQ.out _ (by have:=HN1.out.2.2.2;dsimp only;omega)
       · exact (((((HB.out.setCell xdo _).setCell xdo _).setCell xdo _).setCell xdo _).setCell xdo _).setCell xdo _
end
section
open Go.RowKit Go.Shelf
attribute [local go_sem] Oper.semAt_some
theorem Empty04_core (w:World) (seg many nw nc:Nat) (hs:4≤seg) (hm:many≤65536) (hs2:seg≤64) (hnw:((many:Int)+63).tdiv 64=nw) (hnc:(many:Int).tdiv seg=nc) (hnw2:nw≤65536) (hnc2:nc≤65536):
    Calls Tryz.prog 51 #[.int .i64 seg,.int .i64 many] w (FreshSl w (zeroSl seg many nw nc)):=by
 have hs0:((seg:Int)==0)=false:=by simp;omega
 have hsn:¬(seg:Int)=0:=xo;have hsn2:¬seg=0:=xo;have hw0:IntKind.i64.wrap ((many:Int)+63)=(many:Int)+63:=IntWalk.i64_in _ xo;have hw1:IntKind.i64.wrap (nw:Int)=(nw:Int):=IntWalk.i64_in _ xo;have hw2:IntKind.i64.wrap (nc:Int)=(nc:Int):=IntWalk.i64_in _ xo;go_enter Tryz.func51,Tryz.ntmps51
 go_upto_region 1 with (fail)
 generalize hwz:w.alloc _=wz;have hh:=ec6 hwz (al6 (b:=w.heap.size) xsi);obtain ⟨c_r0,c_r1,c_r2,c_r3,c_r4,c_r5⟩:=hh;have hh:=ef6 hwz (alf6 (b:=w.heap.size) xsi);obtain ⟨f_r0,f_r1,f_r2,f_r3,f_r4,f_r5⟩:=hh;have z_r:=elt hwz (alz (b:=w.heap.size) xsi);have HS:Hid (Below w.heap.size w wz):=by rw [←hwz];exact hid (br.alloc (Nat.le_refl _) _)
 have hz:w.heap.size+1=wz.heap.size:=by rw [←hwz];simp
 clear hwz;refine wp_region_late 14 xk (N:=19) rfl xk xk xdd (fun w'=>Below wz.heap.size wz w') RB (factRAt [.is (.int .i64 seg),.is (.int .i64 many),.is (.int .i64 ((many:Int)+63)),.is (.int .i64 nw),.own wz.heap.size 27 nw ((List.replicate nw (0:Int)).map (Value.int .u64)),.is (.int .i64 many),.own wz.heap.size 2 many ((List.replicate many (0:Int)).map (Value.int .i64)),.is (.int .i64 many),.own wz.heap.size 2 many ((List.replicate many (0:Int)).map (Value.int .i64)),.is (.int .i64 many),.is (.int .i64 seg),.is (.int .i64 nc),.own wz.heap.size 3 nc ((List.replicate nc (0:Int)).map (Value.int .i64)),.sl wz.heap.size (zeroSl seg many nw nc)]) (factRAt_stays _) br.drew ?steps ?fin
 case steps=>
  refine ⟨?o0,?o1,?o2,?o3,?o4,?o5,?o6,?o7,?o8,?o9,?o10,?o11,?o12,?o13,trivial⟩
  case o0=>
   intro u a w' ev hJ hd K hK;have e0:tg a 0= .int .i64 seg:=ev 0 xdd;have HK:=hid hK;clear hK ev hd;go_simp;exact HK.out _ _ xzc hJ rfl br
  case o1=>
   intro u a w' ev hJ hd K hK;have e1:tg a 1= .int .i64 many:=ev 1 xdd;have HK:=hid hK;clear hK ev hd;go_simp;exact HK.out _ _ xzc hJ rfl br
  case o2=>
   intro u a w' ev hJ hd K hK;have e6:tg a 6= .int .i64 many:=(ev 6 xdd).trans (hd 1 _ xk rfl);have HK:=hid hK;clear hK ev hd;go_simp;exact HK.out _ _ xzc hJ rfl br
  case o3=>
   intro u a w' ev hJ hd K hK;have e7:tg a 7= .int .i64 ((many:Int)+63):=(ev 7 xdd).trans (hd 2 _ xk rfl);have HK:=hid hK;clear hK ev hd;go_simp;exact HK.out _ _ xzc hJ rfl br
  case o4=>
   intro u a w' ev hJ hd K hK;have e8:tg a 8= .int .i64 nw:=(ev 8 xdd).trans (hd 3 _ xk rfl);exact wp_make (.tmp 8) (.tmp 8) 24 27 _ 1 8 Tryz.underlying24 info4_uint64 xdd wz.heap.size nw _ rfl xo hJ.size rfl e8 e8 (fun g w'' k1 k2 k3=>hK _ _ xzc (hJ.trans (k3.mono hJ.size)) ⟨g,rfl,by rw [made_zero] at k2;exact k2⟩ k3)
  case o5=>
   intro u a w' ev hJ hd K hK;have e1:tg a 1= .int .i64 many:=ev 1 xdd;have HK:=hid hK;clear hK ev hd;go_simp;exact HK.out _ _ xzc hJ rfl br
  case o6=>
   intro u a w' ev hJ hd K hK;have e10:tg a 10= .int .i64 many:=(ev 10 xdd).trans (hd 5 _ xk rfl);exact wp_make (.tmp 10) (.tmp 10) 25 2 _ 1 8 Tryz.underlying25 info4_int64 xdd wz.heap.size many _ rfl xo hJ.size rfl e10 e10 (fun g w'' k1 k2 k3=>hK _ _ xzc (hJ.trans (k3.mono hJ.size)) ⟨g,rfl,by rw [made_zero] at k2;exact k2⟩ k3)
  case o7=>
   intro u a w' ev hJ hd K hK;have e1:tg a 1= .int .i64 many:=ev 1 xdd;have HK:=hid hK;clear hK ev hd;go_simp;exact HK.out _ _ xzc hJ rfl br
  case o8=>
   intro u a w' ev hJ hd K hK;have e12:tg a 12= .int .i64 many:=(ev 12 xdd).trans (hd 7 _ xk rfl);exact wp_make (.tmp 12) (.tmp 12) 25 2 _ 1 8 Tryz.underlying25 info4_int64 xdd wz.heap.size many _ rfl xo hJ.size rfl e12 e12 (fun g w'' k1 k2 k3=>hK _ _ xzc (hJ.trans (k3.mono hJ.size)) ⟨g,rfl,by rw [made_zero] at k2;exact k2⟩ k3)
  case o9=>
   intro u a w' ev hJ hd K hK;have e1:tg a 1= .int .i64 many:=ev 1 xdd;have HK:=hid hK;clear hK ev hd;go_simp;exact HK.out _ _ xzc hJ rfl br
  case o10=>
   intro u a w' ev hJ hd K hK;have e0:tg a 0= .int .i64 seg:=ev 0 xdd;have HK:=hid hK;clear hK ev hd;go_simp;exact HK.out _ _ xzc hJ rfl br
  case o11=>
   intro u a w' ev hJ hd K hK;have e14:tg a 14= .int .i64 many:=(ev 14 xdd).trans (hd 9 _ xk rfl);have e15:tg a 15= .int .i64 seg:=(ev 15 xdd).trans (hd 10 _ xk rfl);have HK:=hid hK;clear hK ev hd;go_simp;exact HK.out _ _ xzc hJ rfl br
  case o12=>
   intro u a w' ev hJ hd K hK;have e16:tg a 16= .int .i64 nc:=(ev 16 xdd).trans (hd 11 _ xk rfl);exact wp_make (.tmp 16) (.tmp 16) 26 3 _ 1 8 Tryz.underlying26 info4_int xdd wz.heap.size nc _ rfl xo hJ.size rfl e16 e16 (fun g w'' k1 k2 k3=>hK _ _ xzc (hJ.trans (k3.mono hJ.size)) ⟨g,rfl,by rw [made_zero] at k2;exact k2⟩ k3)
  case o13=>
   intro u a w' ev hJ hd K hK;have h5:u 5= .int .i64 seg:=hd 0 _ xk rfl;obtain ⟨g9,h9,o9⟩:(FactR.own wz.heap.size 27 nw ((List.replicate nw (0:Int)).map (Value.int .u64))).holds (u 9) w':=hd 4 _ xk rfl;obtain ⟨g11,h11,o11⟩:(FactR.own wz.heap.size 2 many ((List.replicate many (0:Int)).map (Value.int .i64))).holds (u 11) w':=hd 6 _ xk rfl;obtain ⟨g13,h13,o13⟩:(FactR.own wz.heap.size 2 many ((List.replicate many (0:Int)).map (Value.int .i64))).holds (u 13) w':=hd 8 _ xk rfl;obtain ⟨g17,h17,o17⟩:(FactR.own wz.heap.size 3 nc ((List.replicate nc (0:Int)).map (Value.int .i64))).holds (u 17) w':=hd 12 _ xk rfl;have f5:a.tmps[5]?.getD undef= .int .i64 seg:=by rw [←Array.getD_eq_getD_getElem?];exact (ev 5 xdd).trans h5
   have f9:a.tmps[9]?.getD undef= .slice (some ⟨g9,0,none⟩) nw nw:=by rw [←Array.getD_eq_getD_getElem?];exact (ev 9 xdd).trans h9
   have f11:a.tmps[11]?.getD undef= .slice (some ⟨g11,0,none⟩) many many:=by rw [←Array.getD_eq_getD_getElem?];exact (ev 11 xdd).trans h11
   have f13:a.tmps[13]?.getD undef= .slice (some ⟨g13,0,none⟩) many many:=by rw [←Array.getD_eq_getD_getElem?];exact (ev 13 xdd).trans h13
   have f17:a.tmps[17]?.getD undef= .slice (some ⟨g17,0,none⟩) nc nc:=by rw [←Array.getD_eq_getD_getElem?];exact (ev 17 xdd).trans h17
   have HK:=hid hK;have O9:=hid o9;have O11:=hid o11;have O13:=hid o13;have O17:=hid o17;clear hK ev hd h5 h9 h11 h13 h17 o9 o11 o13 o17;go_simp;exact HK.out _ _ xzc hJ ⟨_,_,_,_,rfl,by simpa [zeroSl] using O9.out,by simpa [zeroSl] using O11.out,by simpa [zeroSl] using O13.out,by simpa [zeroSl] using O17.out⟩ br
 case fin=>
  intro u w2 hJ hG;obtain ⟨v1,v2,v3,v4,h18,p1,p2,p3,p4⟩:(FactR.sl wz.heap.size (zeroSl seg many nw nc)).holds (u 18) w2:=hG 13 _ rfl;obtain ⟨a1,c1,rfl,-⟩:=owns_news p1;obtain ⟨a2,c2,rfl,-⟩:=owns_news p2;obtain ⟨a3,c3,rfl,-⟩:=owns_news p3;obtain ⟨a4,c4,rfl,-⟩:=owns_news p4;have HP1:=hid p1;have HP2:=hid p2;have HP3:=hid p3;have HP4:=hid p4;have hz_w2:=hJ.size;simp (disch:=omega) only [xcl hJ,xfr hJ] at *;replace z_r:=blt hJ z_r;have hB2:Below w.heap.size w w2:=below_via hJ HS.out xo;clear hG p1 p2 p3 p4 hJ;simp only [mixFrame,mixL,dstsOf,List.take_succ_cons,List.take_zero,List.filterMap_cons,List.filterMap_nil,List.contains_cons,List.contains_nil,Nat.reduceBEq,Bool.or_false,Bool.false_or,Bool.or_true,Bool.true_or,if_true,if_false,Bool.false_eq_true,Nat.reduceAdd,Nat.zero_add,List.drop_succ_cons,List.drop_zero,h18];go_wp2
  have HQ:Hid (∀q,w.heap.size+1≤q→((((((w2.setCell ⟨w.heap.size,0,none⟩ (.int .i64 (zeroSl seg many nw nc).seg)).setCell ⟨w.heap.size,1,none⟩ (.slice a1 (zeroSl seg many nw nc).ws.length c1)).setCell ⟨w.heap.size,2,none⟩ (.slice a2 (zeroSl seg many nw nc).ks.length c2)).setCell ⟨w.heap.size,3,none⟩ (.slice a3 (zeroSl seg many nw nc).vs.length c3)).setCell ⟨w.heap.size,4,none⟩ (.slice a4 (zeroSl seg many nw nc).cs.length c4)).setCell ⟨w.heap.size,5,none⟩ (.int .u64 (zeroSl seg many nw nc).laid)).heap[q]? =w2.heap[q]?):=hid fun q hq=>by
   rw [heap_setCell_ne _ _ _ xdo,heap_setCell_ne _ _ _ xdo,heap_setCell_ne _ _ _ xdo,heap_setCell_ne _ _ _ xdo,heap_setCell_ne _ _ _ xdo,heap_setCell_ne _ _ _ xdo]
  refine bodyPost_ret (results_c rfl rfl (run_loadVar_many _ Tryz.underlying29 rfl xk (six_set c_r0 c_r1 c_r2 c_r3 c_r4 c_r5))) rfl ⟨_,_,_,_,rfl,?_,?_,?_,?_,?_⟩
  · exact owns_base (owns_heap HP1.out fun j hj=>HQ.out j (by have:=(HP1.out.lt j hj).1;omega)) xo
  · exact owns_base (owns_heap HP2.out fun j hj=>HQ.out j (by have:=(HP2.out.lt j hj).1;omega)) xo
  · exact owns_base (owns_heap HP3.out fun j hj=>HQ.out j (by have:=(HP3.out.lt j hj).1;omega)) xo
  · exact owns_base (owns_heap HP4.out fun j hj=>HQ.out j (by have:=(HP4.out.lt j hj).1;omega)) xo
  · exact (((((hB2.setCell xdo _).setCell xdo _).setCell xdo _).setCell xdo _).setCell xdo _).setCell xdo _
end
section
open Go.RowKit
def CapsZ (a:SlA):Prop:=(a.wa=none→a.wc=0)∧(a.ka=none→a.kc=0)∧(a.va=none→a.vc=0)∧(a.ca=none→a.cc=0)
theorem gd_may {c:SlC} {S lw n lc:Nat} (h:SlGd c S lw n lc) (hS:pwB (S:Int)=true) (hM:pwB (lc:Int)=true) (hlw:lw=(n+63)/64):slMay c=true:=by
 have hlc1:1≤lc:=by
  rcases Nat.eq_zero_or_pos lc with e|e
  · rw [e] at hM;cases hM
  · exact e
 have h4:=h.s4;have hn:(n:Int)/(S:Int)=lc:=by
  rw [h.cn,Int.natCast_mul,Int.mul_ediv_cancel_left _ xo]
 have hn2:(n:Int)%(S:Int)=0:=by
  rw [h.cn,Int.natCast_mul,Int.mul_emod_right]
 have hle:S*1≤S*lc:=Nat.mul_le_mul_left _ hlc1;simp only [slMay,slHead,fitB,wMayB,clrB,cntB,Bool.and_eq_true,decide_eq_true_eq,List.all_eq_true];rw [h.elk,h.elv,h.elw,h.elc,h.seg,hn,hn2];refine ⟨⟨⟨⟨⟨⟨⟨⟨⟨⟨⟨by have:=h.s4;omega,by have:=h.s64;omega⟩,hS⟩,by have:=h.cn;omega⟩,by have:=h.nm;omega⟩,rfl⟩,hM⟩,rfl⟩,hlw,?_⟩,rfl⟩,?_⟩,?_⟩
 · intro i hi;have:=(List.mem_range'_1.1 hi).1;rw [h.hi i this];rfl
 · intro i hi;cases hb:bitW c.ws i with
   | true=>rfl
   | false=>
    have:=h.clr i hb;simp only [Bool.false_or,Bool.and_eq_true,beq_iff_eq];exact this
 · intro k hk;have:=h.cnt k (List.mem_range.1 hk);rw [Int.toNat_natCast,this,beq_self_eq_true]
theorem gd_fit {c:SlC} {S lw n lc:Nat} (h:SlGd c S lw n lc) (hm:slMay c=true):fitB (S:Int) n=true:=by
 simp only [slMay,slHead,Bool.and_eq_true] at hm;have:=hm.1.1.1.1.1;rwa [h.elk,h.seg] at this
theorem over_ok {c:SlC} {S lw n lc:Nat} (h:SlGd c S lw n lc) (hm:slMay c=true) (sa:SlA) (lo hi:Nat) (hlo:lo≤hi) (hhi:hi≤n) (L:List (Int×Int)) (hL:L.length≤hi-lo) (la:Option Addr) (pl:Nat) (w:World) (hin:SlIn w c sa) (hla:IsRow .i64 w la (prI L)):
    Calls Tryz.prog 120 #[slV c sa,.int .i64 lo,.int .i64 hi,.slice la L.length pl] w (FreshSl2 w (spC c lo hi L) (.int .i64 0)):=by
 have n1:=h.n1;have nm:=h.nm;have s4:=h.s4;have wn:=h.wn;have hlc:0<lc:=by
  rcases Nat.eq_zero_or_pos lc with e|e
  · have:=h.cn;rw [e] at this;omega
  · exact e
 have hlc2:lc≤65536:=by
  have h9:1*lc≤S*lc:=Nat.mul_le_mul_right _ xo;have:=h.cn;omega
 have hlw2:lw≤65536:=by
  have:=slHead_facts (slMay_head hm);obtain ⟨S',M,-,-,-,b3,-,-,-,b7,-,b9,-⟩:=this;rw [h.elw] at b9;omega
 refine over_core w c.seg sa.wa sa.ka sa.va sa.ca sa.wc sa.kc sa.vc sa.cc c.ws.length c.ks.length c.vs.length c.cs.length c.laid lo hi L.length (ints (plR L.length lo hi)) la pl (spC c lo hi L) (by rw [ints_length,plR_length]) (hid fun W hb=> ?_) (hid fun W hb=>Places_ok L.length lo hi hlo xo hL W) (hid fun W pa pc hb hp=> ?_)
 · have:=slCheck_ok c sa (by rw [h.elw];omega) (by rw [h.elk];omega) W (hin.below hb);rwa [show slE c=0 by simp [slE,hm]] at this
 · have hin2:=hin.below hb;have e1:=h.elw;have e2:=h.elk;have e3:=h.elv;have e4:=h.elc;rw [e1,e2,e3,e4];refine slFill_core W c.seg sa.wa sa.ka sa.va sa.ca sa.wc sa.kc sa.vc sa.cc lw n lc c.laid c lo hi L.length S (plR L.length lo hi) L pa la pc pl rfl rfl e1 e2 e3 e4 xo xo hlc nm hlw2 hlc2 h.seg s4 hlo hhi wn h.cn (plR_length _ _ _) rfl xo (fun k hk=>plR_pv hk hL) (fun j hj=>(h.tks j xo).ok) (fun k hk=>(SlGd.lys (h.tks (hi-lo) xo) (fun k=>plR_ltn hL hhi xo k) L k).ok) (hid hp) (hid (hla.below hb)) (hid fun W' hb'=> ?_) (hid fun W' hb'=> ?_)
   · have:=part_ok c sa (by rw [e1];omega) (by rw [e2];omega) lo hi W' (hin2.below hb');rw [show partE c lo hi=0 by unfold partE;rw [if_pos hm,if_pos (by rw [e2];omega)]] at this;simpa only [slV,e1,e2,e3,e4] using this
   · have:=slTwin_ok c sa W' (hin2.below hb') (by rw [e1];omega) (by rw [e2];omega) (by rw [e3];omega) (by rw [e4];omega);simpa only [slV,e1,e2,e3,e4] using this
theorem Spread08_ok {c:SlC} {S lw n lc:Nat} (h:SlGd c S lw n lc) (hlw2:lw≤2000) (sa:SlA) (hz:CapsZ sa) (lo hi:Nat) (hlo:lo≤hi) (hhi:hi≤n) (L:List (Int×Int)) (hL:L.length≤hi-lo) (la:Option Addr) (pl:Nat) (w:World) (hin:SlIn w c sa) (hla:IsRow .i64 w la (prI L)):
    Calls Tryz.prog 130 #[slV c sa,.int .i64 lo,.int .i64 hi,.slice la L.length pl] w (FreshSl w (spC c lo hi L)):=by
 have n1:=h.n1;have nm:=h.nm;have s4:=h.s4;have wn:=h.wn;have hlc:0<lc:=by
  rcases Nat.eq_zero_or_pos lc with e|e
  · have:=h.cn;rw [e] at this;omega
  · exact e
 have hlc2:lc≤65536:=by
  have h9:1*lc≤S*lc:=Nat.mul_le_mul_right _ xo;have:=h.cn;omega
 refine Spread08_core w c.seg sa.wa sa.ka sa.va sa.ca sa.wc sa.kc sa.vc sa.cc c.ws.length c.ks.length c.vs.length c.cs.length c.laid lo hi L.length (ints (plR L.length lo hi)) la pl (spC c lo hi L) (by rw [ints_length,plR_length]) (hid fun W hb=>Of07_ok L.length lo hi hlo xo hL W) (hid fun W pa pc hb hp=> ?_);have hin2:=hin.below hb;have e1:=h.elw;have e2:=h.elk;have e3:=h.elv;have e4:=h.elc;rw [e1,e2,e3,e4];refine Filled_core W c.seg sa.wa sa.ka sa.va sa.ca sa.wc sa.kc sa.vc sa.cc lw n lc c.laid c lo hi L.length S (plR L.length lo hi) L pa la pc pl h xo hlc hlw2 hlo hhi (plR_length _ _ _) rfl xo (fun k=>plR_ltn hL hhi xo k) (fun k hk=>lys_free h hlo hhi hL hk) (hid hp) (hid (hla.below hb)) (hid fun W' hb'=> ?_);have:=Twin04N_ok c sa W' (hin2.below hb') (by rw [e1];omega) (by rw [e2];omega) (by rw [e3];omega) (by rw [e4];omega) hz.1 hz.2.1 hz.2.2.1 hz.2.2.2;simpa only [slV,e1,e2,e3,e4] using this
def emptyL (S M:Nat) (laid:Int):SlC:=⟨S,List.replicate ((S*M+63)/64) 0,List.replicate (S*M) 0,List.replicate (S*M) 0,List.replicate M 0,laid⟩
theorem emptyL_gd {S M:Nat} (h4:4≤S) (h6:S≤64) (hM:1≤M) (hm:S*M≤65536) (laid:Int):SlGd (emptyL S M laid) S ((S*M+63)/64) (S*M) M:=by
 have z:=zero_gd h4 h6 hM hm (lw:=(S*M+63)/64) rfl;exact ⟨z.seg,z.elw,z.elk,z.elv,z.elc,z.s4,z.s64,z.cn,z.wn,z.n1,z.nm,z.u,z.cnt,z.hi,z.clr⟩
def wideC (S M:Nat) (laid:Int) (L:List (Int×Int)):SlC:=spC (emptyL S M laid) 0 (S*M) L
theorem new_nums {S M:Nat} (h4:4≤S) (hm:S*M≤65536):(((S*M:Nat):Int)+63).tdiv 64=((S*M+63)/64:Nat)∧((S*M:Nat):Int).tdiv S=M∧(S*M+63)/64≤2000∧M≤65536:=by
 have h9:1*M≤S*M:=Nat.mul_le_mul_right _ xo;refine ⟨?_,?_,by omega,by omega⟩
 · rw [Int.tdiv_eq_ediv_of_nonneg xo];omega
 · rw [Int.tdiv_eq_ediv_of_nonneg xo,Int.natCast_mul,Int.mul_ediv_cancel_left _ xo]
theorem Into_ok {c:SlC} {S lw n lc:Nat} (h:SlGd c S lw n lc) (hm:slMay c=true) (sa:SlA) (M:Nat) (hM:1≤M) (hS:pwB (S:Int)=true) (hMp:pwB (M:Int)=true) (hsm:S*M≤65536) (L:List (Int×Int)) (hL:L.length≤S*M) (la:Option Addr) (pl:Nat) (w:World) (hin:SlIn w c sa) (hla:IsRow .i64 w la (prI L)):
    Calls Tryz.prog 79 #[slV c sa,.int .i64 ((S*M:Nat):Int),.slice la L.length pl] w (FreshSl2 w (wideC S M c.laid L) (.int .i64 0)):=by
 obtain ⟨q1,q2,q3,q4⟩:=new_nums (M:=M) h.s4 hsm;have ge:=emptyL_gd h.s4 h.s64 hM hsm c.laid;have gm:=gd_may ge hS hMp rfl;refine Into_core w c.seg sa.wa sa.ka sa.va sa.ca sa.wc sa.kc sa.vc sa.cc c.ws.length c.ks.length c.vs.length c.cs.length c.laid (S*M) L.length la pl (zeroSl S (S*M) ((S*M+63)/64) M) (wideC S M c.laid L) ge.u (hid fun W hb=> ?_) (hid fun W hb=> ?_) (hid fun W sa' hb hi z1 z2 z3 z4=> ?_)
 · have:=slCheck_ok c sa (by rw [h.elw];have:=slHead_facts (slMay_head hm);obtain ⟨S',M',-,-,-,b3,-,-,-,b7,-,b9,-⟩:=this;rw [h.elw] at b9;omega) (by rw [h.elk];have:=h.nm;omega) W (hin.below hb);rwa [show slE c=0 by simp [slE,hm]] at this
 · rw [h.seg];refine slNew_core W S (S*M) ((S*M+63)/64) M h.s4 hsm h.s64 q1 q2 xo q4 (hid fun W'=> ?_);have:=fits_ok (S:Int) ((S*M:Nat):Int) W';rwa [gd_fit ge gm] at this
 · exact over_ok ge gm sa' 0 (S*M) (Nat.zero_le _) (Nat.le_refl _) L xo la pl W hi (hla.below hb)
theorem Wide08_ok {c:SlC} {S lw n lc:Nat} (h:SlGd c S lw n lc) (sa:SlA) (M:Nat) (hM:1≤M) (hsm:S*M≤65536) (L:List (Int×Int)) (hL:L.length≤S*M) (la:Option Addr) (pl:Nat) (w:World) (hla:IsRow .i64 w la (prI L)):
    Calls Tryz.prog 127 #[slV c sa,.int .i64 ((S*M:Nat):Int),.slice la L.length pl] w (FreshSl w (wideC S M c.laid L)):=by
 obtain ⟨q1,q2,q3,q4⟩:=new_nums (M:=M) h.s4 hsm;have ge:=emptyL_gd h.s4 h.s64 hM hsm c.laid;refine Wide08_core w c.seg sa.wa sa.ka sa.va sa.ca sa.wc sa.kc sa.vc sa.cc c.ws.length c.ks.length c.vs.length c.cs.length c.laid (S*M) L.length la pl (zeroSl S (S*M) ((S*M+63)/64) M) (wideC S M c.laid L) h.seg.symm ge.u (hid fun W hb=> ?_) (hid fun W sa' hb hi z1 z2 z3 z4=> ?_)
 · rw [h.seg];exact Empty04_core W S (S*M) ((S*M+63)/64) M h.s4 hsm h.s64 q1 q2 xo q4
 · exact Spread08_ok ge q3 sa' ⟨z1,z2,z3,z4⟩ 0 (S*M) (Nat.zero_le _) (Nat.le_refl _) L xo la pl W hi (hla.below hb)
end
section
open Go.RowKit Go.Shelf
attribute [local go_sem] Oper.semAt_some
end
section
open Go.RowKit
theorem cap_nat {c:Cfg} (hd:cfHead c=true) {a:Nat} (hs:c.seg=((2^a:Nat):Int)) {n:Int} (h0:0≤n) (h1:n≤16384):∃H:Nat,taks c n=((2^a*2^H:Nat):Int)∧2^a*2^H≤65536∧n≤taks c n:=by
 have f:=cfHead_facts hd;obtain ⟨d0,d1,d2,d3,d4,d5,d6,d7,d8,d9,d10,d11,d12,d13,d14,d15,d16,d17⟩:=cfHead_num hd;have tb:=taks_bd hd h0 h1;obtain ⟨l1,l2,b,eb⟩:=powB_nat f.2.2.2.2.2.1;have hab:a≤b:=(Nat.pow_le_pow_iff_right (a:=2) xo).1 xo;obtain ⟨j,-,ej⟩:=takF_pow c n 20 c.least;have e:taks c n=((2^a*2^(b-a+j):Nat):Int):=by
  rw [taks,ej,eb,←Nat.pow_add,show a+(b-a+j)=b+j by omega,Nat.pow_add];push_cast
  rfl
 refine ⟨b-a+j,e,by omega,?_⟩;have ht:=takF_takes (c:=c) (n:=n) xo 20 c.least xo (tak_start h0 h1 xo d8 d9).1;have m1:c.rh*taks c n≤c.den*taks c n:=Int.mul_le_mul_of_nonneg_right xo xo;have m2:c.den*n≤c.den*taks c n:=by
  rw [Int.mul_comm c.den n];exact Int.le_trans ht m1
 exact Int.le_of_mul_le_mul_left m2 xo
theorem gap_zero {c:Cfg} {s:SlC} (h:gapE c s=0):cfMay c=true∧∃a H,GapN c s a H∧s.seg=c.seg∧sumC s.cs 0 s.cs.length≤c.most∧denB c s H=true:=by
 unfold gapE at h;split at h
 · rename_i hc
   split at h
   · rename_i hg
     have hg':=hg;simp only [gapMay,gapHead,Bool.and_eq_true,decide_eq_true_eq] at hg;obtain ⟨⟨⟨⟨h1,h2⟩,h3⟩,h4⟩,h5⟩:=hg;obtain ⟨a,H,k⟩:=gapN_of hc h3 h1 h2;exact ⟨hc,a,H,k,h2,h4,by rw [←k.cap.hgt];exact h5⟩
   · cases h
 · cases h
def nilC:SlC:=⟨0,[],[],[],[],0⟩
def capM (c:Cfg) (n:Nat):Nat:=(taks c n).toNat/c.seg.toNat
theorem cap_facts {c:Cfg} {s:SlC} {a H:Nat} (k:GapN c s a H) {n:Nat} (hn:(n:Int)≤c.most):c.seg.toNat=2^a∧taks c n=((2^a*capM c n:Nat):Int)∧1≤capM c n∧2^a*capM c n≤65536∧n≤2^a*capM c n∧pwB (capM c n:Int)=true:=by
 have hd:=cfMay_head k.cap.may;have d:=cfHead_num hd;obtain ⟨H',e,hb,hle⟩:=cap_nat hd k.cap.seg (n:=(n:Int)) xo xo;have hs:c.seg.toNat=2^a:=by rw [k.cap.seg];rfl
 have hm:capM c n=2^H':=by
  rw [capM,e,hs,Int.toNat_natCast,Nat.mul_div_cancel_left _ (Nat.two_pow_pos a)]
 rw [hm];exact ⟨hs,e,Nat.two_pow_pos H',hb,by omega,pwB_two H'⟩
theorem gapN_gd {c:Cfg} {s:SlC} {a H:Nat} (k:GapN c s a H) (hu:U64s s.ws):SlGd s (2^a) ((s.ks.length+63)/64) s.ks.length (2^H)∧(s.ks.length+63)/64≤2000:=by
 obtain ⟨S,M,g,-,-,-⟩:=slMay_gd hu k.may;have e1:S=2^a:=by have:=g.seg;have:=k.seg;omega
 have e2:M=2^H:=by have:=g.elc;have:=k.nc;omega
 have e3:=g.elk;subst e1 e2;have hb:=k.cap.big;rw [←e3] at g;have:=k.nk;exact ⟨g,by omega⟩
end
section
open Go.RowKit
theorem Pairs11_ok (c:Cfg) (s:SlC) (wa ka va ca:Option Addr) (wc kc vc cc:Nat) (L:List (Int×Int)) (w:World) (OF:Hid (∀W,Below w.heap.size w W→Calls Tryz.prog 52 #[.agg #[.int .i64 s.seg,.slice wa s.ws.length wc,.slice ka s.ks.length kc,.slice va s.vs.length vc,.slice ca s.cs.length cc,.int .u64 s.laid],.int .i64 0,.int .i64 s.ks.length] W (FreshPr W L))):
    Calls Tryz.prog 29 #[.agg #[.int .u8 c.tag,.int .i64 c.most,.int .i64 c.seg,.int .i64 c.least,.int .i64 c.den,.int .i64 c.ll,.int .i64 c.rl,.int .i64 c.rh,.int .i64 c.lh,.int .i64 s.seg,.slice wa s.ws.length wc,.slice ka s.ks.length kc,.slice va s.vs.length vc,.slice ca s.cs.length cc,.int .u64 s.laid]] w (FreshPr w L):=by
 go_enter Tryz.func29,Tryz.ntmps29
 go_wp2_with fail
 refine (OF.out _ xbel).mono ?_;rintro e w1 ⟨v,rfl,ho,hb1⟩;have hz_w1:=hb1.size;try simp only [World.size_alloc,World.size_setCell] at hz_w1
 have hh:=bc15 hb1 (al15 (b:=w.heap.size) xsi);obtain ⟨c_t0,c_t1,c_t2,c_t3,c_t4,c_t5,c_t6,c_t7,c_t8,c_t9,c_t10,c_t11,c_t12,c_t13,c_t14⟩:=hh;have z_t:=blt hb1 (alz (b:=w.heap.size) xsi);have hB1:Below w.heap.size w w1:=xbel;have HO:=hid ho;clear ho;go_wp2
 go_ret
 exact ⟨_,rfl,owns_base HO.out xsi,hB1⟩
end
section
open Go.RowKit
theorem fndL_at {key:Int}:∀(L:List (Int×Int)) (k:Nat),k<L.length→(∀j,j<k→(L.getD j (0,0)).1≠key)→(L.getD k (0,0)).1=key→fndL L key=some (L.getD k (0,0))
  | [],k,h,_,_=>by simp at h
  | x::l,0,_,_,h=>by
   rw [List.getD_cons_zero] at h ⊢;exact List.find?_cons_of_pos (p:=fun p:Int×Int=>p.1==key) (beq_iff_eq.2 h)
  | x::l,k+1,hk,hj,h=>by
   rw [List.getD_cons_succ] at h ⊢;have h0:=hj 0 xo;rw [List.getD_cons_zero] at h0;rw [fndL,List.find?_cons_of_neg (by simpa using h0)];exact fndL_at l k (by simpa using hk) (fun j hjk=>by have:=hj (j+1) xo;rwa [List.getD_cons_succ] at this) h
theorem fndL_no {key:Int}:∀(L:List (Int×Int)),(∀j,j<L.length→(L.getD j (0,0)).1≠key)→fndL L key=none
  | [],_=>rfl
  | x::l,hj=>by
   have h0:=hj 0 xsi;rw [List.getD_cons_zero] at h0;rw [fndL,List.find?_cons_of_neg (by simpa using h0)];exact fndL_no l fun j hjl=>by have:=hj (j+1) (by simpa using hjl);rwa [List.getD_cons_succ] at this
def valV (L:List (Int×Int)) (key:Int):Int×Bool:=match fndL L key with
  | some p=>(p.2,true)
  | none=>(0,false)
theorem Value11_ok (c:Cfg) (s:SlC) (wa ka va ca:Option Addr) (wc kc vc cc:Nat) (L:List (Int×Int)) (key:Int) (hL:L.length≤100000) (w:World) (PR:Hid (∀W,Below w.heap.size w W→Calls Tryz.prog 29 #[.agg #[.int .u8 c.tag,.int .i64 c.most,.int .i64 c.seg,.int .i64 c.least,.int .i64 c.den,.int .i64 c.ll,.int .i64 c.rl,.int .i64 c.rh,.int .i64 c.lh,.int .i64 s.seg,.slice wa s.ws.length wc,.slice ka s.ks.length kc,.slice va s.vs.length vc,.slice ca s.cs.length cc,.int .u64 s.laid]] W (FreshPr W L))):
    Calls Tryz.prog 31 #[.agg #[.int .u8 c.tag,.int .i64 c.most,.int .i64 c.seg,.int .i64 c.least,.int .i64 c.den,.int .i64 c.ll,.int .i64 c.rl,.int .i64 c.rh,.int .i64 c.lh,.int .i64 s.seg,.slice wa s.ws.length wc,.slice ka s.ks.length kc,.slice va s.vs.length vc,.slice ca s.cs.length cc,.int .u64 s.laid],.int .i64 key] w (AnsB w (.tuple #[.int .i64 (valV L key).1,.bool (valV L key).2])):=by
 go_enter Tryz.func31,Tryz.ntmps31
 go_wp2_with fail
 refine (PR.out _ xbel).mono ?_;rintro e w1 ⟨v,rfl,ho,hb1⟩;have hz_w1:=hb1.size;try simp only [World.size_alloc,World.size_setCell] at hz_w1
 have hh:=bc15 hb1 (al15 (b:=w.heap.size) xsi);obtain ⟨c_t0,c_t1,c_t2,c_t3,c_t4,c_t5,c_t6,c_t7,c_t8,c_t9,c_t10,c_t11,c_t12,c_t13,c_t14⟩:=hh;have z_t:=blt hb1 (alz (b:=w.heap.size) xsi);have hB1:Below w.heap.size w w1:=xbel;have HB1:=hid hB1;obtain ⟨la,pl,rfl,hla,-⟩:=row_of_owns ho;have HR:=hid hla;clear hB1 hb1 ho hla;go_wp2
 go_loopg [7] L.length (fun g i wr=>∃k:Nat,k+g=L.length∧i= .int .i64 k∧w1=wr∧∀j,j<k→(L.getD j (0,0)).1≠key)
 case atStart=>exact ⟨0,by omega,rfl,rfl,fun j hj=>absurd hj (Nat.not_lt_zero _)⟩
 case round=>
  obtain ⟨k,hk,rfl,rfl,ht⟩:=hrel;have HT:=hid ht;clear ht;by_cases hlt:k<L.length
  · obtain ⟨b1,o1,rfl,c0,c1,z1⟩:=pr_get HR.out hlt;by_cases hkey:(L.getD k (0,0)).1=key
    · have HV:Hid (valV L key=((L.getD k (0,0)).2,true)):=hid (by rw [valV,fndL_at L k hlt HT.out hkey]);have he:((L.getD k (0,0)).1==key)=true:=by simpa using hkey
      clear hkey;generalize (L.getD k (0,0)).1=x1 at *;generalize (L.getD k (0,0)).2=x2 at *;go_wp2
      go_ret2
      exact ⟨by rw [HV.out];rfl,HB1.out⟩
    · have HN:Hid (∀j,j<k+1→(L.getD j (0,0)).1≠key):=hid fun j hj=>by
        rcases Nat.lt_or_ge j k with q|q
        · exact HT.out j q
        · rw [show j=k by omega];exact hkey
      have he:((L.getD k (0,0)).1==key)=false:=by simpa using hkey
      clear hkey;generalize (L.getD k (0,0)).1=x1 at *;generalize (L.getD k (0,0)).2=x2 at *;go_wp2
      go_roundg (gk-1)
      case measure=>omega
      case rel=>exact ⟨k+1,by omega,by go_num,rfl,HN.out⟩
  · have hkn:k=L.length:=xo;have HV:Hid (valV L key=(0,false)):=hid (by rw [valV,fndL_no L (by rw [←hkn];exact HT.out)]);go_wp2
    go_ret2
    exact ⟨by rw [HV.out];rfl,HB1.out⟩
end
section
open Go.RowKit
def clrI (x:Int):Int:=bits .and .u64 x (x-1)
theorem nat_clr (t m i:Nat):((2^t*(2*m+1)) &&& (2^t*(2*m+1)-1)).testBit i=((2^t*(2*m+1)).testBit i&&decide (i≠t)):=by
 have hp:=Nat.two_pow_pos t;have e:2^t*(2*m+1)-1=2^t*(2*m)+(2^t-1):=by rw [Nat.mul_add];omega
 rw [Nat.testBit_and,e,Nat.testBit_two_pow_mul_add _ xo];have e2:=Nat.testBit_two_pow_mul_add (i:=t) (2*m+1) (b:=0) hp i;rw [Nat.add_zero] at e2;rw [e2];by_cases h:i<t
 · simp [h]
 · rw [if_neg h,if_neg h];by_cases h2:i=t
   · subst h2;simp
   · obtain ⟨j,rfl⟩:∃j,i=t+(j+1):=⟨i-t-1,by omega⟩
     rw [show t+(j+1)-t=j+1 by omega,Nat.testBit_add_one,Nat.testBit_add_one,show (2*m+1)/2=m by omega,show 2*m/2=m by omega];simp
theorem clrI_nat (n:Nat) (h0:n≠0) (h1:n<18446744073709551616):clrI (n:Int)=((n &&& (n-1):Nat):Int):=by
 show IntKind.u64.wrap ((BitVec.ofInt 64 (n:Int) &&& BitVec.ofInt 64 ((n:Int)-1)).toNat:Int)=_;rw [show (n:Int)-1=((n-1:Nat):Int) by omega,BitVec.toNat_and,ofInt_u64 n xo,ofInt_u64 (n-1) xo];have:n &&& (n-1)≤n:=Nat.and_le_left;exact IntWalk.u64_in _ xo
theorem clrI_bit {x:Int} (h0:0≤x) (h1:x<18446744073709551616) (hx:x≠0):(0≤clrI x∧clrI x<18446744073709551616)∧∀i,bitI (clrI x) i=(bitI x i&&decide (i≠tzI x)):=by
 obtain ⟨n,rfl⟩:∃n:Nat,x=n:=⟨x.toNat,by omega⟩
 have hn0:n≠0:=xo;obtain ⟨m,hm,hk⟩:=Lib.ctzFrom_spec 64 n xo xo;have e:tzI (n:Int)=Lib.ctzFrom 64 n:=by rw [tzI,Int.toNat_natCast,Lib.ctz,if_neg hn0]
 rw [e,clrI_nat n hn0 xo];have hle:n &&& (n-1)≤n:=Nat.and_le_left;refine ⟨⟨by omega,by omega⟩,fun i=> ?_⟩;rw [bitI_nat,bitI_nat];generalize Lib.ctzFrom 64 n=t at *;rw [hm];exact nat_clr t m i
def plI (x:Int):List Nat:=(List.range 64).filter (bitI x)
theorem plI_length (x:Int):(plI x).length=popI x:=(List.countP_eq_length_filter ..).symm
theorem plI_cons {x:Int} (h0:0≤x) (h1:x<18446744073709551616) (hx:x≠0):plI x=tzI x::plI (clrI x):=by
 obtain ⟨t1,t2,t3⟩:=tzI_bit h0 h1 hx;obtain ⟨-,hc⟩:=clrI_bit h0 h1 hx;have e:List.range 64=List.range' 0 (tzI x)++(tzI x::List.range' (tzI x+1) (63-tzI x)):=by
  have e1:=List.range'_append (s:=0) (m:=tzI x) (n:=64-tzI x) (step:=1);simp only [Nat.one_mul,Nat.zero_add] at e1;rw [show tzI x+(64-tzI x)=64 by omega] at e1;rw [List.range_eq_range',←e1,show 64-tzI x=(63-tzI x)+1 by omega,List.range'_succ]
 generalize tzI x=t at *;unfold plI;rw [e,List.filter_append,List.filter_append];have z1:(List.range' 0 t).filter (bitI x)=[]:=by
  rw [List.filter_eq_nil_iff];intro i hi;have:=List.mem_range'_1.1 hi;simp [t3 i xo]
 have z2:(List.range' 0 t).filter (bitI (clrI x))=[]:=by
  rw [List.filter_eq_nil_iff];intro i hi;have:=List.mem_range'_1.1 hi;simp [hc,t3 i xo]
 rw [z1,z2,List.nil_append,List.nil_append,List.filter_cons,List.filter_cons,if_pos t2,if_neg (by simp [hc])];congr 1
 apply List.filter_congr;intro i hi;have:=List.mem_range'_1.1 hi;rw [hc,decide_eq_true xo,Bool.and_true]
def clrN (x:Int):Nat→Int
  | 0=>x
  | k+1=>clrI (clrN x k)
theorem clrN_zero (x:Int):clrN x 0=x:=rfl
theorem clrN_succ (x:Int) (k:Nat):clrN x (k+1)=clrI (clrN x k):=rfl
theorem clrN_pl {x:Int} (h0:0≤x) (h1:x<18446744073709551616):∀k,k≤popI x→(0≤clrN x k∧clrN x k<18446744073709551616)∧plI (clrN x k)=(plI x).drop k
  | 0,_=>⟨⟨h0,h1⟩,rfl⟩
  | k+1,hk=>by
   obtain ⟨⟨b1,b2⟩,e⟩:=clrN_pl h0 h1 k xo;have hne:clrN x k≠0:=by
    intro h;have z:plI (clrN x k)=[]:=by rw [h,plI,List.filter_eq_nil_iff];intro i _;simp [bitI_zero]
    rw [z] at e;have:=congrArg List.length e;rw [List.length_drop,plI_length] at this;simp at this;omega
   obtain ⟨hb,-⟩:=clrI_bit b1 b2 hne;have hc:=plI_cons b1 b2 hne;refine ⟨hb,?_⟩;rw [clrN_succ,←List.tail_drop,←e,hc];rfl
theorem clrN_tz {x:Int} (h0:0≤x) (h1:x<18446744073709551616) {k:Nat} (hk:k<popI x):clrN x k≠0∧(0≤clrN x k∧clrN x k<18446744073709551616)∧tzI (clrN x k)=(plI x).getD k 0:=by
 obtain ⟨⟨b1,b2⟩,e⟩:=clrN_pl h0 h1 k xo;have hne:clrN x k≠0:=by
  intro h;have z:plI (clrN x k)=[]:=by rw [h,plI,List.filter_eq_nil_iff];intro i _;simp [bitI_zero]
  rw [z] at e;have:=congrArg List.length e;rw [List.length_drop,plI_length] at this;simp at this;omega
 refine ⟨hne,⟨b1,b2⟩,?_⟩;rw [plI_cons b1 b2 hne] at e;have:=congrArg (fun l=>l.getD 0 0) e;simp only [List.getD_cons_zero] at this;rw [this,List.getD_eq_getElem?_getD,List.getElem?_drop,Nat.add_zero,List.getD_eq_getElem?_getD]
theorem plsW_app (ws:List Int) {a b d:Nat} (h1:a≤b) (h2:b≤d):plsW ws a d=plsW ws a b++plsW ws b d:=by
 unfold plsW;rw [←List.filter_append];congr 1
 have e:=List.range'_append (s:=a) (m:=b-a) (n:=d-b) (step:=1);rw [Nat.one_mul,show a+(b-a)=b by omega,show b-a+(d-b)=d-a by omega] at e;exact e.symm
theorem pl_word {ws:List Int} (hu:U64s ws) {n m:Nat} (hm:64*m<n):(plI (cutV ws 0 n m)).map (64*m + ·)=plsW ws (64*m) (min (64*m+64) n):=by
 have e1:plI (cutV ws 0 n m)=(List.range (min (64*m+64) n-64*m)).filter fun j=>bitW ws (64*m+j):=by
  have e:List.range 64=List.range (min (64*m+64) n-64*m)++List.range' (min (64*m+64) n-64*m) (64-(min (64*m+64) n-64*m)):=by
   have e:=List.range'_append (s:=0) (m:=min (64*m+64) n-64*m) (n:=64-(min (64*m+64) n-64*m)) (step:=1);simp only [Nat.one_mul,Nat.zero_add] at e;rw [show min (64*m+64) n-64*m+(64-(min (64*m+64) n-64*m))=64 by omega] at e;rw [List.range_eq_range',List.range_eq_range',e]
  unfold plI;rw [e,List.filter_append];have z:(List.range' (min (64*m+64) n-64*m) (64-(min (64*m+64) n-64*m))).filter (bitI (cutV ws 0 n m))=[]:=by
   rw [List.filter_eq_nil_iff];intro i hi;have:=List.mem_range'_1.1 hi;rw [cutV_bit hu xo xo,inW,decide_eq_false (by omega:¬64*m+i<n)];simp
  rw [z,List.append_nil];apply List.filter_congr;intro i hi;have:=List.mem_range.1 hi;rw [cutV_bit hu xo xo,inW,decide_eq_true (by omega:64*m+i<n)];simp
 rw [e1];unfold plsW;rw [List.range'_eq_map_range,List.filter_map];rfl
def nthB (ws:List Int) (n m:Nat):Nat:=cntW ws 0 (min (64*m) n)
theorem nthB_zero (ws:List Int) (n:Nat):nthB ws n 0=0:=by simp [nthB,cntW]
theorem nthB_succ {ws:List Int} (hu:U64s ws) {n m:Nat} (hm:64*m<n):nthB ws n (m+1)=nthB ws n m+popI (cutV ws 0 n m):=by
 have e:=congrArg List.length (pl_word hu hm);rw [List.length_map,plI_length,plsW_length] at e;have e2:=congrArg List.length (plsW_app ws (a:=0) (b:=64*m) (d:=min (64*m+64) n) xo xo);rw [List.length_append,plsW_length,plsW_length,plsW_length] at e2;rw [nthB,nthB,show min (64*(m+1)) n=min (64*m+64) n by omega,show min (64*m) n=64*m by omega,e2,e]
theorem nth_hit {ws:List Int} (hu:U64s ws) {n m k:Nat} (hm:64*m<n) (hk:k<popI (cutV ws 0 n m)):nthB ws n m+k<(plsW ws 0 n).length∧64*m+(plI (cutV ws 0 n m)).getD k 0=(plsW ws 0 n).getD (nthB ws n m+k) 0:=by
 have e0:=pl_word hu hm;have hk2:k<(plI (cutV ws 0 n m)).length:=by rw [plI_length];exact hk
 have hk3:k<(plsW ws (64*m) (min (64*m+64) n)).length:=by rw [←e0,List.length_map];exact hk2
 have e1:=plsW_app ws (a:=0) (b:=min (64*m+64) n) (d:=n) xo xo;rw [plsW_app ws (a:=0) (b:=64*m) (d:=min (64*m+64) n) xo xo] at e1;have hB:nthB ws n m=(plsW ws 0 (64*m)).length:=by rw [plsW_length,nthB,show min (64*m) n=64*m by omega]
 refine ⟨?_,?_⟩
 · rw [e1,List.length_append,List.length_append,hB];omega
 · rw [e1,List.append_assoc,hB,List.getD_eq_getElem?_getD (l:=_++_),List.getElem?_append_right xo,show (plsW ws 0 (64*m)).length+k-(plsW ws 0 (64*m)).length=k by omega,List.getElem?_append_left hk3,←e0,List.getElem?_map,List.getD_eq_getElem?_getD,List.getElem?_eq_getElem hk2];rfl
theorem nth_miss {ws:List Int} {n m:Nat} (hm:n≤64*m):nthB ws n m=(plsW ws 0 n).length:=by rw [plsW_length,nthB,show min (64*m) n=n by omega]
end
section
open Go.RowKit
def topI (p:Nat→Bool):Nat→Int
  | 0=> -1
  | n+1=>if p n=true then n else topI p n
theorem topI_zero (p:Nat→Bool):topI p 0= -1:=rfl
theorem topI_yes {p:Nat→Bool} {n:Nat} (h:p n=true):topI p (n+1)=n:=by rw [topI,if_pos h]
theorem topI_no {p:Nat→Bool} {n:Nat} (h:p n=false):topI p (n+1)=topI p n:=by rw [topI,if_neg (by simp [h])]
theorem topI_cases (p:Nat→Bool):∀n,(topI p n= -1∧∀i,i<n→p i=false)∨∃k,k<n∧topI p n=(k:Nat)∧p k=true∧∀i,k<i→i<n→p i=false
  | 0=>Or.inl ⟨rfl,fun i hi=>by omega⟩
  | n +1=>by
   cases h:p n with
   | true=>exact Or.inr ⟨n,by omega,topI_yes h,h,fun i h1 h2=>by omega⟩
   | false=>
    rw [topI_no h];rcases topI_cases p n with ⟨e,hn⟩ | ⟨k,hk,e,hp,hn⟩
    · refine Or.inl ⟨e,fun i hi=> ?_⟩;rcases Nat.lt_or_ge i n with q|q
      · exact hn i q
      · rw [show i=n by omega];exact h
    · refine Or.inr ⟨k,by omega,e,hp,fun i h1 h2=> ?_⟩;rcases Nat.lt_or_ge i n with q|q
      · exact hn i h1 q
      · rw [show i=n by omega];exact h
theorem topI_bd (p:Nat→Bool) (n:Nat): -1≤topI p n∧topI p n<n∨(topI p n= -1∧n=0):=by
 rcases topI_cases p n with ⟨e,_⟩ | ⟨k,hk,e,_⟩<;>omega
def wnd (a h at_:Nat):Nat:=at_/2^(a+h)
theorem wnd_bd {a h H at_:Nat} (hh:h≤H) (hat:at_<2^a*2^H):(wnd a h at_+1)*2^h≤2^H∧wnd a h at_*2^(a+h)≤at_∧at_<(wnd a h at_+1)*2^(a+h)∧(wnd a h at_+1)*2^(a+h)≤2^a*2^H:=by
 have hp:=Nat.two_pow_pos (a+h);have e1:2^a*2^H=2^(H-h)*2^(a+h):=by rw [←Nat.pow_add,←Nat.pow_add];congr 1;omega
 have e2:2^H=2^(H-h)*2^h:=by rw [←Nat.pow_add];congr 1;omega
 have hw:wnd a h at_<2^(H-h):=by
  unfold wnd;rw [Nat.div_lt_iff_lt_mul hp,←e1];exact hat
 have h1:=Nat.div_mul_le_self at_ (2^(a+h));have h2:=Nat.lt_div_mul_add hp (a:=at_);refine ⟨?_,h1,?_,?_⟩
 · rw [e2];exact Nat.mul_le_mul_right _ hw
 · rw [Nat.succ_mul];exact h2
 · rw [e1];exact Nat.mul_le_mul_right _ hw
theorem wnd_seg (a h at_:Nat):wnd a h at_*2^(a+h)=wnd a h at_*2^h*2^a∧(wnd a h at_+1)*2^(a+h)=(wnd a h at_+1)*2^h*2^a∧wnd a h at_*2^(a+h)+2^(a+h)=(wnd a h at_+1)*2^(a+h):=by
 refine ⟨?_,?_,by rw [Nat.succ_mul]⟩
 · rw [Nat.pow_add,Nat.mul_comm (2^a),Nat.mul_assoc]
 · rw [Nat.pow_add,Nat.mul_comm (2^a),Nat.mul_assoc]
end
end Go.Proofs.YtmnlagmmbfjbeaaGreatDoor

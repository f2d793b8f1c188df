/- Merged: Emptied, PmCk, PmTw, PmTwR, PmNw. -/
import Derived.Test.YtookgoidlnlckaaGreatDoorGapTellsP22
import Derived.Test.YtookgoidlnlckaaGreatDoorGapTellsP11
import Derived.Test.YtookgoidlnlckaaGreatDoorGapTellsP12
import Derived.Test.YtookgoidlnlckaaGreatDoorGapTellsP25
import Derived.Test.YtookgoidlnlckaaGreatDoorGapTellsP10
import Derived.Test.YtookgoidlnlckaaGreatDoorGapTellsP16
import Derived.Test.YtookgoidlnlckaaGreatDoorGapTellsP23
import Derived.Test.YtookgoidlnlckaaGreatDoorGapTellsP2
import Derived.Test.YtookgoidlnlckaaGreatDoorGapTellsP6
import Derived.Test.YtookgoidlnlckaaGreatDoorGapTellsP15
import Derived.Test.YtookgoidlnlckaaGreatDoorGapTellsP4
import Derived.Test.YtookgoidlnlckaaGreatDoorGapTellsP7
import Derived.Test.YtookgoidlnlckaaGreatDoorGapTellsP24
namespace Go.Proofs.YtookgoidlnlckaaGreatDoor
set_option maxRecDepth 100000
set_option maxHeartbeats 40000000
set_option linter.unusedVariables false
set_option linter.unusedSimpArgs false
section
open Go.RowKit Go.Shelf
attribute [local go_sem] Oper.semAt_some
theorem Emptied_core (w:World) (seg:Int) (wa ka va ca:Option Addr) (wc kc vc cc lw n lc:Nat) (laid:Int) (c:SlC) (i S:Nat)
    (hgd:SlGd c S lw n lc) (hlw:0<lw) (hlc:0<lc) (hlw2:lw≤2000) (hin:i<n) (hbt:bitW c.ws i=true)
    (TW:Hid (∀W,Below w.heap.size w W→Calls Tryz.prog 5 #[.agg #[.int .i64 seg,.slice wa lw wc,.slice ka n kc,.slice va n vc,.slice ca lc cc,.int .u64 laid]] W (FreshSlN W c))):
    Calls Tryz.prog 76 #[.agg #[.int .i64 seg,.slice wa lw wc,.slice ka n kc,.slice va n vc,.slice ca lc cc,.int .u64 laid],.int .i64 i] w (FreshSl w (tkC c i)):=by
 have HGD:=hid hgd;have hn6:=hgd.nm;have hn1:=hgd.n1;have hS4:=hgd.s4;have hcn:=hgd.cn;have hwn:=hgd.wn;have hS64:=hgd.s64;have hLc:lc≤65536:=by
  have h9:1*lc≤S*lc:=Nat.mul_le_mul_right _ xo;omega
 have HCN:=hid hcn;have HBT:=hid hbt;clear hgd hcn hbt;go_enter Tryz.func76,Tryz.ntmps76
 go_wp2_with fail
 refine (TW.out _ xbel).mono ?_;rintro e w1 ⟨v1,v2,v3,v4,rfl,o1,o2,o3,o4,hb1,hne⟩;have hz_w1:=hb1.size;try simp only [World.size_alloc,World.size_setCell] at hz_w1
 have hh:=bc6 hb1 (au6 (al6 (b:=w.heap.size) (by simp)));obtain ⟨c_t0,c_t1,c_t2,c_t3,c_t4,c_t5⟩:=hh;have hh:=bf6 hb1 (auz (alz (b:=w.heap.size) (by simp))) (auf6 (alz (b:=w.heap.size) (by simp)) (alf6 (b:=w.heap.size) (by simp)));obtain ⟨f_t0,f_t1,f_t2,f_t3,f_t4,f_t5⟩:=hh;have z_t:=blt hb1 (auz (alz (b:=w.heap.size) (by simp)));have hh:=bc6 hb1 (al6 (b:=w.heap.size+1) (by simp));obtain ⟨c_r0,c_r1,c_r2,c_r3,c_r4,c_r5⟩:=hh;have hh:=bf6 hb1 (alz (b:=w.heap.size+1) (by simp)) (alf6 (b:=w.heap.size+1) (by simp));obtain ⟨f_r0,f_r1,f_r2,f_r3,f_r4,f_r5⟩:=hh;have z_r:=blt hb1 (alz (b:=w.heap.size+1) (by simp));have hB1:Below w.heap.size w w1:=xbel;have hz1:w.heap.size+2≤w1.heap.size:=xo;obtain ⟨g1,k1,rfl,hg1,-⟩:=owns_at o1 (by rw [HGD.out.elw];exact hlw);obtain ⟨g2,k2,rfl,hg2,-⟩:=owns_at o2 (by rw [HGD.out.elk];omega);obtain ⟨g3,k3,rfl,hg3,-⟩:=owns_at o3 (by rw [HGD.out.elv];omega);obtain ⟨g4,k4,rfl,hg4,-⟩:=owns_at o4 (by rw [HGD.out.elc];exact hlc);rw [HGD.out.elw] at o1;rw [HGD.out.elk] at o2;rw [HGD.out.elv] at o3;rw [HGD.out.elc] at o4;have n23:g2≠g3:=hne g2 g3 rfl rfl;rw [HGD.out.elw,HGD.out.elk,HGD.out.elv,HGD.out.elc];go_upto_region 2 with (fail)
 have hsx:=six_set (x:= .int .i64 c.seg) (y:= .slice (some ⟨g1,0,none⟩) lw k1) (z:= .slice (some ⟨g2,0,none⟩) n k2) (p:= .slice (some ⟨g3,0,none⟩) n k3) (q:= .slice (some ⟨g4,0,none⟩) lc k4) (r:= .int .u64 c.laid) c_t0 c_t1 c_t2 c_t3 c_t4 c_t5;have hfz:∀a:Addr,((((((w1.setCell ⟨w.heap.size,0,none⟩ (.int .i64 c.seg)).setCell ⟨w.heap.size,1,none⟩ (.slice (some ⟨g1,0,none⟩) lw k1)).setCell ⟨w.heap.size,2,none⟩ (.slice (some ⟨g2,0,none⟩) n k2)).setCell ⟨w.heap.size,3,none⟩ (.slice (some ⟨g3,0,none⟩) n k3)).setCell ⟨w.heap.size,4,none⟩ (.slice (some ⟨g4,0,none⟩) lc k4)).setCell ⟨w.heap.size,5,none⟩ (.int .u64 c.laid)).frozen? a=w1.frozen? a:=fun a=>by
  rw [World.frozen?_setCell,World.frozen?_setCell,World.frozen?_setCell,World.frozen?_setCell,World.frozen?_setCell,World.frozen?_setCell]
 clear c_t0 c_t1 c_t2 c_t3 c_t4 c_t5;generalize hw2:(((((w1.setCell ⟨w.heap.size,0,none⟩ (.int .i64 c.seg)).setCell ⟨w.heap.size,1,none⟩ (.slice (some ⟨g1,0,none⟩) lw k1)).setCell ⟨w.heap.size,2,none⟩ (.slice (some ⟨g2,0,none⟩) n k2)).setCell ⟨w.heap.size,3,none⟩ (.slice (some ⟨g3,0,none⟩) n k3)).setCell ⟨w.heap.size,4,none⟩ (.slice (some ⟨g4,0,none⟩) lc k4)).setCell ⟨w.heap.size,5,none⟩ (.int .u64 c.laid)=w2 at *;have c_t0:=hsx 0 _ rfl;have c_t1:=hsx 1 _ rfl;have c_t2:=hsx 2 _ rfl;have c_t3:=hsx 3 _ rfl;have c_t4:=hsx 4 _ rfl;have c_t5:=hsx 5 _ rfl;replace f_t1:=(hfz _).trans f_t1;replace f_t5:=(hfz _).trans f_t5;clear hsx;have hne2:∀q,q≠w.heap.size→w2.heap[q]? =w1.heap[q]? :=fun q hq=>by
  rw [←hw2,heap_setCell_ne _ _ _ hq,heap_setCell_ne _ _ _ hq,heap_setCell_ne _ _ _ hq,heap_setCell_ne _ _ _ hq,heap_setCell_ne _ _ _ hq,heap_setCell_ne _ _ _ hq]
 have hz2:w2.heap.size=w1.heap.size:=by rw [←hw2];simp
 have HK2:Hid (FilK w w2 w2):=hid ⟨by rw [←hw2];exact (((((hB1.setCell (Nat.le_refl _) _).setCell (Nat.le_refl _) _).setCell (Nat.le_refl _) _).setCell (Nat.le_refl _) _).setCell (Nat.le_refl _) _).setCell (Nat.le_refl _) _,fun _ _ _=>rfl,by omega⟩;have HF2:Hid (FilS (w.heap.size+2) w2 w.heap.size g1 g2 g3 g4 k1 k2 k3 k4 lw n lc c):=hid ⟨c_t0,c_t1,c_t2,c_t3,c_t4,c_t5,f_t1,f_t5,
   owns_heap (owns_base o1 (by simp)) fun j hj=>by cases hj;exact hne2 _ (by dsimp only;simp at hg1;omega),
   owns_heap (owns_base o2 (by simp)) fun j hj=>by cases hj;exact hne2 _ (by dsimp only;simp at hg2;omega),
   owns_heap (owns_base o3 (by simp)) fun j hj=>by cases hj;exact hne2 _ (by dsimp only;simp at hg3;omega),
   owns_heap (owns_base o4 (by simp)) fun j hj=>by cases hj;exact hne2 _ (by dsimp only;simp at hg4;omega),by omega,n23⟩
 have hrb:w2.heap[w.heap.size+1]? =w1.heap[w.heap.size+1]? :=hne2 _ xo;have rc:∀k,w2.cell? ⟨w.heap.size+1,k,none⟩=w1.cell? ⟨w.heap.size+1,k,none⟩:=fun k=>World.cell?_of_block (a:=⟨w.heap.size+1,k,none⟩) hrb
 have HR2:=hid (And.intro ((rc 0).trans c_r0) (And.intro ((rc 1).trans c_r1) (And.intro ((rc 2).trans c_r2) (And.intro ((rc 3).trans c_r3) (And.intro ((rc 4).trans c_r4) (And.intro ((rc 5).trans c_r5) (And.intro ((hfz _).trans f_r0) (And.intro ((hfz _).trans f_r1) (And.intro ((hfz _).trans f_r2) (And.intro ((hfz _).trans f_r3) (And.intro ((hfz _).trans f_r4) ((hfz _).trans f_r5))))))))))));replace hg2:w.heap.size+2≤g2:=by simpa using hg2
 replace hg3:w.heap.size+2≤g3:=by simpa using hg3
 replace hg4:w.heap.size+2≤g4:=by simpa using hg4
 clear hw2 hfz hrb rc hne2 o1 o2 o3 o4 hne hb1 hB1 hg1 c_t0 c_t1 c_t2 c_t3 c_t4 c_t5 f_t0 f_t1 f_t2 f_t3 f_t4 f_t5 c_r0 c_r1 c_r2 c_r3 c_r4 c_r5 f_r0 f_r1 f_r2 f_r3 f_r4 f_r5 TW;have hu:=HGD.out.u;have hel:=HGD.out.elw;have hcs:=HGD.out.cnt;have hsg:=HGD.out.seg;have HNX:=hid (rtC_eq (c:=c) hu i);obtain ⟨dseg,dws,dks,dvs,dcs,dlaid⟩:=c;dsimp only at hu hel hcs hsg;subst hsg;have hbt:=HBT.out;dsimp only at hbt;have HF:=HF2;have HK:=HK2;clear HF2 HK2 HGD HBT;obtain ⟨s,hs⟩:∃s,i/S=s:=⟨_,rfl⟩
 have hsl:s<lc:=by rw [←hs];exact Nat.div_lt_of_lt_mul (by rw [←HCN.out];omega)
 have hsT:(i:Int).tdiv (S:Int)=s:=by rw [Int.tdiv_eq_ediv_of_nonneg xo,←Int.natCast_ediv,hs]
 have hsw:IntKind.i64.wrap (s:Int)=s:=IntWalk.i64_in _ xo;have hs0:((S:Int)==0)=false:=by simp;omega
 have hs1:¬(S:Int)=0:=xo;have hs2:¬S=0:=xo;have hxn:i<n:=hin;have hcn:=hcs s hsl;have hcl:=cntW_le dws (s*S) ((s+1)*S);rw [win_wd] at hcl;obtain ⟨nx,hnx⟩:∃nx,dcs.getD s 0=nx:=⟨_,rfl⟩
 rw [hnx] at hcn;have hnw:IntKind.i64.wrap (nx-1)=nx-1:=IntWalk.i64_in _ xo;have HST:=hid (And.intro hs hnx);have hib:i/64<lw:=xo;clear hs hcs hcn hcl;obtain ⟨c0,c1,c2,c3,c4,c5,f1,f5,o1,o2,o3,o4,-,-⟩:=HF.out;dsimp only at c0 c1 c2 c3 c4 c5 o1 o2 o3 o4;obtain ⟨d4,e4⟩:=own_cells o4 (j:=s) hsl;obtain ⟨d2,e2⟩:=own_cells o2 (j:=i) hxn;obtain ⟨d3,e3⟩:=own_cells o3 (j:=i) hxn;clear o2 o3 o4;obtain ⟨_,_,he,R0,-⟩:=row_of_owns o1;cases he;have IS:=hid (fun W hb=>Is04_ok (S:Int) (some ⟨g1,0,none⟩) (some ⟨g2,0,none⟩) (some ⟨g3,0,none⟩) (some ⟨g4,0,none⟩) k1 k2 k3 k4 lw n n lc dlaid dws hel hu i hib xo W (R0.below hb));have PUT:=hid (fun W hw=>Put02_ok (some ⟨g1,0,none⟩) k1 dws hu i (by rw [hel];exact hib) xo false (by rw [hbt];rfl) W hw);rw [hel] at PUT;rw [hbt] at IS;clear R0;go_wp2_with fail
 refine (IS.out _ (Below.refl _ _)).mono ?_;rintro e w3 ⟨rfl,hb3⟩;have HF3:=hid (HF.out.below hb3);have HK3:=hid (HK.out.below hb3);clear hb3 IS HF HK;clear c0 c1 c2 c3 c4 c5 f1 f5 o1 d2 d3 d4 e2 e3 e4;obtain ⟨c0,c1,c2,c3,c4,c5,f1,f5,o1,o2,o3,o4,-,-⟩:=HF3.out;dsimp only at c0 c1 c2 c3 c4 c5 o1 o2 o3 o4;obtain ⟨d4,e4⟩:=own_cells o4 (j:=s) hsl;obtain ⟨d2,e2⟩:=own_cells o2 (j:=i) hxn;obtain ⟨d3,e3⟩:=own_cells o3 (j:=i) hxn;clear o2 o3 o4;rw [hnx] at d4;go_upto_region 3 with (fail)
 go_still_tail 10,xk
 go_upto_region 4 with (fail)
 have HF4:=hid ((HF3.out.setN s (nx-1)).drew);have HK4:=hid ((HK3.out.setCell (a:=⟨g4,s,none⟩) (.inr hg4) (.int .i64 (nx-1))).drew);generalize (w3.setCell ⟨g4,s,none⟩ (.int .i64 (nx-1))).drew=w4 at *;clear HF3 HK3;clear c0 c1 c2 c3 c4 c5 f1 f5 o1 d2 d3 d4 e2 e3 e4;obtain ⟨c0,c1,c2,c3,c4,c5,f1,f5,o1,o2,o3,o4,-,-⟩:=HF4.out;dsimp only at c0 c1 c2 c3 c4 c5 o1 o2 o3 o4;obtain ⟨d4,e4⟩:=own_cells o4 (j:=s) hsl;obtain ⟨d2,e2⟩:=own_cells o2 (j:=i) hxn;obtain ⟨d3,e3⟩:=own_cells o3 (j:=i) hxn;clear o2 o3 o4;obtain ⟨_,_,he,R4,-⟩:=row_of_owns o1;cases he;have P4:=hid (PUT.out w4 R4);clear R4 PUT;go_wp2_with fail
 refine P4.out.mono ?_;rintro e w5 ⟨v,rfl,ho,hb5⟩;rw [trnL_length,hel] at ho;obtain ⟨g,kk,rfl,hg,-⟩:=owns_at ho hlw;have HF6:=hid (HF4.out.setW hb5 ho HK4.out.size);have HK6:=hid ((HK4.out.below hb5).setCell (a:=⟨w.heap.size,1,none⟩) (.inl rfl) (.slice (some ⟨g,0,none⟩) lw kk));have HF5:=hid (HF4.out.below hb5);clear ho hg hb5 P4;clear c0 c1 c2 c3 c4 c5 f1 f5 o1 d2 d3 d4 e2 e3 e4;obtain ⟨c0,c1,c2,c3,c4,c5,f1,f5,o1,o2,o3,o4,-,-⟩:=HF5.out;dsimp only at c0 c1 c2 c3 c4 c5 o1 o2 o3 o4;obtain ⟨d4,e4⟩:=own_cells o4 (j:=s) hsl;obtain ⟨d2,e2⟩:=own_cells o2 (j:=i) hxn;obtain ⟨d3,e3⟩:=own_cells o3 (j:=i) hxn;clear o2 o3 o4;go_upto_region 5 with (fail)
 generalize w5.setCell ⟨w.heap.size,1,none⟩ (.slice (some ⟨g,0,none⟩) lw kk)=w6 at *;clear HF5;clear c0 c1 c2 c3 c4 c5 f1 f5 o1 d2 d3 d4 e2 e3 e4;obtain ⟨c0,c1,c2,c3,c4,c5,f1,f5,o1,o2,o3,o4,-,-⟩:=HF6.out;dsimp only at c0 c1 c2 c3 c4 c5 o1 o2 o3 o4;obtain ⟨d4,e4⟩:=own_cells o4 (j:=s) hsl;obtain ⟨d2,e2⟩:=own_cells o2 (j:=i) hxn;obtain ⟨d3,e3⟩:=own_cells o3 (j:=i) hxn;clear o2 o3 o4;go_upto_region 6 with (fail)
 have HF7:=hid (HF6.out.setK i 0);have HK7:=hid (HK6.out.setCell (a:=⟨g2,i,none⟩) (.inr hg2) (.int .i64 0));generalize w6.setCell ⟨g2,i,none⟩ (.int .i64 0)=w7 at *;clear HF6 HK6;clear c0 c1 c2 c3 c4 c5 f1 f5 o1 d2 d3 d4 e2 e3 e4;obtain ⟨c0,c1,c2,c3,c4,c5,f1,f5,o1,o2,o3,o4,-,-⟩:=HF7.out;dsimp only at c0 c1 c2 c3 c4 c5 o1 o2 o3 o4;obtain ⟨d4,e4⟩:=own_cells o4 (j:=s) hsl;obtain ⟨d2,e2⟩:=own_cells o2 (j:=i) hxn;obtain ⟨d3,e3⟩:=own_cells o3 (j:=i) hxn;clear o2 o3 o4;go_upto_region 7 with (fail)
 have HF8':=hid (HF7.out.setV i 0);have HK8:=hid (HK7.out.setCell (a:=⟨g3,i,none⟩) (.inr hg3) (.int .i64 0));generalize w7.setCell ⟨g3,i,none⟩ (.int .i64 0)=w8 at *;clear HF7 HK7;clear c0 c1 c2 c3 c4 c5 f1 f5 o1 d2 d3 d4 e2 e3 e4;have HF8:Hid (FilS (w.heap.size+2) w8 w.heap.size g g2 g3 g4 kk k2 k3 k4 lw n lc (tkC ⟨S,dws,dks,dvs,dcs,dlaid⟩ i)):=hid (by
  rw [←HNX.out,rtC,if_pos hbt];dsimp only;rw [Int.toNat_natCast,HST.out.1,HST.out.2];exact HF8'.out)
 clear HF8' HNX HST hbt hu hel hnx;generalize tkC ⟨S,dws,dks,dvs,dcs,dlaid⟩ i=d at *;obtain ⟨c0,c1,c2,c3,c4,c5,f1,f5,p1,p2,p3,p4,-,-⟩:=HF8.out;have l1:=own_len p1;have l2:=own_len p2;have l3:=own_len p3;have l4:=own_len p4;obtain ⟨r0,r1,r2,r3,r4,r5,t0,t1,t2,t3,t4,t5⟩:=HR2.out;have hrb:=HK8.out.keep (w.heap.size+1) xo xo;have rc:∀k,w8.cell? ⟨w.heap.size+1,k,none⟩=w2.cell? ⟨w.heap.size+1,k,none⟩:=fun k=>World.cell?_of_block (a:=⟨w.heap.size+1,k,none⟩) hrb
 have rf:∀k,w8.frozen? ⟨w.heap.size+1,k,none⟩=w2.frozen? ⟨w.heap.size+1,k,none⟩:=fun k=>World.frozen?_of_block (a:=⟨w.heap.size+1,k,none⟩) hrb
 replace r0:=(rc 0).trans r0;replace r1:=(rc 1).trans r1;replace r2:=(rc 2).trans r2;replace r3:=(rc 3).trans r3;replace r4:=(rc 4).trans r4;replace r5:=(rc 5).trans r5;replace t0:=(rf 0).trans t0;replace t1:=(rf 1).trans t1;replace t2:=(rf 2).trans t2;replace t3:=(rf 3).trans t3;replace t4:=(rf 4).trans t4;replace t5:=(rf 5).trans t5;have hzr:=HK8.out.size;have HP1:=hid (owns_base p1 (by omega:w.heap.size≤w.heap.size+2));have HP2:=hid (owns_base p2 (by omega:w.heap.size≤w.heap.size+2));have HP3:=hid (owns_base p3 (by omega:w.heap.size≤w.heap.size+2));have HP4:=hid (owns_base p4 (by omega:w.heap.size≤w.heap.size+2));have HN1:=hid (And.intro (p1.lt g rfl).1 (And.intro (p2.lt g2 rfl).1 (And.intro (p3.lt g3 rfl).1 (p4.lt g4 rfl).1)));have HLN:=hid (And.intro l1 (And.intro l2 (And.intro l3 l4)));have HB:=hid HK8.out.bel;clear rc rf hrb p1 p2 p3 p4 l1 l2 l3 l4;go_wp2
 have HQ:Hid (∀q,q≠w.heap.size+1→((((((w8.setCell ⟨w.heap.size+1,0,none⟩ (.int .i64 d.seg)).setCell ⟨w.heap.size+1,1,none⟩ (.slice (some ⟨g,0,none⟩) lw kk)).setCell ⟨w.heap.size+1,2,none⟩ (.slice (some ⟨g2,0,none⟩) n k2)).setCell ⟨w.heap.size+1,3,none⟩ (.slice (some ⟨g3,0,none⟩) n k3)).setCell ⟨w.heap.size+1,4,none⟩ (.slice (some ⟨g4,0,none⟩) lc k4)).setCell ⟨w.heap.size+1,5,none⟩ (.int .u64 d.laid)).heap[q]? =w8.heap[q]?):=hid fun q hq=>by
  rw [heap_setCell_ne _ _ _ hq,heap_setCell_ne _ _ _ hq,heap_setCell_ne _ _ _ hq,heap_setCell_ne _ _ _ hq,heap_setCell_ne _ _ _ hq,heap_setCell_ne _ _ _ hq]
 refine bodyPost_ret (results_c rfl rfl (run_loadVar_many _ Tryz.underlying29 rfl xk (six_set r0 r1 r2 r3 r4 r5))) rfl ⟨_,_,_,_,rfl,?_,?_,?_,?_,?_⟩
 · rw [HLN.out.1];exact owns_heap HP1.out fun j hj=>by cases hj;exact HQ.out _ (by have:=HN1.out.1;dsimp only;omega)
 · rw [HLN.out.2.1];exact owns_heap HP2.out fun j hj=>by cases hj;exact HQ.out _ (by have:=HN1.out.2.1;dsimp only;omega)
 · rw [HLN.out.2.2.1];exact owns_heap HP3.out fun j hj=>by cases hj;exact HQ.out _ (by have:=HN1.out.2.2.1;dsimp only;omega)
 · rw [HLN.out.2.2.2];exact owns_heap HP4.out fun j hj=>by cases hj;exact HQ.out _ (by have:=HN1.out.2.2.2;dsimp only;omega)
 · exact (((((HB.out.setCell xdo _).setCell xdo _).setCell xdo _).setCell xdo _).setCell xdo _).setCell xdo _
end
section
open Go.RowKit
end
section
open Go.RowKit
end
section
open Go.RowKit Go.Shelf
attribute [local go_sem] Oper.semAt_some
end
section
open Go.RowKit
theorem least_nums {c:Cfg} (h:cfMay c=true):∃S M:Nat,c.seg=S∧c.least=((S*M:Nat):Int)∧4≤S∧S≤64∧1≤M∧S*M≤65536∧pwB (S:Int)=true∧pwB (M:Int)=true:=by
 have f:=cfHead_facts (cfMay_head h);obtain ⟨s1,s2,a,ea⟩:=powB_nat f.2.2.2.2.1;obtain ⟨l1,l2,b,eb⟩:=powB_nat f.2.2.2.2.2.1;have hab:a≤b:=(Nat.pow_le_pow_iff_right (a:=2) xo).1 xo;have e:2^b=2^a*2^(b-a):=by rw [←Nat.pow_add,show a+(b-a)=b by omega]
 exact ⟨2^a,2^(b-a),ea,by rw [eb,e],by omega,by omega,Nat.two_pow_pos _,by rw [←e];omega,pwB_two _,pwB_two _⟩
def emptyC (c:Cfg):SlC:=emptyL c.seg.toNat (c.least.toNat/c.seg.toNat) 0
def newC (c:Cfg):SlC:=if cfMay c=true then emptyC c else nilC
theorem emptyC_eq {c:Cfg} {S M:Nat} (h1:c.seg=S) (h2:c.least=((S*M:Nat):Int)) (h4:4≤S):emptyC c=emptyL S M 0:=by
 rw [emptyC,h1,h2,Int.toNat_natCast,Int.toNat_natCast,Nat.mul_div_cancel_left _ xo]
theorem newSl_ok {c:Cfg} (h:cfMay c=true) (w:World):Calls Tryz.prog 17 #[.int .i64 c.seg,.int .i64 c.least] w (FreshSl2 w (emptyC c) (.int .i64 0)):=by
 obtain ⟨S,M,h1,h2,h4,h6,hM,hm,pS,pM⟩:=least_nums h;obtain ⟨q1,q2,q3,q4⟩:=new_nums (M:=M) h4 hm;rw [emptyC_eq h1 h2 h4,h1,h2];have ge:=emptyL_gd h4 h6 hM hm 0;have gm:=gd_may ge pS pM rfl;refine slNew_core w S (S*M) ((S*M+63)/64) M h4 hm h6 q1 q2 xo q4 (hid fun W'=> ?_);have:=fits_ok (S:Int) ((S*M:Nat):Int) W';rwa [gd_fit ge gm] at this
theorem emptySl_ok {c:Cfg} (h:cfMay c=true) (w:World):Calls Tryz.prog 19 #[.int .i64 c.seg,.int .i64 c.least] w (FreshSl w (emptyC c)):=by
 obtain ⟨S,M,h1,h2,h4,h6,hM,hm,pS,pM⟩:=least_nums h;obtain ⟨q1,q2,q3,q4⟩:=new_nums (M:=M) h4 hm;rw [emptyC_eq h1 h2 h4,h1,h2];exact Empty04_core w S (S*M) ((S*M+63)/64) M h4 hm h6 q1 q2 xo q4
theorem gapNew_err (c:Cfg) (e:Int) (he:e≠0) (w:World) (CK:Hid (∀W,Calls Tryz.prog 16 #[.agg #[.int .u8 c.tag,.int .i64 c.most,.int .i64 c.seg,.int .i64 c.least,.int .i64 c.den,.int .i64 c.ll,.int .i64 c.rl,.int .i64 c.rh,.int .i64 c.lh]] W (AnsB W (.int .i64 e)))):
    Calls Tryz.prog 6 #[.agg #[.int .u8 c.tag,.int .i64 c.most,.int .i64 c.seg,.int .i64 c.least,.int .i64 c.den,.int .i64 c.ll,.int .i64 c.rl,.int .i64 c.rh,.int .i64 c.lh]] w (FreshSl2 w nilC (.int .i64 e)):=by
 have ge:(e != 0)=true:=by simpa using he
 clear he;go_enter Tryz.func6,Tryz.ntmps6
 go_wp2_with fail
 refine (CK.out _).mono ?_;rintro e w1 ⟨rfl,hb1⟩;have hz_w1:=hb1.size;try simp only [World.size_alloc,World.size_setCell] at hz_w1
 have hh:=bc9 hb1 (au9 (al9 (b:=w.heap.size) (by simp)));obtain ⟨c_t0,c_t1,c_t2,c_t3,c_t4,c_t5,c_t6,c_t7,c_t8⟩:=hh;have z_t:=blt hb1 (auz (alz (b:=w.heap.size) (by simp)));have hh:=bc6 hb1 (al6 (b:=w.heap.size+1) (by simp));obtain ⟨c_r0,c_r1,c_r2,c_r3,c_r4,c_r5⟩:=hh;have hh:=bf6 hb1 (alz (b:=w.heap.size+1) (by simp)) (alf6 (b:=w.heap.size+1) (by simp));obtain ⟨f_r0,f_r1,f_r2,f_r3,f_r4,f_r5⟩:=hh;have z_r:=blt hb1 (alz (b:=w.heap.size+1) (by simp));have hB1:Below w.heap.size w w1:=xbel;go_wp2
 have HC:=hid (six_some ⟨c_r0,c_r1,c_r2,c_r3,c_r4,c_r5⟩);refine bodyPost_ret (results_ct rfl rfl (run_loadVar_many _ Tryz.underlying29 rfl xk (setCs_all (W:=w1) (b:=w.heap.size+1) (l:=[.int .i64 0,.slice none 0 0,.slice none 0 0,.slice none 0 0,.slice none 0 0,.int .u64 0]) HC.out))) rfl ⟨_,_,_,_,rfl,?_,?_,?_,?_,?_⟩
 · exact World.ownsRow_nil _ _ _ _
 · exact World.ownsRow_nil _ _ _ _
 · exact World.ownsRow_nil _ _ _ _
 · exact World.ownsRow_nil _ _ _ _
 · exact setCs_below (b:=w.heap.size+1) xo [.int .i64 0,.slice none 0 0,.slice none 0 0,.slice none 0 0,.slice none 0 0,.int .u64 0] _ 0 hB1
theorem gapNew_in (c:Cfg) (d:SlC) (w:World) (CK:Hid (∀W,Calls Tryz.prog 16 #[.agg #[.int .u8 c.tag,.int .i64 c.most,.int .i64 c.seg,.int .i64 c.least,.int .i64 c.den,.int .i64 c.ll,.int .i64 c.rl,.int .i64 c.rh,.int .i64 c.lh]] W (AnsB W (.int .i64 0)))) (NW:Hid (∀W,Calls Tryz.prog 17 #[.int .i64 c.seg,.int .i64 c.least] W (FreshSl2 W d (.int .i64 0)))):
    Calls Tryz.prog 6 #[.agg #[.int .u8 c.tag,.int .i64 c.most,.int .i64 c.seg,.int .i64 c.least,.int .i64 c.den,.int .i64 c.ll,.int .i64 c.rl,.int .i64 c.rh,.int .i64 c.lh]] w (FreshSl2 w d (.int .i64 0)):=by
 go_enter Tryz.func6,Tryz.ntmps6
 go_wp2_with fail
 refine (CK.out _).mono ?_;rintro e w1 ⟨rfl,hb1⟩;have hz_w1:=hb1.size;try simp only [World.size_alloc,World.size_setCell] at hz_w1
 have hh:=bc9 hb1 (au9 (al9 (b:=w.heap.size) (by simp)));obtain ⟨c_t0,c_t1,c_t2,c_t3,c_t4,c_t5,c_t6,c_t7,c_t8⟩:=hh;have z_t:=blt hb1 (auz (alz (b:=w.heap.size) (by simp)));have hh:=bc6 hb1 (al6 (b:=w.heap.size+1) (by simp));obtain ⟨c_r0,c_r1,c_r2,c_r3,c_r4,c_r5⟩:=hh;have hh:=bf6 hb1 (alz (b:=w.heap.size+1) (by simp)) (alf6 (b:=w.heap.size+1) (by simp));obtain ⟨f_r0,f_r1,f_r2,f_r3,f_r4,f_r5⟩:=hh;have z_r:=blt hb1 (alz (b:=w.heap.size+1) (by simp));have hB1:Below w.heap.size w w1:=xbel;have hz1:=z_r;go_wp2_with fail
 refine (NW.out _).mono ?_;rintro e w2 ⟨v1,v2,v3,v4,rfl,p1,p2,p3,p4,hb2⟩;have hz_w2:=hb2.size;simp (disch:=omega) only [xcl hb2,xfr hb2] at c_t0 c_t1 c_t2 c_t3 c_t4 c_t5 c_t6 c_t7 c_t8 c_r0 c_r1 c_r2 c_r3 c_r4 c_r5 f_r0 f_r1 f_r2 f_r3 f_r4 f_r5;replace z_t:=blt hb2 z_t;replace z_r:=blt hb2 z_r;have hB2:=below_via hb2 hB1 hB1.size;obtain ⟨a1,k1,rfl,-,-,-,-,-⟩:=row_of_owns p1;obtain ⟨a2,k2,rfl,-,-,-,-,-⟩:=row_of_owns p2;obtain ⟨a3,k3,rfl,-,-,-,-,-⟩:=row_of_owns p3;obtain ⟨a4,k4,rfl,-,-,-,-,-⟩:=row_of_owns p4;have HP:=hid (And.intro p1 (And.intro p2 (And.intro p3 p4)));clear p1 p2 p3 p4;go_wp2
 have HC:=hid (six_some ⟨c_r0,c_r1,c_r2,c_r3,c_r4,c_r5⟩);refine bodyPost_ret (results_ct rfl rfl (run_loadVar_many _ Tryz.underlying29 rfl xk (setCs_all (W:=w2) (b:=w.heap.size+1) (l:=[.int .i64 d.seg,.slice a1 d.ws.length k1,.slice a2 d.ks.length k2,.slice a3 d.vs.length k3,.slice a4 d.cs.length k4,.int .u64 d.laid]) HC.out))) rfl ⟨_,_,_,_,rfl,?_,?_,?_,?_,?_⟩
 · exact owns_base (setCs_owns (b:=w.heap.size+1) (i:=0) hz1 [.int .i64 d.seg,.slice a1 d.ws.length k1,.slice a2 d.ks.length k2,.slice a3 d.vs.length k3,.slice a4 d.cs.length k4,.int .u64 d.laid] HP.out.1) xo
 · exact owns_base (setCs_owns (b:=w.heap.size+1) (i:=0) hz1 [.int .i64 d.seg,.slice a1 d.ws.length k1,.slice a2 d.ks.length k2,.slice a3 d.vs.length k3,.slice a4 d.cs.length k4,.int .u64 d.laid] HP.out.2.1) xo
 · exact owns_base (setCs_owns (b:=w.heap.size+1) (i:=0) hz1 [.int .i64 d.seg,.slice a1 d.ws.length k1,.slice a2 d.ks.length k2,.slice a3 d.vs.length k3,.slice a4 d.cs.length k4,.int .u64 d.laid] HP.out.2.2.1) xo
 · exact owns_base (setCs_owns (b:=w.heap.size+1) (i:=0) hz1 [.int .i64 d.seg,.slice a1 d.ws.length k1,.slice a2 d.ks.length k2,.slice a3 d.vs.length k3,.slice a4 d.cs.length k4,.int .u64 d.laid] HP.out.2.2.2) xo
 · exact setCs_below (b:=w.heap.size+1) xo [.int .i64 d.seg,.slice a1 d.ws.length k1,.slice a2 d.ks.length k2,.slice a3 d.vs.length k3,.slice a4 d.cs.length k4,.int .u64 d.laid] _ 0 hB2
theorem gapNew_ok (c:Cfg) (w:World):Calls Tryz.prog 6 #[.agg #[.int .u8 c.tag,.int .i64 c.most,.int .i64 c.seg,.int .i64 c.least,.int .i64 c.den,.int .i64 c.ll,.int .i64 c.rl,.int .i64 c.rh,.int .i64 c.lh]] w (FreshSl2 w (newC c) (.int .i64 (cfE c))):=by
 cases h:cfMay c with
 | true=>
  have e:cfE c=0:=cfE_ok h;rw [newC,if_pos h,e];exact gapNew_in c (emptyC c) w (hid fun W=>e ▸ Check5_ok c W) (hid fun W=>newSl_ok h W)
 | false=>
  have e:cfE c=50:=by simp [cfE,h]
  rw [newC,if_neg (by simp [h]),e];exact gapNew_err c 50 (by decide) w (hid fun W=>e ▸ Check5_ok c W)
end
end Go.Proofs.YtookgoidlnlckaaGreatDoor

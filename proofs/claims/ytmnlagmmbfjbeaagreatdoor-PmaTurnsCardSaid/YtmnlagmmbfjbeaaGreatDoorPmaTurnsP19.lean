/- Merged: With4, SlLayW, RangeE, Path, OccNth. -/
import Derived.Test.YtmnlagmmbfjbeaaGreatDoorPmaTurnsP18
import Derived.Test.YtmnlagmmbfjbeaaGreatDoorPmaTurnsP13
import Derived.Test.YtmnlagmmbfjbeaaGreatDoorPmaTurnsP2
import Derived.Test.YtmnlagmmbfjbeaaGreatDoorPmaTurnsP7
import Derived.Test.YtmnlagmmbfjbeaaGreatDoorPmaTurnsP14
import Derived.Test.YtmnlagmmbfjbeaaGreatDoorPmaTurnsP15
import Derived.Test.YtmnlagmmbfjbeaaGreatDoorPmaTurnsP10
namespace Go.Proofs.YtmnlagmmbfjbeaaGreatDoor
set_option maxRecDepth 100000
set_option maxHeartbeats 40000000
set_option linter.unusedVariables false
set_option linter.unusedSimpArgs false
section
open Go.RowKit Go.Shelf
attribute [local go_sem] Oper.semAt_some
structure FilK3 (w w2 W:World):Prop where
 bel:Below w.heap.size w W
 keep:∀q,q<w.heap.size+3→q≠w.heap.size→W.heap[q]? =w2.heap[q]?
 size:w.heap.size+3≤W.heap.size
theorem FilK3.below {w w2 W W':World} (h:FilK3 w w2 W) (hb:Below W.heap.size W W'):FilK3 w w2 W':=
  ⟨below_via hb h.bel (by have:=h.size;omega),fun q hq hne=>(hb.block q (by have:=h.size;omega)).trans (h.keep q hq hne),Nat.le_trans h.size hb.size⟩
theorem FilK3.drew {w w2 W:World} (h:FilK3 w w2 W):FilK3 w w2 W.drew:=⟨h.bel.drew,h.keep,h.size⟩
theorem FilK3.setCell {w w2 W:World} (h:FilK3 w w2 W) {a:Addr} (ha:a.block=w.heap.size∨w.heap.size+3≤a.block) (v:Value):FilK3 w w2 (W.setCell a v):=
  ⟨h.bel.setCell xo v,fun q hq hne=>(heap_setCell_ne _ _ _ xo).trans (h.keep q hq hne),by rw [World.size_setCell];exact h.size⟩
theorem With4_core (w:World) (seg:Int) (wa ka va ca:Option Addr) (wc kc vc cc lw n lc:Nat) (laid:Int) (d:SlC) (i S:Nat) (x y:Int)
    (hgd:SlGd d S lw n lc) (hlw:0<lw) (hlc:0<lc) (hlw2:lw≤2000) (hin:i<n) (hfr:bitW d.ws i=false)
    (EM:Hid (∀W,Below w.heap.size w W→Calls Tryz.prog 122 #[.agg #[.int .i64 seg,.slice wa lw wc,.slice ka n kc,.slice va n vc,.slice ca lc cc,.int .u64 laid],.int .i64 i] W (FreshSlN W d))):
    Calls Tryz.prog 82 #[.agg #[.int .i64 seg,.slice wa lw wc,.slice ka n kc,.slice va n vc,.slice ca lc cc,.int .u64 laid],.int .i64 i,.agg #[.int .i64 x,.int .i64 y]] w (FreshSl w (rlC d i x y)):=by
 have HGD:=hid hgd;have hn6:=hgd.nm;have hn1:=hgd.n1;have hS4:=hgd.s4;have hcn:=hgd.cn;have hwn:=hgd.wn;have hS64:=hgd.s64;have hLc:lc≤65536:=by
  have h9:1*lc≤S*lc:=Nat.mul_le_mul_right _ xo;omega
 have HCN:=hid hcn;have HFR:=hid hfr;clear hgd hcn hfr;go_enter Tryz.func82,Tryz.ntmps82
 go_wp2_with fail
 refine (EM.out _ xbel).mono ?_;rintro e w1 ⟨v1,v2,v3,v4,rfl,o1,o2,o3,o4,hb1,hne⟩;have hz_w1:=hb1.size;try simp only [World.size_alloc,World.size_setCell] at hz_w1
 have hh:=bc6 hb1 (au6 (au6 (al6 (b:=w.heap.size) xsi)));obtain ⟨c_t0,c_t1,c_t2,c_t3,c_t4,c_t5⟩:=hh;have hh:=bf6 hb1 (auz (auz (alz (b:=w.heap.size) xsi))) (auf6 (auz (alz (b:=w.heap.size) xsi)) (auf6 (alz (b:=w.heap.size) xsi) (alf6 (b:=w.heap.size) xsi)));obtain ⟨f_t0,f_t1,f_t2,f_t3,f_t4,f_t5⟩:=hh;have z_t:=blt hb1 (auz (auz (alz (b:=w.heap.size) xsi)));have hh:=bc2 hb1 (au2 (al2 (b:=w.heap.size+1) xsi));obtain ⟨c_p0,c_p1⟩:=hh;have z_p:=blt hb1 (auz (alz (b:=w.heap.size+1) xsi));have hh:=bc6 hb1 (al6 (b:=w.heap.size+1+1) xsi);obtain ⟨c_r0,c_r1,c_r2,c_r3,c_r4,c_r5⟩:=hh;have hh:=bf6 hb1 (alz (b:=w.heap.size+1+1) xsi) (alf6 (b:=w.heap.size+1+1) xsi);obtain ⟨f_r0,f_r1,f_r2,f_r3,f_r4,f_r5⟩:=hh;have z_r:=blt hb1 (alz (b:=w.heap.size+1+1) xsi);have hB1:Below w.heap.size w w1:=xbel;have hz1:w.heap.size+3≤w1.heap.size:=xo;obtain ⟨g1,k1,rfl,hg1,-⟩:=owns_at o1 (by rw [HGD.out.elw];exact hlw);obtain ⟨g2,k2,rfl,hg2,-⟩:=owns_at o2 (by rw [HGD.out.elk];omega);obtain ⟨g3,k3,rfl,hg3,-⟩:=owns_at o3 (by rw [HGD.out.elv];omega);obtain ⟨g4,k4,rfl,hg4,-⟩:=owns_at o4 (by rw [HGD.out.elc];exact hlc);rw [HGD.out.elw] at o1;rw [HGD.out.elk] at o2;rw [HGD.out.elv] at o3;rw [HGD.out.elc] at o4;have n23:g2≠g3:=hne g2 g3 rfl rfl;rw [HGD.out.elw,HGD.out.elk,HGD.out.elv,HGD.out.elc];go_upto_region 2 with (fail)
 have hsx:=six_set (x:= .int .i64 d.seg) (y:= .slice (some ⟨g1,0,none⟩) lw k1) (z:= .slice (some ⟨g2,0,none⟩) n k2) (p:= .slice (some ⟨g3,0,none⟩) n k3) (q:= .slice (some ⟨g4,0,none⟩) lc k4) (r:= .int .u64 d.laid) c_t0 c_t1 c_t2 c_t3 c_t4 c_t5;have hfz:∀a:Addr,((((((w1.setCell ⟨w.heap.size,0,none⟩ (.int .i64 d.seg)).setCell ⟨w.heap.size,1,none⟩ (.slice (some ⟨g1,0,none⟩) lw k1)).setCell ⟨w.heap.size,2,none⟩ (.slice (some ⟨g2,0,none⟩) n k2)).setCell ⟨w.heap.size,3,none⟩ (.slice (some ⟨g3,0,none⟩) n k3)).setCell ⟨w.heap.size,4,none⟩ (.slice (some ⟨g4,0,none⟩) lc k4)).setCell ⟨w.heap.size,5,none⟩ (.int .u64 d.laid)).frozen? a=w1.frozen? a:=fun a=>by
  rw [World.frozen?_setCell,World.frozen?_setCell,World.frozen?_setCell,World.frozen?_setCell,World.frozen?_setCell,World.frozen?_setCell]
 clear c_t0 c_t1 c_t2 c_t3 c_t4 c_t5;generalize hw2:(((((w1.setCell ⟨w.heap.size,0,none⟩ (.int .i64 d.seg)).setCell ⟨w.heap.size,1,none⟩ (.slice (some ⟨g1,0,none⟩) lw k1)).setCell ⟨w.heap.size,2,none⟩ (.slice (some ⟨g2,0,none⟩) n k2)).setCell ⟨w.heap.size,3,none⟩ (.slice (some ⟨g3,0,none⟩) n k3)).setCell ⟨w.heap.size,4,none⟩ (.slice (some ⟨g4,0,none⟩) lc k4)).setCell ⟨w.heap.size,5,none⟩ (.int .u64 d.laid)=w2 at *;have c_t0:=hsx 0 _ rfl;have c_t1:=hsx 1 _ rfl;have c_t2:=hsx 2 _ rfl;have c_t3:=hsx 3 _ rfl;have c_t4:=hsx 4 _ rfl;have c_t5:=hsx 5 _ rfl;replace f_t1:=(hfz _).trans f_t1;replace f_t5:=(hfz _).trans f_t5;clear hsx;have hne2:∀q,q≠w.heap.size→w2.heap[q]? =w1.heap[q]? :=fun q hq=>by
  rw [←hw2,heap_setCell_ne _ _ _ hq,heap_setCell_ne _ _ _ hq,heap_setCell_ne _ _ _ hq,heap_setCell_ne _ _ _ hq,heap_setCell_ne _ _ _ hq,heap_setCell_ne _ _ _ hq]
 have hz2:w2.heap.size=w1.heap.size:=by rw [←hw2];simp
 have HK2:Hid (FilK3 w w2 w2):=hid ⟨by rw [←hw2];exact (((((hB1.setCell (Nat.le_refl _) _).setCell (Nat.le_refl _) _).setCell (Nat.le_refl _) _).setCell (Nat.le_refl _) _).setCell (Nat.le_refl _) _).setCell (Nat.le_refl _) _,fun _ _ _=>rfl,by omega⟩;have HF2:Hid (FilS (w.heap.size+3) w2 w.heap.size g1 g2 g3 g4 k1 k2 k3 k4 lw n lc d):=hid ⟨c_t0,c_t1,c_t2,c_t3,c_t4,c_t5,f_t1,f_t5,
   owns_heap (owns_base o1 xsi) fun j hj=>by cases hj;exact hne2 _ (by dsimp only;simp at hg1;omega),
   owns_heap (owns_base o2 xsi) fun j hj=>by cases hj;exact hne2 _ (by dsimp only;simp at hg2;omega),
   owns_heap (owns_base o3 xsi) fun j hj=>by cases hj;exact hne2 _ (by dsimp only;simp at hg3;omega),
   owns_heap (owns_base o4 xsi) fun j hj=>by cases hj;exact hne2 _ (by dsimp only;simp at hg4;omega),by omega,n23⟩
 have hpb:w2.heap[w.heap.size+1]? =w1.heap[w.heap.size+1]? :=hne2 _ xo;have HPB:=hid (And.intro ((World.cell?_of_block (a:=⟨w.heap.size+1,0,none⟩) hpb).trans c_p0) ((World.cell?_of_block (a:=⟨w.heap.size+1,1,none⟩) hpb).trans c_p1));have hrb:w2.heap[w.heap.size+1+1]? =w1.heap[w.heap.size+1+1]? :=hne2 _ xo;have rc:∀k,w2.cell? ⟨w.heap.size+1+1,k,none⟩=w1.cell? ⟨w.heap.size+1+1,k,none⟩:=fun k=>World.cell?_of_block (a:=⟨w.heap.size+1+1,k,none⟩) hrb
 have HR2:=hid (And.intro ((rc 0).trans c_r0) (And.intro ((rc 1).trans c_r1) (And.intro ((rc 2).trans c_r2) (And.intro ((rc 3).trans c_r3) (And.intro ((rc 4).trans c_r4) (And.intro ((rc 5).trans c_r5) (And.intro ((hfz _).trans f_r0) (And.intro ((hfz _).trans f_r1) (And.intro ((hfz _).trans f_r2) (And.intro ((hfz _).trans f_r3) (And.intro ((hfz _).trans f_r4) ((hfz _).trans f_r5))))))))))));replace hg2:w.heap.size+3≤g2:=by simpa using hg2
 replace hg3:w.heap.size+3≤g3:=by simpa using hg3
 replace hg4:w.heap.size+3≤g4:=by simpa using hg4
 clear hw2 hfz hrb rc hne2 o1 o2 o3 o4 hne hb1 hB1 hg1 c_t0 c_t1 c_t2 c_t3 c_t4 c_t5 f_t0 f_t1 f_t2 f_t3 f_t4 f_t5 hpb c_p0 c_p1 c_r0 c_r1 c_r2 c_r3 c_r4 c_r5 f_r0 f_r1 f_r2 f_r3 f_r4 f_r5 EM;have hu:=HGD.out.u;have hel:=HGD.out.elw;have hcs:=HGD.out.cnt;have hsg:=HGD.out.seg;obtain ⟨dseg,dws,dks,dvs,dcs,dlaid⟩:=d;dsimp only at hu hel hcs hsg;subst hsg;have hfr:=HFR.out;dsimp only at hfr;have HF:=HF2;have HK:=HK2;clear HF2 HK2 HGD HFR;obtain ⟨s,hs⟩:∃s,i/S=s:=⟨_,rfl⟩
 have hsl:s<lc:=by rw [←hs];exact Nat.div_lt_of_lt_mul (by rw [←HCN.out];omega)
 have hsT:(i:Int).tdiv (S:Int)=s:=by rw [Int.tdiv_eq_ediv_of_nonneg xo,←Int.natCast_ediv,hs]
 have hsw:IntKind.i64.wrap (s:Int)=s:=IntWalk.i64_in _ xo;have hs0:((S:Int)==0)=false:=by simp;omega
 have hs1:¬(S:Int)=0:=xo;have hs2:¬S=0:=xo;have hxn:i<n:=hin;have hcn:=hcs s hsl;have hcl:=cntW_le dws (s*S) ((s+1)*S);rw [win_wd] at hcl;obtain ⟨nx,hnx⟩:∃nx,dcs.getD s 0=nx:=⟨_,rfl⟩
 rw [hnx] at hcn;have hnw:IntKind.i64.wrap (nx+1)=nx+1:=IntWalk.i64_in _ xo;have HST:=hid (And.intro hs hnx);have hib:i/64<lw:=xo;have PUT:=hid (fun W hw=>Put02_ok (some ⟨g1,0,none⟩) k1 dws hu i (by rw [hel];exact hib) xo true (by rw [hfr];rfl) W hw);rw [hel] at PUT;clear hs hcs hcn hcl hfr;obtain ⟨c0,c1,c2,c3,c4,c5,f1,f5,o1,o2,o3,o4,-,-⟩:=HF.out;dsimp only at c0 c1 c2 c3 c4 c5 o1 o2 o3 o4;obtain ⟨d4,e4⟩:=own_cells o4 (j:=s) hsl;obtain ⟨d2,e2⟩:=own_cells o2 (j:=i) hxn;obtain ⟨d3,e3⟩:=own_cells o3 (j:=i) hxn;clear o2 o3 o4;have pb:=HK.out.keep (w.heap.size+1) xo xo;have q0:=(World.cell?_of_block (a:=⟨w.heap.size+1,0,none⟩) pb).trans HPB.out.1;have q1:=(World.cell?_of_block (a:=⟨w.heap.size+1,1,none⟩) pb).trans HPB.out.2;clear pb;rw [hnx] at d4;go_still_tail 10,xk
 go_upto_region 3 with (fail)
 have HF4:=hid ((HF.out.setN s (nx+1)).drew);have HK4:=hid ((HK.out.setCell (a:=⟨g4,s,none⟩) (.inr hg4) (.int .i64 (nx+1))).drew);generalize (w2.setCell ⟨g4,s,none⟩ (.int .i64 (nx+1))).drew=w4 at *;clear HF HK;clear c0 c1 c2 c3 c4 c5 f1 f5 o1 d2 d3 d4 e2 e3 e4 q0 q1;obtain ⟨c0,c1,c2,c3,c4,c5,f1,f5,o1,o2,o3,o4,-,-⟩:=HF4.out;dsimp only at c0 c1 c2 c3 c4 c5 o1 o2 o3 o4;obtain ⟨d4,e4⟩:=own_cells o4 (j:=s) hsl;obtain ⟨d2,e2⟩:=own_cells o2 (j:=i) hxn;obtain ⟨d3,e3⟩:=own_cells o3 (j:=i) hxn;clear o2 o3 o4;have pb:=HK4.out.keep (w.heap.size+1) xo xo;have q0:=(World.cell?_of_block (a:=⟨w.heap.size+1,0,none⟩) pb).trans HPB.out.1;have q1:=(World.cell?_of_block (a:=⟨w.heap.size+1,1,none⟩) pb).trans HPB.out.2;clear pb;obtain ⟨_,_,he,R4,-⟩:=row_of_owns o1;cases he;have P4:=hid (PUT.out w4 R4);clear R4 PUT;go_wp2_with fail
 refine P4.out.mono ?_;rintro e w5 ⟨v,rfl,ho,hb5⟩;rw [trnL_length,hel] at ho;obtain ⟨g,kk,rfl,hg,-⟩:=owns_at ho hlw;have HF6:=hid (HF4.out.setW hb5 ho HK4.out.size);have HK6:=hid ((HK4.out.below hb5).setCell (a:=⟨w.heap.size,1,none⟩) (.inl rfl) (.slice (some ⟨g,0,none⟩) lw kk));have HF5:=hid (HF4.out.below hb5);have HK5:=hid (HK4.out.below hb5);clear ho hg hb5 P4;clear c0 c1 c2 c3 c4 c5 f1 f5 o1 d2 d3 d4 e2 e3 e4 q0 q1;obtain ⟨c0,c1,c2,c3,c4,c5,f1,f5,o1,o2,o3,o4,-,-⟩:=HF5.out;dsimp only at c0 c1 c2 c3 c4 c5 o1 o2 o3 o4;obtain ⟨d4,e4⟩:=own_cells o4 (j:=s) hsl;obtain ⟨d2,e2⟩:=own_cells o2 (j:=i) hxn;obtain ⟨d3,e3⟩:=own_cells o3 (j:=i) hxn;clear o2 o3 o4;have pb:=HK5.out.keep (w.heap.size+1) xo xo;have q0:=(World.cell?_of_block (a:=⟨w.heap.size+1,0,none⟩) pb).trans HPB.out.1;have q1:=(World.cell?_of_block (a:=⟨w.heap.size+1,1,none⟩) pb).trans HPB.out.2;clear pb;go_upto_region 4 with (fail)
 generalize w5.setCell ⟨w.heap.size,1,none⟩ (.slice (some ⟨g,0,none⟩) lw kk)=w6 at *;clear HF5 HK5;clear c0 c1 c2 c3 c4 c5 f1 f5 o1 d2 d3 d4 e2 e3 e4 q0 q1;obtain ⟨c0,c1,c2,c3,c4,c5,f1,f5,o1,o2,o3,o4,-,-⟩:=HF6.out;dsimp only at c0 c1 c2 c3 c4 c5 o1 o2 o3 o4;obtain ⟨d4,e4⟩:=own_cells o4 (j:=s) hsl;obtain ⟨d2,e2⟩:=own_cells o2 (j:=i) hxn;obtain ⟨d3,e3⟩:=own_cells o3 (j:=i) hxn;clear o2 o3 o4;have pb:=HK6.out.keep (w.heap.size+1) xo xo;have q0:=(World.cell?_of_block (a:=⟨w.heap.size+1,0,none⟩) pb).trans HPB.out.1;have q1:=(World.cell?_of_block (a:=⟨w.heap.size+1,1,none⟩) pb).trans HPB.out.2;clear pb;go_upto_region 5 with (fail)
 have HF7:=hid (HF6.out.setK i x);have HK7:=hid (HK6.out.setCell (a:=⟨g2,i,none⟩) (.inr hg2) (.int .i64 x));generalize w6.setCell ⟨g2,i,none⟩ (.int .i64 x)=w7 at *;clear HF6 HK6;clear c0 c1 c2 c3 c4 c5 f1 f5 o1 d2 d3 d4 e2 e3 e4 q0 q1;obtain ⟨c0,c1,c2,c3,c4,c5,f1,f5,o1,o2,o3,o4,-,-⟩:=HF7.out;dsimp only at c0 c1 c2 c3 c4 c5 o1 o2 o3 o4;obtain ⟨d4,e4⟩:=own_cells o4 (j:=s) hsl;obtain ⟨d2,e2⟩:=own_cells o2 (j:=i) hxn;obtain ⟨d3,e3⟩:=own_cells o3 (j:=i) hxn;clear o2 o3 o4;have pb:=HK7.out.keep (w.heap.size+1) xo xo;have q0:=(World.cell?_of_block (a:=⟨w.heap.size+1,0,none⟩) pb).trans HPB.out.1;have q1:=(World.cell?_of_block (a:=⟨w.heap.size+1,1,none⟩) pb).trans HPB.out.2;clear pb;go_upto_region 6 with (fail)
 have HF8:=hid (HF7.out.setV i y);have HK8:=hid (HK7.out.setCell (a:=⟨g3,i,none⟩) (.inr hg3) (.int .i64 y));generalize w7.setCell ⟨g3,i,none⟩ (.int .i64 y)=w8 at *;clear HF7 HK7;clear c0 c1 c2 c3 c4 c5 f1 f5 o1 d2 d3 d4 e2 e3 e4 q0 q1;obtain ⟨c0,c1,c2,c3,c4,c5,f1,f5,o1,o2,o3,o4,-,-⟩:=HF8.out;dsimp only at c0 c1 c2 c3 c4 c5 o1 o2 o3 o4;obtain ⟨d4,e4⟩:=own_cells o4 (j:=s) hsl;obtain ⟨d2,e2⟩:=own_cells o2 (j:=i) hxn;obtain ⟨d3,e3⟩:=own_cells o3 (j:=i) hxn;clear o2 o3 o4;go_upto_region 7 with (fail)
 have HF9:=hid (HF8.out.setL (IntKind.u64.wrap (dlaid+1)));have HK9:=hid (HK8.out.setCell (a:=⟨w.heap.size,5,none⟩) (.inl rfl) (.int .u64 (IntKind.u64.wrap (dlaid+1))));generalize w8.setCell ⟨w.heap.size,5,none⟩ (.int .u64 (IntKind.u64.wrap (dlaid+1)))=w9 at *;clear c0 c1 c2 c3 c4 c5 f1 f5 o1 d2 d3 d4 e2 e3 e4;have HF10:Hid (FilS (w.heap.size+3) w9 w.heap.size g g2 g3 g4 kk k2 k3 k4 lw n lc (rlC ⟨S,dws,dks,dvs,dcs,dlaid⟩ i x y)):=hid (by
  rw [rlC];dsimp only;rw [Int.toNat_natCast,HST.out.1,HST.out.2];exact HF9.out)
 clear HF9 HF8 HK8 HST hu hel hnx;generalize rlC ⟨S,dws,dks,dvs,dcs,dlaid⟩ i x y=d at *;obtain ⟨c0,c1,c2,c3,c4,c5,f1,f5,p1,p2,p3,p4,-,-⟩:=HF10.out;have l1:=own_len p1;have l2:=own_len p2;have l3:=own_len p3;have l4:=own_len p4;obtain ⟨r0,r1,r2,r3,r4,r5,t0,t1,t2,t3,t4,t5⟩:=HR2.out;have hrb:=HK9.out.keep (w.heap.size+1+1) xo xo;have rc:∀k,w9.cell? ⟨w.heap.size+1+1,k,none⟩=w2.cell? ⟨w.heap.size+1+1,k,none⟩:=fun k=>World.cell?_of_block (a:=⟨w.heap.size+1+1,k,none⟩) hrb
 have rf:∀k,w9.frozen? ⟨w.heap.size+1+1,k,none⟩=w2.frozen? ⟨w.heap.size+1+1,k,none⟩:=fun k=>World.frozen?_of_block (a:=⟨w.heap.size+1+1,k,none⟩) hrb
 replace r0:=(rc 0).trans r0;replace r1:=(rc 1).trans r1;replace r2:=(rc 2).trans r2;replace r3:=(rc 3).trans r3;replace r4:=(rc 4).trans r4;replace r5:=(rc 5).trans r5;replace t0:=(rf 0).trans t0;replace t1:=(rf 1).trans t1;replace t2:=(rf 2).trans t2;replace t3:=(rf 3).trans t3;replace t4:=(rf 4).trans t4;replace t5:=(rf 5).trans t5;have hzr:=HK9.out.size;have HP1:=hid (owns_base p1 (by omega:w.heap.size≤w.heap.size+3));have HP2:=hid (owns_base p2 (by omega:w.heap.size≤w.heap.size+3));have HP3:=hid (owns_base p3 (by omega:w.heap.size≤w.heap.size+3));have HP4:=hid (owns_base p4 (by omega:w.heap.size≤w.heap.size+3));have HN1:=hid (And.intro (p1.lt g rfl).1 (And.intro (p2.lt g2 rfl).1 (And.intro (p3.lt g3 rfl).1 (p4.lt g4 rfl).1)));have HLN:=hid (And.intro l1 (And.intro l2 (And.intro l3 l4)));have HB:=hid HK9.out.bel;clear rc rf hrb p1 p2 p3 p4 l1 l2 l3 l4;go_wp2
 have HQ:Hid (∀q,q≠w.heap.size+1+1→((((((w9.setCell ⟨w.heap.size+1+1,0,none⟩ (.int .i64 d.seg)).setCell ⟨w.heap.size+1+1,1,none⟩ (.slice (some ⟨g,0,none⟩) lw kk)).setCell ⟨w.heap.size+1+1,2,none⟩ (.slice (some ⟨g2,0,none⟩) n k2)).setCell ⟨w.heap.size+1+1,3,none⟩ (.slice (some ⟨g3,0,none⟩) n k3)).setCell ⟨w.heap.size+1+1,4,none⟩ (.slice (some ⟨g4,0,none⟩) lc k4)).setCell ⟨w.heap.size+1+1,5,none⟩ (.int .u64 d.laid)).heap[q]? =w9.heap[q]?):=hid fun q hq=>by
  rw [heap_setCell_ne _ _ _ hq,heap_setCell_ne _ _ _ hq,heap_setCell_ne _ _ _ hq,heap_setCell_ne _ _ _ hq,heap_setCell_ne _ _ _ hq,heap_setCell_ne _ _ _ hq]
 refine bodyPost_ret (results_c rfl rfl (run_loadVar_many _ Tryz.underlying29 rfl xk (six_set r0 r1 r2 r3 r4 r5))) rfl ⟨_,_,_,_,rfl,?_,?_,?_,?_,?_⟩
 · rw [HLN.out.1];exact owns_heap HP1.out fun j hj=>by cases hj;exact HQ.out _ (by have:=HN1.out.1;dsimp only;omega)
 · rw [HLN.out.2.1];exact owns_heap HP2.out fun j hj=>by cases hj;exact HQ.out _ (by have:=HN1.out.2.1;dsimp only;omega)
 · rw [HLN.out.2.2.1];exact owns_heap HP3.out fun j hj=>by cases hj;exact HQ.out _ (by have:=HN1.out.2.2.1;dsimp only;omega)
 · rw [HLN.out.2.2.2];exact owns_heap HP4.out fun j hj=>by cases hj;exact HQ.out _ (by have:=HN1.out.2.2.2;dsimp only;omega)
 · exact (((((HB.out.setCell xdo _).setCell xdo _).setCell xdo _).setCell xdo _).setCell xdo _).setCell xdo _
end
section
open Go.RowKit
theorem askedSl_core (w:World) (seg:Int) (wa ka va ca:Option Addr) (wc kc vc cc lw n lv lc:Nat) (laid:Int) (i:Nat) (hi:i<n)
    (CK:Hid (∀W,Below w.heap.size w W→Calls Tryz.prog 55 #[.agg #[.int .i64 seg,.slice wa lw wc,.slice ka n kc,.slice va lv vc,.slice ca lc cc,.int .u64 laid]] W (AnsB W (.int .i64 0)))):
    Calls Tryz.prog 70 #[.agg #[.int .i64 seg,.slice wa lw wc,.slice ka n kc,.slice va lv vc,.slice ca lc cc,.int .u64 laid],.int .i64 i] w (AnsB w (.int .i64 0)):=by
 go_enter Tryz.func70,Tryz.ntmps70
 go_wp2_with fail
 refine (CK.out _ xbel).mono ?_;rintro e w1 ⟨rfl,hb1⟩;have hz_w1:=hb1.size;try simp only [World.size_alloc,World.size_setCell] at hz_w1
 have hh:=bc6 hb1 (al6 (b:=w.heap.size) xsi);obtain ⟨c_t0,c_t1,c_t2,c_t3,c_t4,c_t5⟩:=hh;have z_t:=blt hb1 (alz (b:=w.heap.size) xsi);have hB1:Below w.heap.size w w1:=xbel;go_wp2
 go_ret
 exact ⟨rfl,hB1⟩
theorem slLayW_core (w:World) (seg:Int) (wa ka va ca:Option Addr) (wc kc vc cc lw n lc:Nat) (laid:Int) (c:SlC) (i S:Nat) (key val:Int)
    (hseg:c.seg=seg) (hlaid:c.laid=laid) (hlw:c.ws.length=lw) (hlk:c.ks.length=n) (hlv:c.vs.length=n) (hlc:c.cs.length=lc) (h1:0<lw) (h2:0<n) (h3:0<lc) (hn:n≤65536) (hlw2:lw≤65536) (hlc2:lc≤65536) (hS:seg=S) (hS4:4≤S) (hi:i<n) (hwn:n≤64*lw) (hcn:n=S*lc) (hok:okC c=true)
    (CK:Hid (∀W,Below w.heap.size w W→Calls Tryz.prog 55 #[.agg #[.int .i64 seg,.slice wa lw wc,.slice ka n kc,.slice va n vc,.slice ca lc cc,.int .u64 laid]] W (AnsB W (.int .i64 0))))
    (TW:Hid (∀W,Below w.heap.size w W→Calls Tryz.prog 25 #[.agg #[.int .i64 seg,.slice wa lw wc,.slice ka n kc,.slice va n vc,.slice ca lc cc,.int .u64 laid]] W (FreshSlN W c))):
    Calls Tryz.prog 39 #[.agg #[.int .i64 seg,.slice wa lw wc,.slice ka n kc,.slice va n vc,.slice ca lc cc,.int .u64 laid],.int .i64 i,.agg #[.int .i64 key,.int .i64 val]] w (FreshSl2 w (lyC c i key val) (.int .i64 0)):=by
 have AK:=hid (fun W (hb:Below w.heap.size w W)=>askedSl_core W seg wa ka va ca wc kc vc cc lw n n lc laid i hi (hid fun W' hb'=>CK.out W' (below_via hb' hb hb.size)));have HC:=hid (And.intro hseg (And.intro hlaid (And.intro hlw (And.intro hlk (And.intro hlv hlc)))));have HSS:=hid hS;have HCN:=hid hcn;have HOK:=hid hok;clear hseg hlaid hlw hlk hlv hlc hS hcn CK hok;go_enter Tryz.func39,Tryz.ntmps39
 go_wp2_with fail
 refine (AK.out _ xbel).mono ?_;rintro e w1 ⟨rfl,hb1⟩;have hz_w1:=hb1.size;try simp only [World.size_alloc,World.size_setCell] at hz_w1
 have hh:=bc6 hb1 (au6 (au6 (al6 (b:=w.heap.size) xsi)));obtain ⟨c_t0,c_t1,c_t2,c_t3,c_t4,c_t5⟩:=hh;have z_t:=blt hb1 (auz (auz (alz (b:=w.heap.size) xsi)));have hh:=bc2 hb1 (au2 (al2 (b:=w.heap.size+1) xsi));obtain ⟨c_p0,c_p1⟩:=hh;have z_p:=blt hb1 (auz (alz (b:=w.heap.size+1) xsi));have hh:=bc6 hb1 (al6 (b:=w.heap.size+1+1) xsi);obtain ⟨c_r0,c_r1,c_r2,c_r3,c_r4,c_r5⟩:=hh;have hh:=bf6 hb1 (alz (b:=w.heap.size+1+1) xsi) (alf6 (b:=w.heap.size+1+1) xsi);obtain ⟨f_r0,f_r1,f_r2,f_r3,f_r4,f_r5⟩:=hh;have z_r:=blt hb1 (alz (b:=w.heap.size+1+1) xsi);have hB1:Below w.heap.size w w1:=xbel;have HB1:=hid hB1;have hz1:w.heap.size+3≤w1.heap.size:=xo;clear hb1 hB1;go_wp2_with fail
 refine (TW.out w1 HB1.out).mono ?_;rintro e w2 ⟨v1,v2,v3,v4,rfl,o1,o2,o3,o4,hb2,hne⟩;obtain ⟨eseg,elaid,elw,elk,elv,elc⟩:=HC.out;rw [elw] at o1;rw [elk] at o2;rw [elv] at o3;rw [elc] at o4;rw [eseg,elaid];obtain ⟨g1,k1,rfl,hg1,hg1'⟩:=owns_at o1 h1;obtain ⟨g2,k2,rfl,hg2,hg2'⟩:=owns_at o2 h2;obtain ⟨g3,k3,rfl,hg3,hg3'⟩:=owns_at o3 h2;obtain ⟨g4,k4,rfl,hg4,hg4'⟩:=owns_at o4 h3;have n23:g2≠g3:=hne g2 g3 rfl rfl;have apart:∀ {e e':TypeId} {g g' n n' k k':Nat} {xs xs':List Value},w2.ownsRow w1.heap.size e 1 (.slice (some ⟨g,0,none⟩) n k) n xs→w2.ownsRow w1.heap.size e' 1 (.slice (some ⟨g',0,none⟩) n' k') n' xs'→e≠e'→g≠g':=by
  intro e e' g g' n n' k k' xs xs' ha hb hc;rcases owns_apart ha hb hc with h|h
  · cases h
  · intro hgg;exact h (by subst hgg;rfl)
 have n12:=apart o1 o2 xdd;have n13:=apart o1 o3 xdd;have n14:=apart o1 o4 xdd;have n24:=apart o2 o4 xdd;have n34:=apart o3 o4 xdd;clear apart hne;have hz_w2:=hb2.size;have HBW:Hid (Below w1.heap.size w1 w2):=hid hb2;have HO:=hid (And.intro o1 (And.intro o2 (And.intro o3 o4)));have hz_w2:=hb2.size;simp (disch:=omega) only [xcl hb2,xfr hb2] at *;replace z_t:=blt hb2 z_t;replace z_p:=blt hb2 z_p;replace z_r:=blt hb2 z_r;clear o1 o2 o3 o4 hb2;go_wp2_with fail
 have hb3:Below w2.heap.size w2 (w2.alloc (.cells #[.int .i64 seg,.slice (some ⟨g1,0,none⟩) lw k1,.slice (some ⟨g2,0,none⟩) n k2,.slice (some ⟨g3,0,none⟩) n k3,.slice (some ⟨g4,0,none⟩) lc k4,.int .u64 laid] 109)):=br.alloc (Nat.le_refl _) _;have hA:ArrC w1.heap.size (w2.alloc (.cells #[.int .i64 seg,.slice (some ⟨g1,0,none⟩) lw k1,.slice (some ⟨g2,0,none⟩) n k2,.slice (some ⟨g3,0,none⟩) n k3,.slice (some ⟨g4,0,none⟩) lc k4,.int .u64 laid] 109)) w2.heap.size g1 g2 g3 g4 k1 k2 k3 k4 lw n lc c:=by
  unfold ArrC;rw [eseg,elaid];exact ⟨by (exact xcw),by (exact xcw),by (exact xcw),by (exact xcw),by (exact xcw),by (exact xcw),by (exact xcw),owns_below HO.out.1 hb3,owns_below HO.out.2.1 hb3,owns_below HO.out.2.2.1 hb3,owns_below HO.out.2.2.2 hb3⟩
 have HA:=hid hA;have hzz:(w2.alloc (.cells #[.int .i64 seg,.slice (some ⟨g1,0,none⟩) lw k1,.slice (some ⟨g2,0,none⟩) n k2,.slice (some ⟨g3,0,none⟩) n k3,.slice (some ⟨g4,0,none⟩) lc k4,.int .u64 laid] 109)).heap.size=w2.heap.size+1:=by simp
 have HB3:Hid (Below w1.heap.size w1 (w2.alloc (.cells #[.int .i64 seg,.slice (some ⟨g1,0,none⟩) lw k1,.slice (some ⟨g2,0,none⟩) n k2,.slice (some ⟨g3,0,none⟩) n k3,.slice (some ⟨g4,0,none⟩) lc k4,.int .u64 laid] 109))):=hid (HBW.out.trans (hb3.mono HBW.out.size));generalize w2.alloc (.cells #[.int .i64 seg,.slice (some ⟨g1,0,none⟩) lw k1,.slice (some ⟨g2,0,none⟩) n k2,.slice (some ⟨g3,0,none⟩) n k3,.slice (some ⟨g4,0,none⟩) lc k4,.int .u64 laid] 109)=w3 at *;have hz_w3:=hb3.size;simp (disch:=omega) only [xcl hb3,xfr hb3] at *;replace z_t:=blt hb3 z_t;replace z_p:=blt hb3 z_p;replace z_r:=blt hb3 z_r;have HNE:Hid (ArrNe w2.heap.size g1 g2 g3 g4):=hid ⟨by omega,by omega,by omega,by omega,n12,n13,n14,n23,n24,n34⟩;have hbb:w1.heap.size≤w2.heap.size:=HBW.out.size;have hS':c.seg=(S:Int):=by rw [eseg];exact HSS.out
 have LY:=hid (lay_ok w3 w1.heap.size w2.heap.size g1 g2 g3 g4 k1 k2 k3 k4 lw n lc i S c key val HA.out HNE.out HOK.out hi hn xo hlw2 hS' hS4 (by have:=HCN.out;exact Nat.div_lt_of_lt_mul xo) hlc2);clear hA hb3 HO n12 n13 n14 n23 n24 n34 eseg elaid elw elk elv elc HBW hS';have hBw3:Below w.heap.size w w3:=below_via HB3.out HB1.out xo;refine LY.out.mono ?_;rintro e w5 ⟨rfl,hA5,hk5⟩;have hB5:=kept5_below HB3.out hk5 xo xo hg1 hg2 hg3 hg4;have hz5:=hk5.size;have hAe:=hA5;unfold ArrC at hAe;obtain ⟨e0,e1,e2,e3,e4,e5,-,p1,p2,p3,p4⟩:=hAe;have l1:=own_len p1;have l2:=own_len p2;have l3:=own_len p3;have l4:=own_len p4;generalize lyC c i key val=d at *;have hk6:Below w1.heap.size w3 w5:=kept5_below (Below.refl _ w3) hk5 xo xo hg1 hg2 hg3 hg4;have hBw5:Below w.heap.size w w5:=below_via hB5 HB1.out xo;have hz_w5:=hk6.size;try simp only [World.size_alloc,World.size_setCell] at hz_w5
 have all_c:w5.cell? ⟨w.heap.size,0,none⟩=some (.int .i64 seg)∧w5.cell? ⟨w.heap.size,1,none⟩=some (.slice wa lw wc)∧w5.cell? ⟨w.heap.size,2,none⟩=some (.slice ka n kc)∧w5.cell? ⟨w.heap.size,3,none⟩=some (.slice va n vc)∧w5.cell? ⟨w.heap.size,4,none⟩=some (.slice ca lc cc)∧w5.cell? ⟨w.heap.size,5,none⟩=some (.int .u64 laid)∧w5.cell? ⟨w.heap.size+1,0,none⟩=some (.int .i64 key)∧w5.cell? ⟨w.heap.size+1,1,none⟩=some (.int .i64 val)∧w5.cell? ⟨w.heap.size+1+1,0,none⟩=some (.int .i64 0)∧w5.cell? ⟨w.heap.size+1+1,1,none⟩=some (.slice none 0 0)∧w5.cell? ⟨w.heap.size+1+1,2,none⟩=some (.slice none 0 0)∧w5.cell? ⟨w.heap.size+1+1,3,none⟩=some (.slice none 0 0)∧w5.cell? ⟨w.heap.size+1+1,4,none⟩=some (.slice none 0 0)∧w5.cell? ⟨w.heap.size+1+1,5,none⟩=some (.int .u64 0):=by refine ⟨?_,?_,?_,?_,?_,?_,?_,?_,?_,?_,?_,?_,?_,?_⟩<;>(refine (hk6.cell ?_).trans ?_<;>first|(exact xlt)|(exact xcn))
 have all_f:w5.frozen? ⟨w.heap.size+1+1,0,none⟩=false∧w5.frozen? ⟨w.heap.size+1+1,1,none⟩=false∧w5.frozen? ⟨w.heap.size+1+1,2,none⟩=false∧w5.frozen? ⟨w.heap.size+1+1,3,none⟩=false∧w5.frozen? ⟨w.heap.size+1+1,4,none⟩=false∧w5.frozen? ⟨w.heap.size+1+1,5,none⟩=false:=by refine ⟨?_,?_,?_,?_,?_,?_⟩<;>(refine (hk6.frozen ?_).trans ?_<;>first|(exact xlt)|(exact xcn))
 have all_z:w.heap.size<w5.heap.size∧w.heap.size+1<w5.heap.size∧w.heap.size+1+1<w5.heap.size:=by refine ⟨?_,?_,?_⟩<;>(omega)
 clear c_t0 c_t1 c_t2 c_t3 c_t4 c_t5 c_p0 c_p1 c_r0 c_r1 c_r2 c_r3 c_r4 c_r5 f_r0 f_r1 f_r2 f_r3 f_r4 f_r5 z_t z_p z_r;obtain ⟨c_t0,c_t1,c_t2,c_t3,c_t4,c_t5,c_p0,c_p1,c_r0,c_r1,c_r2,c_r3,c_r4,c_r5⟩:=all_c;try clear all_c
 obtain ⟨f_r0,f_r1,f_r2,f_r3,f_r4,f_r5⟩:=all_f;try clear all_f
 obtain ⟨z_t,z_p,z_r⟩:=all_z;try clear all_z
 have HP1:=hid p1;have HP2:=hid p2;have HP3:=hid p3;have HP4:=hid p4;clear p1 p2 p3 p4 hA5 hk5;go_wp2
 have HQ:Hid (∀q,q≠w.heap.size+1+1→((((((w5.setCell ⟨w.heap.size+1+1,0,none⟩ (.int .i64 d.seg)).setCell ⟨w.heap.size+1+1,1,none⟩ (.slice (some ⟨g1,0,none⟩) lw k1)).setCell ⟨w.heap.size+1+1,2,none⟩ (.slice (some ⟨g2,0,none⟩) n k2)).setCell ⟨w.heap.size+1+1,3,none⟩ (.slice (some ⟨g3,0,none⟩) n k3)).setCell ⟨w.heap.size+1+1,4,none⟩ (.slice (some ⟨g4,0,none⟩) lc k4)).setCell ⟨w.heap.size+1+1,5,none⟩ (.int .u64 d.laid)).heap[q]? =w5.heap[q]?):=hid fun q hq=>by
  rw [heap_setCell_ne _ _ _ hq,heap_setCell_ne _ _ _ hq,heap_setCell_ne _ _ _ hq,heap_setCell_ne _ _ _ hq,heap_setCell_ne _ _ _ hq,heap_setCell_ne _ _ _ hq]
 refine bodyPost_ret (results_ct rfl rfl (run_loadVar_many _ Tryz.underlying29 rfl xk (six_set c_r0 c_r1 c_r2 c_r3 c_r4 c_r5))) rfl ⟨_,_,_,_,rfl,?_,?_,?_,?_,?_⟩
 · rw [l1];exact owns_base (owns_heap HP1.out fun j hj=>HQ.out j (by have:=(HP1.out.lt j hj).1;omega)) xo
 · rw [l2];exact owns_base (owns_heap HP2.out fun j hj=>HQ.out j (by have:=(HP2.out.lt j hj).1;omega)) xo
 · rw [l3];exact owns_base (owns_heap HP3.out fun j hj=>HQ.out j (by have:=(HP3.out.lt j hj).1;omega)) xo
 · rw [l4];exact owns_base (owns_heap HP4.out fun j hj=>HQ.out j (by have:=(HP4.out.lt j hj).1;omega)) xo
 · exact (((((hBw5.setCell xdo _).setCell xdo _).setCell xdo _).setCell xdo _).setCell xdo _).setCell xdo _
end
section
open Go.RowKit
def IterE (P:Program) (gf:Nat) (lb:Array Value) (xs:List (Array Value)) (Kp:World→World→Prop) (w:World):Prop:=
  ∀ (l:Nat) (J Jx:Nat→World→Prop) (W:World),Below w.heap.size w W→(∀W1,¬J xs.length W1)→
    (∀k W1 W2,J k W1→Below W1.heap.size W1 W2→J k W2)→(∀k W1 W2,Jx k W1→Below W1.heap.size W1 W2→Jx k W2)→
    (∀k W1,k<xs.length→J k W1→YieldAt Fence.wide 0 P l (xs.getD k #[]) W1 fun e W'=>
     (e= .returned (.bool true)∧J (k+1) W'∧Kp W1 W')∨(e= .returned (.bool false)∧Jx (k+1) W'))→
    J 0 W→
    CallsIn Fence.wide 0 P gf (#[.func (.yield l) #[] #[]]++lb) W fun e W'=>(∃v,e= .returned v)∧(J xs.length W'∨∃k,k≤xs.length∧Jx k W')
theorem wp_range_e {P:Program} {g:Operand} {ps:Array Tmp} {assign body:Code} {Q:Exit→Act→World→Prop} {a:Act} {w:World}
    {gf:Nat} {lb:Array Value} (hg:a.eval g= .func (.func gf) #[] lb) (eg:∀args w,(callFunc gf args).run P w= .ok (.enter gf args) w)
    {xs:List (Array Value)} {Kp:World→World→Prop} {w0:World} (hseq:IterE P gf lb xs Kp w0) (hb0:Below w0.heap.size w0 w)
    (hKt:∀ {A B C:World},Kp A B→Kp B C→Kp A C) (hKb:∀(W:World) (l:Nat) (o o':Obj),w.heap.size≤l→W.heap[l]? =some o→o.isCells=false→Kp W (W.putObj l o'))
    (hps:∀x ∈ xs,x.size=ps.size)
    (I:Nat→World→Prop) (Ix:Code→World→Prop) (hI:∀k W W',I k W→Calm w.heap.size W W'→I k W') (hIx:∀c W W',Ix c W→Calm w.heap.size W W'→Ix c W') (h0:I 0 w)
    (hround:∀(l k:Nat) (W:World),w.heap.size≤l→k<xs.length→I k W→
      assign.wpIn (inRd l) 0 P (Exit.then (BodyOkW P l body w.heap.size Kp I Ix k W) (fun _ _ _=>False))
        {tmps:=(ps.zip (xs.getD k #[])).foldl (fun t (p,v)=>t.setIfInBounds p v) a.tmps,defers:=[]} W)
    (hno:∀W,¬I xs.length W)
    (hstop:∀(D:Nat) (c:Code) (W:World),w.heap.size≤D→Ix c W→W.heap[D]? =some (.deferred (some []))→c.wp P Q {a with defers:= {target:= .collected D,args:= #[]}::a.defers} W):
    (Code.rangeFunc g ps assign body).wp P Q a w:=by
 refine wpIn_wide (n:=0).1 (wpIn_rangeFunc ?_);intro fn hfn;obtain ⟨rec,hrec⟩:∃rec:LoopState→Option Code→Loop,rec=fun st pe=> {state:=st,pending:=pe,fn,tmps:=a.tmps,params:=ps,assign,body,defers:=w.heap.size}:=⟨_,rfl⟩
 obtain ⟨W1,hW1⟩:∃W1,(w.alloc (.deferred (some []))).alloc (.loop (rec .ready none))=W1:=⟨_,rfl⟩
 have hL1:W1.heap[w.heap.size+1]? =some (.loop (rec .ready none)):=by
  rw [←hW1];have:=World.alloc_heap_new (w.alloc (.deferred (some []))) (.loop (rec .ready none));rwa [World.size_alloc] at this
 have hK1:W1.heap[w.heap.size]? =some (.deferred (some [])):=by
  rw [←hW1];exact (Below.heap_alloc _ _ _ xsi).trans (World.alloc_heap_new w _)
 have hI1:I 0 W1:=by rw [←hW1];exact hI _ _ _ h0 ((Calm.alloc _ (Nat.le_refl _)).trans (Calm.alloc _ xsi))
 have hb1:Below w0.heap.size w0 W1:=by
  rw [←hW1];exact hb0.trans ((((Below.refl _ w).alloc (Nat.le_refl _) _).alloc xsi _).mono hb0.size)
 have calmOf:∀ {A C:World},w.heap.size≤A.heap.size→Below A.heap.size A C→Calm w.heap.size A C:=fun hs hb=>
  ⟨hb.os,hb.tape,hb.output,hb.size,fun k hk=>hb.block k xo,fun k o hk _=>(hb.block k (Array.getElem?_eq_some_iff.1 hk).1).trans hk⟩
 refine ⟨w.heap.size+1,[{target:= .collected w.heap.size,args:= #[]}],W1,{target:= .fn (.func gf) lb,args:= #[.func (.yield (w.heap.size+1)) #[] #[]]},W1,gf,
   #[.func (.yield (w.heap.size+1)) #[] #[]]++lb,W1,?_,?_,fun _ _=>trivial,?_,fun h=>(by cases h),?_⟩
 · rw [←hW1,hrec];exact run_enterLoop_outer _ _ _ _ _
 · simp only [resolve,hg];simp [go_sem]
 · simp [invoke,go_sem,eg]
 · refine (hseq (w.heap.size+1)
     (fun k W=>I k W∧W.heap[w.heap.size+1]? =some (.loop (rec .ready none))∧W.heap[w.heap.size]? =some (.deferred (some [])))
     (fun _ W=>∃c,Ix c W∧W.heap[w.heap.size+1]? =some (.loop (rec .done (some c)))∧W.heap[w.heap.size]? =some (.deferred (some [])))
     W1 hb1 (fun W h=>hno W h.1) ?_ ?_ ?_ ⟨hI1,hL1,hK1⟩).mono ?_
   · rintro k A C ⟨h1,h2,h3⟩ hb;have l2:=(Array.getElem?_eq_some_iff.1 h2).1;exact ⟨hI _ _ _ h1 (calmOf xo hb),(hb.block _ l2).trans h2,(hb.block _ xo).trans h3⟩
   · rintro k A C ⟨c,h1,h2,h3⟩ hb;have l2:=(Array.getElem?_eq_some_iff.1 h2).1;exact ⟨c,hIx _ _ _ h1 (calmOf xo hb),(hb.block _ l2).trans h2,(hb.block _ xo).trans h3⟩
   · -- one round
     rintro k W hkl ⟨hi,hl,hk⟩;have hlt:w.heap.size+1<W.heap.size:=(Array.getElem?_eq_some_iff.1 hl).1;have hsz:(xs.getD k #[]).size=ps.size:=by
      rw [List.getD_eq_getElem?_getD,List.getElem?_eq_getElem hkl];exact hps _ (List.getElem_mem _)
     have hy:=run_yield (P:=P) (args:=xs.getD k #[]) hl (by rw [hrec];exact hsz);rw [hrec] at hy;refine ⟨fn,_,assign,body,hy,roundIn_of_wpIn trivial (wpIn_mono (hround _ k W xo hkl hi) ?_)⟩;intro e a1 Wa hq;cases e with
     | normal=>
      obtain ⟨hks,hkpa,hbody⟩:=hq;have hl0:=hl;have hlt0:=hlt;replace hl:Wa.heap[w.heap.size+1]? =some (.loop (rec .ready none)):=hks.same _ _ hl0 (by rfl);replace hk:Wa.heap[w.heap.size]? =some (.deferred (some [])):=hks.same _ _ hk (by rfl);replace hlt:w.heap.size+1<Wa.heap.size:=(Array.getElem?_eq_some_iff.1 hl).1;refine ⟨_,run_beginRound hl (by rw [hrec]),?_⟩;have hl2:(Wa.putObj (w.heap.size+1) (.loop {rec .ready none with state:= .busy})).heap[w.heap.size+1]? =some (.loop {rec .ready none with state:= .busy}):=World.putObj_heap_same hlt;have hk2:(Wa.putObj (w.heap.size+1) (.loop {rec .ready none with state:= .busy})).heap[w.heap.size]? =some (.deferred (some [])):=(World.putObj_heap_other xo).trans hk;have hw2:Kp Wa (Wa.putObj (w.heap.size+1) (.loop {rec .ready none with state:= .busy})):=hKb _ _ _ _ xo hl rfl;have hi2:Calm w.heap.size Wa (Wa.putObj (w.heap.size+1) (.loop {rec .ready none with state:= .busy})):=Calm.putObj _ xo hl rfl;refine wpIn_mono (hbody _ hi2) ?_;have fin:∀(jump:Option Code) (W3:World),KeepsOthers (Wa.putObj (w.heap.size+1) (.loop {rec .ready none with state:= .busy})) W3→
          (Instr.endRound (w.heap.size+1) jump).run P W3= .ok (.bool jump.isNone) (W3.putObj (w.heap.size+1) (.loop (rec (if jump.isNone then .ready else .done) jump)))∧
          W3.heap[w.heap.size+1]? =some (.loop {rec .ready none with state:= .busy})∧
          (W3.putObj (w.heap.size+1) (.loop (rec (if jump.isNone then .ready else .done) jump))).heap[w.heap.size+1]? =some (.loop (rec (if jump.isNone then .ready else .done) jump))∧
          (W3.putObj (w.heap.size+1) (.loop (rec (if jump.isNone then .ready else .done) jump))).heap[w.heap.size]? =some (.deferred (some [])):=fun jump W3 hk3=>by
       have hl3:=hk3.same _ _ hl2 rfl;have:=run_endRound (P:=P) jump hl3;rw [hrec] at this ⊢;exact ⟨this,by rw [hrec] at hl3;exact hl3,World.putObj_heap_same (Array.getElem?_eq_some_iff.1 hl3).1,(World.putObj_heap_other xo).trans (hk3.same _ _ hk2 rfl)⟩
      rintro e a3 W3 hp;cases e with
      | normal=>
       obtain ⟨hk3,hkp3,hi3⟩:=hp;obtain ⟨hr,hl3,hl4,hk4⟩:=fin none W3 hk3;exact ⟨_,_,hr,.inl ⟨rfl,⟨hI _ _ _ hi3 (Calm.putObj _ xo hl3 rfl),hl4,hk4⟩,hKt (hKt (hKt hkpa hw2) hkp3) (hKb _ _ _ _ xo hl3 rfl)⟩⟩
      | ret=>
       obtain ⟨hk3,hi3⟩:=hp;obtain ⟨hr,hl3,hl4,hk4⟩:=fin (some .ret) W3 hk3;exact ⟨_,_,hr,.inr ⟨rfl,.ret,hIx _ _ _ hi3 (Calm.putObj _ xo hl3 rfl),hl4,hk4⟩⟩
      | exit id=>
       obtain ⟨hk3,hi3⟩:=hp;obtain ⟨hr,hl3,hl4,hk4⟩:=fin (some (.exit id)) W3 hk3;exact ⟨_,_,hr,.inr ⟨rfl,.exit id,hIx _ _ _ hi3 (Calm.putObj _ xo hl3 rfl),hl4,hk4⟩⟩
      | goto t=>
       obtain ⟨hk3,hi3⟩:=hp;obtain ⟨hr,hl3,hl4,hk4⟩:=fin (some (.goto t)) W3 hk3;exact ⟨_,_,hr,.inr ⟨rfl,.goto t,hIx _ _ _ hi3 (Calm.putObj _ xo hl3 rfl),hl4,hk4⟩⟩
      | panic ch=>exact hp.elim
      | outgrown=>exact hp.elim
     | ret=>exact hq.elim
     | exit id=>exact hq.elim
     | goto t=>exact hq.elim
     | panic ch=>exact hq.elim
     | outgrown=>exact hq.elim
   · -- behind the iterator
     rintro e W2 ⟨⟨v,rfl⟩,(⟨hi,hl,hk⟩ | ⟨k,_,c,hi,hl,hk⟩)⟩
     · exact (hno _ hi).elim
     · exact ⟨some c,_,by have:=run_endLoop (P:=P) hl (by rw [hrec];simp);rw [hrec] at this;exact this,wpIn_wide.2 (hstop _ c _ (Nat.le_refl _) (hIx _ _ _ hi (Calm.putObj _ xo hl rfl)) ((World.putObj_heap_other xo).trans hk))⟩
end
section
open Go.RowKit Go.Shelf
attribute [local go_sem] Oper.semAt_some
def winsL (a at_ N:Nat):List (Int×Int):=(List.range N).map fun h=>(((wnd a h at_*2^(a+h):Nat):Int),((wnd a h at_*2^(a+h):Nat):Int)+((2^(a+h):Nat):Int))
theorem winsL_length (a at_ N:Nat):(winsL a at_ N).length=N:=by simp [winsL]
theorem winsL_succ (a at_ N:Nat):winsL a at_ (N+1)=winsL a at_ N++[(((wnd a N at_*2^(a+N):Nat):Int),((wnd a N at_*2^(a+N):Nat):Int)+((2^(a+N):Nat):Int))]:=by simp [winsL,List.range_succ]
theorem winsL_get {a at_ N i:Nat} (h:i<N):(winsL a at_ N).getD i (0,0)=(((wnd a i at_*2^(a+i):Nat):Int),((wnd a i at_*2^(a+i):Nat):Int)+((2^(a+i):Nat):Int)):=by
 rw [List.getD_eq_getElem?_getD,winsL,List.getElem?_map,List.getElem?_range h];rfl
def winX (a at_ N:Nat):List (Array Value):=(List.range N).map fun (h:Nat)=> #[.int .i64 (h:Int),.agg #[.int .i64 ((wnd a h at_*2^(a+h):Nat):Int),.int .i64 (((wnd a h at_*2^(a+h):Nat):Int)+((2^(a+h):Nat):Int))]]
theorem winX_length (a at_ N:Nat):(winX a at_ N).length=N:=by simp [winX]
theorem winX_get {a at_ N i:Nat} (h:i<N):(winX a at_ N).getD i #[]= #[.int .i64 (i:Int),.agg #[.int .i64 ((wnd a i at_*2^(a+i):Nat):Int),.int .i64 (((wnd a i at_*2^(a+i):Nat):Int)+((2^(a+i):Nat):Int))]]:=by
 rw [List.getD_eq_getElem?_getD,winX,List.getElem?_map,List.getElem?_range h];rfl
theorem wnd_around {a h at_:Nat} (hat:at_≤65536) (hah:a+h≤16) (w:World):
    Calls Tryz.prog 100 #[.int .i64 ((2^(a+h):Nat):Int),.int .i64 at_] w (AnsB w (.agg #[.int .i64 ((wnd a h at_*2^(a+h):Nat):Int),.int .i64 (((wnd a h at_*2^(a+h):Nat):Int)+((2^(a+h):Nat):Int))])):=by
 have hp:=Nat.two_pow_pos (a+h);have hb:2^(a+h)≤2^16:=Nat.pow_le_pow_right xo hah;have hd:=Nat.div_mul_le_self at_ (2^(a+h));have e:=i64_andNot_pow (n:=at_) (e:=a+h) xo xo;refine around_ok _ _ _ ?_ xo xo xo ?_ w
 · unfold wnd;rw [←e];congr 1
   omega
 · unfold wnd;omega
theorem windows1_iter (a at_ N:Nat) (hat:at_≤65536) (hN:a+N≤17) (S:Nat→Prop) (b1 b2:Nat) (s1:S b1) (s2:S b2) (w:World) (c1:w.cell? ⟨b1,0,none⟩=some (.int .i64 ((2^a:Nat):Int))) (c2:w.cell? ⟨b2,0,none⟩=some (.int .i64 at_)):
    IterE Tryz.prog 160 #[.pointer (some ⟨b1,0,none⟩),.pointer (some ⟨b2,0,none⟩)] (winX a at_ N) (KpS S) w:=by
 intro l J Jx W hW hno hJ hJx hY h0;have HY:=hid hY;have HJ:=hid hJ;have HNO:=hid hno;have HLN:=hid (winX_length a at_ N);have HGT:=hid (fun k (h:k<N)=>winX_get (a:=a) (at_:=at_) h);have AR0:=hid (fun h (hh:h<N) W=>wnd_around (a:=a) (h:=h) hat xo W);have HSH:=hid (fun h (hh:h<N)=>(show IntKind.i64.wrap (((2^a:Nat):Int)*2^h)=((2^(a+h):Nat):Int) by
  have hb:2^(a+h)≤2^17:=Nat.pow_le_pow_right xo xo;have e:((2^a:Nat):Int)*2^h=((2^(a+h):Nat):Int):=by rw [Nat.pow_add];push_cast;rfl
  rw [e];generalize 2^(a+h)=P at hb;exact IntWalk.i64_in _ xo))
 have hc1:W.cell? ⟨b1,0,none⟩=some (.int .i64 ((2^a:Nat):Int)):=(hW.cell (p:=⟨b1,0,none⟩) (World.block_lt_of_cell? _ _ c1)).trans c1;have hc2:W.cell? ⟨b2,0,none⟩=some (.int .i64 at_):=(hW.cell (p:=⟨b2,0,none⟩) (World.block_lt_of_cell? _ _ c2)).trans c2;have HH0:=hid h0;clear hY hJ hJx hno h0 c1 c2;generalize winX a at_ N=xs at *;generalize ((2^a:Nat):Int)=sg at *;refine callsIn_of_wp Tryz.func160 rfl trivial ?_ rfl;simp only [Tryz.ntmps160,List.size_toArray,List.length_cons,List.length_nil,Nat.reduceAdd,Nat.reduceSub,Array.replicate_succ,Array.replicate_zero,List.push_toArray,List.append_toArray,List.nil_append,List.cons_append];gi_wp2
 gi_loopg [4] N (fun g iv wr=>∃i:Nat,i+g=N∧iv= .int .i64 i∧Hid (J i wr)∧wr.cell? ⟨b1,0,none⟩=some (.int .i64 sg)∧wr.cell? ⟨b2,0,none⟩=some (.int .i64 at_))
 case atStart=>exact ⟨0,by omega,rfl,HH0,hc1,hc2⟩
 case round=>
  obtain ⟨i,hi',rfl,HJ0,q1,q2⟩:=hrel;clear HH0 hc1 hc2;by_cases hlt:i<N
  · have AR:=hid (AR0.out i hlt);have hsh:=HSH.out i hlt;have hpa:=HGT.out i hlt;generalize ((2^(a+i):Nat):Int)=ww at *;generalize ((wnd a i at_*2^(a+i):Nat):Int)=lo at *;have hsd:decide (i<64)=true:=by simp;omega
    have HI2:=hid hi';clear hi';gi_wp2
    refine wpIn_region_facts 7 xk (N:=15) rfl xk xk xdd (fun w'=>Below wr.heap.size wr w') (Ext 26) (factAt [.is (.func (.yield l) #[] #[]),.is (.int .i64 i),.is (.int .i64 sg),.is (.int .i64 i),.is (.int .i64 ww),.is (.int .i64 at_),.is (.agg #[.int .i64 lo,.int .i64 (lo+ww)])]) (factAt_stays _) br.drew ?steps ?fin
    case steps=>
     refine ⟨?o0,?o1,?o2,?o3,?o4,?o5,?o6,trivial⟩
     case o0=>
      intro u a w' ev hJ hd K hK;rw [if_pos (wanted_free rfl)];have e0:tg a 0= .func (.yield l) #[] #[]:=ev 0 xdd;have HK:=hid hK;clear hK ev hd;go_simp;exact HK.out _ _ xzc hJ rfl (Ext.refl _ _)
     case o1=>
      intro u a w' ev hJ hd K hK;rw [if_pos (wanted_free rfl)];have e4:tg a 4= .int .i64 i:=ev 4 xdd;have HK:=hid hK;clear hK ev hd;go_simp;exact HK.out _ _ xzc hJ rfl (Ext.refl _ _)
     case o2=>
      intro u a w' ev hJ hd K hK;rw [if_pos (wanted_free rfl)];have e1:tg a 1= .pointer (some ⟨b1,0,none⟩):=ev 1 xdd;have g0:=((hJ.cell (p:=⟨b1,0,none⟩) (World.block_lt_of_cell? _ _ q1)).trans q1)
      have HK:=hid hK;clear hK ev hd;go_simp;exact HK.out _ _ xzc hJ rfl (Ext.refl _ _)
     case o3=>
      intro u a w' ev hJ hd K hK;rw [if_pos (wanted_free rfl)];have e4:tg a 4= .int .i64 i:=ev 4 xdd;have HK:=hid hK;clear hK ev hd;go_simp;exact HK.out _ _ xzc hJ rfl (Ext.refl _ _)
     case o4=>
      intro u a w' ev hJ hd K hK;rw [if_pos (wanted_free rfl)];have e7:tg a 7= .int .i64 sg:=(ev 7 xdd).trans (hd 2 _ xk rfl);have e8:tg a 8= .int .i64 i:=(ev 8 xdd).trans (hd 3 _ xk rfl);have HK:=hid hK;clear hK ev hd;go_simp;exact HK.out _ _ xzc hJ rfl (Ext.refl _ _)
     case o5=>
      intro u a w' ev hJ hd K hK;rw [if_pos (wanted_free rfl)];have e2:tg a 2= .pointer (some ⟨b2,0,none⟩):=ev 2 xdd;have g0:=((hJ.cell (p:=⟨b2,0,none⟩) (World.block_lt_of_cell? _ _ q2)).trans q2)
      have HK:=hid hK;clear hK ev hd;go_simp;exact HK.out _ _ xzc hJ rfl (Ext.refl _ _)
     case o6=>
      intro u a w' ev hJ hd K hK;rw [if_pos (wanted_free rfl)];have e9:tg a 9= .int .i64 ww:=(ev 9 xdd).trans (hd 4 _ xk rfl);have e10:tg a 10= .int .i64 at_:=(ev 10 xdd).trans (hd 5 _ xk rfl);have HK:=hid hK;have HJJ:=hid hJ;clear hK ev hd hJ;go_simp;refine ⟨trivial,rfl,(callsIn_wide.2 (AR.out _)).mono ?_⟩;rintro e w'' ⟨rfl,hb⟩;exact HK.out _ _ xzc (HJJ.out.trans (hb.mono HJJ.out.size)) rfl (Ext.below hb)
    case fin=>
     intro u w3 hBq hG;have h5:u 5= .func (.yield l) #[] #[]:=hG 0 _ rfl;have h6:u 6= .int .i64 i:=hG 1 _ rfl;have h11:u 11= .agg #[.int .i64 lo,.int .i64 (lo+ww)]:=hG 6 _ rfl;have k1:w3.cell? ⟨b1,0,none⟩=some (.int .i64 sg):=(hBq.cell (p:=⟨b1,0,none⟩) (World.block_lt_of_cell? _ _ q1)).trans q1;have k2:w3.cell? ⟨b2,0,none⟩=some (.int .i64 at_):=(hBq.cell (p:=⟨b2,0,none⟩) (World.block_lt_of_cell? _ _ q2)).trans q2;obtain ⟨fn,tmps,assign,body,hy,hR⟩:=HY.out i w3 (by rw [HLN.out];exact hlt) (HJ.out _ _ _ HJ0.out hBq);rw [hpa] at hy;clear hG hpa hBq q1 q2;simp only [mixFrame,mixL,dstsOf,List.take_succ_cons,List.take_zero,List.filterMap_cons,List.filterMap_nil,List.contains_cons,List.contains_nil,Nat.reduceBEq,Bool.or_false,Bool.false_or,Bool.or_true,Bool.true_or,if_true,if_false,Bool.false_eq_true,Nat.reduceAdd,Nat.zero_add,List.drop_succ_cons,List.drop_zero,h5,h6,h11];gi_wp2
     refine ⟨rfl,hR.mono ?_⟩;rintro e W3 (⟨rfl,hJ3,hk3⟩ | ⟨rfl,hJx3⟩)
     · have m1:W3.cell? ⟨b1,0,none⟩=some (.int .i64 sg):=hk3.cell (a:=⟨b1,0,none⟩) s1 k1;have m2:W3.cell? ⟨b2,0,none⟩=some (.int .i64 at_):=hk3.cell (a:=⟨b2,0,none⟩) s2 k2;have HJ3:=hid hJ3;clear hJ3 hk3 hy hR k1 k2;gi_wp2
       gi_roundg (gk-1)
       case measure=>have:=HI2.out;omega
       case rel=>exact ⟨i+1,by have:=HI2.out;omega,by go_num,HJ3,m1,m2⟩
     · have HJ3:=hid hJx3;clear hJx3 hy hR;gi_wp2
       exact bodyPost_end (results_none rfl _ _ _) rfl ⟨⟨_,rfl⟩,.inr ⟨i+1,by rw [HLN.out];omega,HJ3.out⟩⟩
  · exfalso
    have him:i=N:=xo;subst him;exact HNO.out _ (by rw [HLN.out];exact HJ0.out)
theorem windows_ok (sg at_:Int) (w:World):
    Calls Tryz.prog 152 #[.int .i64 sg,.int .i64 at_] w fun e w'=>e= .returned (.func (.func 160) #[] #[.pointer (some ⟨w.heap.size,0,none⟩),.pointer (some ⟨w.heap.size+1,0,none⟩)])∧
      w'=(w.alloc (.cells #[.int .i64 sg] 3)).alloc (.cells #[.int .i64 at_] 3):=by
 go_enter Tryz.func152,Tryz.ntmps152
 go_wp2
 go_ret
 exact ⟨rfl,rfl⟩
structure PathI (a at_ H B:Nat) (w:World) (k:Nat) (W:World):Prop where
 le:k≤H
 own:∃v,W.cell? ⟨B,0,none⟩=some v∧W.ownsRow (B+5) 95 2 v k ((prI (winsL a at_ k)).map (Value.int .i64))
 fz:W.frozen? ⟨B,0,none⟩=false
 hh:W.cell? ⟨B+2,0,none⟩=some (.int .i64 H)
 sz:B+5≤W.heap.size
 bel:Below B w W
theorem PathI.calm {a at_ H B M:Nat} {w:World} {k:Nat} {W W':World} (h:PathI a at_ H B w k W) (hc:Calm M W W') (hB:B≤M):PathI a at_ H B w k W':=by
 obtain ⟨h0,⟨v,h1,h2⟩,h3,h5,h6,h4⟩:=h;exact ⟨h0,⟨v,hc.cell h1,hc.owns h2⟩,hc.frozen h1 h3,hc.cell h5,Nat.le_trans h6 hc.size,hc.below hB h4⟩
structure PathX (a at_ H B:Nat) (w:World) (c:Code) (W:World):Prop where
 code:c= .exit 0
 own:∃v,W.cell? ⟨B,0,none⟩=some v∧W.ownsRow (B+5) 95 2 v (H+1) ((prI (winsL a at_ (H+1))).map (Value.int .i64))
 fz:W.frozen? ⟨B,0,none⟩=false
 bel:Below B w W
theorem PathX.calm {a at_ H B M:Nat} {w:World} {c:Code} {W W':World} (h:PathX a at_ H B w c W) (hc:Calm M W W') (hB:B≤M):PathX a at_ H B w c W':=by
 obtain ⟨h0,⟨v,h1,h2⟩,h3,h4⟩:=h;exact ⟨h0,⟨v,hc.cell h1,hc.owns h2⟩,hc.frozen h1 h3,hc.below hB h4⟩
theorem one_row {W : World} {b : Nat} {x : Int} (h : W.cell? ⟨b, 0,none⟩=some (.int .i64 x)):IsRow .i64 W (some ⟨b,0,none⟩) [x]:=by
 intro i hi;have:i=0:=by simpa using hi
 subst this
 exact ⟨b, 0, rfl, World.block_lt_of_cell? _ _ h, fun j hj => by have:j=0:=by simpa using hj
                                                                 subst this;exact h⟩
theorem Path_ok (seg size:Int) (a H:Nat) (k:WinC seg size a H) (at_:Nat) (hat:(at_:Int)<size) (w:World):
    Calls Tryz.prog 119 #[.int .i64 seg,.int .i64 size,.int .i64 at_] w (FreshW2 w (winsL a at_ (H+1)) (.int .i64 0)):=by
 obtain ⟨n1,n2,n3,n4,n5,n6,n7,n8,n9⟩:=k.nums;have hsg:=k.seg;have ha6:=k.a6;have haH:a+H≤16:=by
  have h1:2^(a+H)≤65536:=by rw [Nat.pow_add];exact k.big
  rcases Nat.lt_or_ge 16 (a+H) with q|q
  · have h2:=Nat.pow_lt_pow_right (a:=2) xo q;generalize 2^(a+H)=P at *;omega
  · exact q
 have AK:=hid (fun w p ca (hw:IsRow .i64 w p [(at_:Int)])=>wasked_ok seg size a H k p ca 1 [(at_:Int)] rfl xo (fun i hi=>by
  obtain rfl:i=0:=xo;exact ⟨by simp,by simpa using hat⟩) w hw)
 have IT:=hid (fun S b1 b2 s1 s2 w c1 c2=>windows1_iter a at_ (H+1) xo xo S b1 b2 s1 s2 w c1 c2);have HPL:=hid (winX_length a at_ (H+1));have HPG:=hid (fun k (h:k<H+1)=>winX_get (a:=a) (at_:=at_) h);have HSU:=hid (fun k=>winsL_succ a at_ k);have HLW:=hid (winsL_length a at_);rw [←hsg] at IT;clear k n5 n6 n7 hsg;refine calls_of_wp_m Tryz.func119 rfl ?_;simp only [Tryz.ntmps119,List.size_toArray,List.length_cons,List.length_nil,Nat.reduceAdd,Nat.reduceSub,Array.replicate_succ,Array.replicate_zero,List.push_toArray,List.append_toArray,List.nil_append,List.cons_append];go_wp2
 refine wp_scope_loop 0 (fun _ _ _=>False) rfl (fun _ _ _ h=>h.elim) ?_;intro HQ hH hpass;clear hH hpass;go_wp2_with fail
 refine (AK.out _ (some ⟨w.heap.size+1,0,none⟩) 1 (one_row ?_)).mono ?_
 · (exact xcn)
 rintro e w' ⟨rfl,rfl⟩;go_wp2
 refine wp_label ?_;go_wp2_with fail
 refine (windows_ok seg at_ _).mono ?_;rintro e w2 ⟨rfl,rfl⟩;go_wp2
 refine wp_range_e (xs:=winX a at_ (H+1)) (Kp:=KpS (fun k=>k≠w.heap.size∧k<w.heap.size+5)) rfl (enters_of Tryz.func160 xk rfl)
   (IT.out (fun k=>k≠w.heap.size∧k<w.heap.size+5) (w.heap.size+3) (w.heap.size+4) xo xo _ ?c1 ?c2) br (fun h k=>fun i hi=>(k i hi).trans (h i hi)) ?kb ?ps
   (PathI a at_ H w.heap.size w) (PathX a at_ H w.heap.size w) ?hI ?hX ?h0 ?round ?no ?stop
 case c1=>(exact xcn)
 case c2=>(exact xcn)
 case kb=>
  intro W l o o' hl _ _ k hk;simp at hl;exact World.putObj_heap_other xo
 case ps=>
  intro x hx;simp only [winX,List.mem_map] at hx;obtain ⟨k,_,rfl⟩:=hx;rfl
 case hI=>
  intro k W W' h hc;exact h.calm hc (by simp;omega)
 case hX=>
  intro k W W' h hc;exact h.calm hc (by simp;omega)
 case no=>
  intro W h;rw [HPL.out] at h;have:=h.le;omega
 case h0=>
  exact ⟨Nat.zero_le _,⟨_,by (exact xcn),World.ownsRow_nil _ _ _ _⟩,by (exact xcn),by (exact xcn),by first|(simp;done)|(simp;omega),by (exact xbel)⟩
 case round=>
  intro q k W hq hk hi;rw [HPL.out] at hk;rw [HPG.out k hk];have hsu:=hid (HSU.out k);obtain ⟨hle,⟨v,hv,ho⟩,hfz,hhh,hsz,hbel⟩:=hi;have hlt1:(prI (winsL a at_ k)).length=k*2:=by rw [prI_length,HLW.out]
  generalize ((wnd a k at_*2^(a+k):Nat):Int)=x at *;generalize x+((2^(a+k):Nat):Int)=y at *;have hzb:w.heap.size<W.heap.size:=World.block_lt_of_cell? _ _ hv;have hzb2:w.heap.size+2<W.heap.size:=World.block_lt_of_cell? _ _ hhh;obtain ⟨ao,co,rfl,-⟩:=owns_news ho;gi_wp2
  have hab:Below W.heap.size W (W.alloc (.cells #[.int .i64 x,.int .i64 y] 95)):=br.alloc (Nat.le_refl _) _;refine ⟨keeps_below hab,fun i hi=>hab.block i xo,?_⟩;intro W2 hc;have hc0:W2.cell? ⟨W.heap.size,0,none⟩=some (.int .i64 x):=hc.cell xcw;have hc1:W2.cell? ⟨W.heap.size,1,none⟩=some (.int .i64 y):=hc.cell xcw;have hv2:W2.cell? ⟨w.heap.size,0,none⟩=some (.slice ao k co):=hc.cell ((hab.cell (p:=⟨w.heap.size,0,none⟩) hzb).trans hv);have hh2:W2.cell? ⟨w.heap.size+2,0,none⟩=some (.int .i64 H):=hc.cell ((hab.cell (p:=⟨w.heap.size+2,0,none⟩) hzb2).trans hhh);have hfz2:W2.frozen? ⟨w.heap.size,0,none⟩=false:=hc.frozen ((hab.cell (p:=⟨w.heap.size,0,none⟩) hzb).trans hv) ((hab.frozen (p:=⟨w.heap.size,0,none⟩) hzb).trans hfz);have ho2:=hc.owns (owns_below ho hab);have hbel2:Below w.heap.size w W2:=hc.below (by simp;omega) (below_via hab hbel xo);have hz2:=hbel2.size;have hz5:w.heap.size+5≤W2.heap.size:=Nat.le_trans hsz (Nat.le_trans xsi hc.size);have HO2:=hid ho2;have HB2:=hid hbel2;have hzw:w.heap.size<W2.heap.size:=World.block_lt_of_cell? _ _ hv2;have hzw2:w.heap.size+2<W2.heap.size:=World.block_lt_of_cell? _ _ hh2;clear ho hbel hab hc ho2 hbel2 hv hfz hhh
  gi_wp2_with (gi_at_builtin;refine wpListIn_append_own _ rfl (.tmp 27) (.tmp 29) 92 rfl (w.heap.size+5) 95 _ (.agg #[.int .i64 0,.int .i64 0]) 2 16 Tryz.underlying92 (info_parts info_w2).choose_spec.1 (info_parts info_w2).choose_spec.2.1 (info_parts info_w2).choose_spec.2.2.1 (info_parts info_w2).choose_spec.2.2.2 rfl xdd _ k _ rfl (HO2.out.alloc (.cells #[.int .i64 x,.int .i64 y] 95)) ⟨W2.heap.size,0,none⟩ 1 1 [.int .i64 x,.int .i64 y] rfl rfl (new_cells _ [.int .i64 x,.int .i64 y] _ _ rfl _ rfl) (by simp [Value.oneCell']) (by unfold maxLen;omega) xo (by simp;omega) ?_;intro v' w3 ho3 hg3 _
               obtain ⟨a3,c3,rfl,-⟩:=owns_news ho3;have hne3:∀z,z<w.heap.size+5→some z≠(Value.slice ao k co).ownBlock:=fun z hz e=>(by have:=(HO2.out.lt _ e.symm).1;omega)
               have hbl3:=hg3.block w.heap.size (by simp;omega) (hne3 _ xo);have hv3:w3.cell? ⟨w.heap.size,0,none⟩=some (.slice ao k co):=(World.cell?_of_block (a:=⟨w.heap.size,0,none⟩) hbl3).trans ((((Below.refl _ W2).alloc (Nat.le_refl _) _).cell (p:=⟨w.heap.size,0,none⟩) hzw).trans hv2);have hfz3:w3.frozen? ⟨w.heap.size,0,none⟩=false:=(World.frozen?_of_block (a:=⟨w.heap.size,0,none⟩) hbl3).trans ((((Below.refl _ W2).alloc (Nat.le_refl _) _).frozen (p:=⟨w.heap.size,0,none⟩) hzw).trans hfz2);have hh3:w3.cell? ⟨w.heap.size+2,0,none⟩=some (.int .i64 H):=(World.cell?_of_block (a:=⟨w.heap.size+2,0,none⟩) (hg3.block (w.heap.size+2) (by simp;omega) (hne3 _ xo))).trans ((((Below.refl _ W2).alloc (Nat.le_refl _) _).cell (p:=⟨w.heap.size+2,0,none⟩) hzw2).trans hh2);have HO3:=hid ho3;have HG3:=hid hg3;have hkh:decide (k=H)=decide (k=H):=rfl;clear ho3 hg3 hbl3 hne3;by_cases hkH:k=H)
  all_goals
    have hB3:Below w.heap.size w w3:=(HB2.out.alloc xo (.cells #[.int .i64 x,.int .i64 y] 95)).grown HG3.out (by simp;omega) (fun z hz=>by have:=(HO2.out.lt _ hz).1;omega);have hK3:KeepsOthers W2 w3:=(keeps_below (((Below.refl _ W2).alloc (Nat.le_refl _) _))).trans (KeepsOthers.of_grownBy HG3.out (own_isCells (HO2.out.alloc _)))
  · refine ⟨hK3.trans (KeepsOthers.setCell _ _ _),⟨rfl,⟨_,World.cell?_setCell_same _ _ _ hv3,?_⟩,by rw [World.frozen?_setCell];exact hfz3,hB3.setCell (Nat.le_refl _) _⟩⟩;rw [←hkH,hsu.out,prI_append,List.map_append];exact owns_heap HO3.out fun z hz=>Below.heap_setCell _ _ _ _ (by have:=(HO3.out.lt _ hz).1;show z≠w.heap.size;omega)
  · refine ⟨hK3.trans (KeepsOthers.setCell _ _ _),fun i hi=> ?_,⟨by omega,⟨_,World.cell?_setCell_same _ _ _ hv3,?_⟩,?_,?_,?_,hB3.setCell (Nat.le_refl _) _⟩⟩
    · rw [Below.heap_setCell _ _ _ _ (show i≠w.heap.size from hi.1),HG3.out.block i (by simp;omega) (fun e=>by have:=(HO2.out.lt _ e.symm).1;omega)];exact ((Below.refl _ W2).alloc (Nat.le_refl _) _).block i xo
    · rw [hsu.out,prI_append,List.map_append];exact owns_heap HO3.out fun z hz=>Below.heap_setCell _ _ _ _ (by have:=(HO3.out.lt _ hz).1;show z≠w.heap.size;omega)
    · rw [World.frozen?_setCell];exact hfz3
    · rw [World.cell?_setCell_other _ _ _ _ (by intro e;simp at e)];exact hh3
    · have:=hB3.size;have:=HG3.out.size;simp at this ⊢;omega
 case stop=>
  intro D c W hD hX hK;obtain ⟨rfl,⟨v,hv,ho⟩,hfz,hbel⟩:=hX;obtain ⟨ao,co,rfl,-⟩:=owns_news ho;simp at hD;have HO:=hid ho;have HB:=hid hbel;clear ho hbel;go_wp2
  have hK2:(W.setCell ⟨w.heap.size,0,none⟩ (.slice ao (H+1) co)).heap[D]? =some (.deferred (some [])):=(Below.heap_setCell _ _ _ _ (by show D≠w.heap.size;omega)).trans hK;have hcalm:Calm (w.heap.size+1) (W.setCell ⟨w.heap.size,0,none⟩ (.slice ao (H+1) co)) ((W.setCell ⟨w.heap.size,0,none⟩ (.slice ao (H+1) co)).putObj D (.deferred none)):=Calm.putObj _ xo hK2 rfl;simp only [Exit.jump];refine postM_one hK2 (results_ct rfl rfl (run_loadVar_one Tryz.underlying92 rfl (hcalm.cell (World.cell?_setCell_same _ _ _ hv)))) ⟨_,rfl,?_,hcalm.below xo (HB.out.setCell (Nat.le_refl _) _)⟩;rw [HLW.out];exact owns_base (hcalm.owns (owns_heap HO.out fun z hz=>Below.heap_setCell _ _ _ _ (by have:=(HO.out.lt _ hz).1;show z≠w.heap.size;omega))) xo
end
section
open Go.RowKit Go.Shelf
attribute [local go_sem] Oper.semAt_some
structure NthI (ws:List Int) (n t b0 b1 B:Nat) (w:World) (k:Nat) (W:World):Prop where
 le:nthB ws n k≤t
 bx:W.cell? ⟨B,0,none⟩=some (.int .i64 ((t-nthB ws n k:Nat):Int))
 fz:W.frozen? ⟨B,0,none⟩=false
 box0:W.cell? ⟨b0,0,none⟩=some (.int .i64 0)
 box1:W.cell? ⟨b1,0,none⟩=some (.int .i64 0)
 fz0:W.frozen? ⟨b0,0,none⟩=false
 fz1:W.frozen? ⟨b1,0,none⟩=false
 bel:Below B w W
theorem NthI.calm {ws:List Int} {n t b0 b1 B M:Nat} {w:World} {k:Nat} {W W':World} (h:NthI ws n t b0 b1 B w k W) (hc:Calm M W W') (hB:B≤M):NthI ws n t b0 b1 B w k W':=
  ⟨h.le,hc.cell h.bx,hc.frozen h.bx h.fz,hc.cell h.box0,hc.cell h.box1,hc.frozen h.box0 h.fz0,hc.frozen h.box1 h.fz1,hc.below hB h.bel⟩
structure NthX (ws:List Int) (n t b0 b1 B:Nat) (w:World) (c:Code) (W:World):Prop where
 code:c= .ret
 lt:t<(plsW ws 0 n).length
 hit:W.cell? ⟨b0,0,none⟩=some (.int .i64 ((plsW ws 0 n).getD t 0:Nat))
 box1:W.cell? ⟨b1,0,none⟩=some (.int .i64 0)
 bel:Below B w W
theorem NthX.calm {ws:List Int} {n t b0 b1 B M:Nat} {w:World} {c:Code} {W W':World} (h:NthX ws n t b0 b1 B w c W) (hc:Calm M W W') (hB:B≤M):NthX ws n t b0 b1 B w c W':=
  ⟨h.code,h.lt,hc.cell h.hit,hc.cell h.box1,hc.below hB h.bel⟩
def nthV (ws:List Int) (n t:Nat):Int:=if t<(plsW ws 0 n).length then ((plsW ws 0 n).getD t 0:Nat) else 0
def nthE (ws:List Int) (n t:Nat):Int:=if t<(plsW ws 0 n).length then 0 else 6
theorem parts_get0 (ws:List Int) {n m:Nat} (h:m<(n+63)/64):(partsL ws 0 n).getD m #[]= #[.int .i64 ((64*m:Nat):Int),.int .u64 (cutV ws 0 n m)]:=by
 have:=partsL_get ws (a:=0) (b:=n) (k:=m) xo;rwa [Nat.zero_div,Nat.zero_add] at this
theorem parts_len0 (ws:List Int) (n:Nat):(partsL ws 0 n).length=(n+63)/64:=by
 rw [partsL_length,Nat.zero_div,Nat.sub_zero]
theorem Nth_ok (wa:Option Addr) (wc:Nat) (ws:List Int) (hu:U64s ws) (n t:Nat) (hn:n≤65536) (ht:t≤65536) (hl:ws.length≤1000000000000) (hmay:wMayB ws n=true) (w:World) (hw:IsRow .u64 w wa ws) (hT:TabAt w):
    Calls Tryz.prog 84 #[.slice wa ws.length wc,.int .i64 n,.int .i64 t] w (AnsB w (.tuple #[.int .i64 (nthV ws n t),.int .i64 (nthE ws n t)])):=by
 have AK:=hid (fun w hw=>(by have:=occCheck_ok wa wc ws hu n hn hl w hw;rwa [if_pos hmay] at this:Calls Tryz.prog 98 #[.slice wa ws.length wc,.int .i64 n] w fun e w'=>e= .returned (.int .i64 0)∧w=w'));have hlen:n≤64*ws.length:=by
  simp only [wMayB,Bool.and_eq_true,decide_eq_true_eq] at hmay;omega
 have IT:=hid (fun S b1 b2 b3 s1 s2 s3 sw w hw c1 c2 c3=>parts1_iter wa wc ws hu 0 n (Nat.zero_le _) hn xo hl S b1 b2 b3 s1 s2 s3 sw w hw c1 c2 c3);have HW:=hid hw;have HT:=hid hT;have HLT:=hid (fun x (h:wa=some x) (h0:0<ws.length)=>(show x.block<w.heap.size from by
  obtain ⟨bb,off,x',hx,-,-,hlt⟩:=hw.get h0;rw [hx] at h;cases h;exact hlt))
 obtain ⟨m,hm⟩:∃m,(n+63)/64=m:=⟨_,rfl⟩
 have HP:=hid (fun k (hk:k<m)=>parts_get0 ws (n:=n) (m:=k) xo);have HPL:=hid ((parts_len0 ws n).trans hm);have HV:=hid (fun k (hk:k<m)=>cutV_bd hu (a:=0) (b:=n) (k:=k) xo);have HIT:=hid (fun k (hk:k<m) j hj=>nth_hit (ws:=ws) hu (n:=n) (m:=k) (k:=j) xo hj);have HSU:=hid (fun k (hk:k<m)=>nthB_succ (ws:=ws) hu (n:=n) (m:=k) xo);have NON:=hid (nth_miss (ws:=ws) (n:=n) (m:=m) xo);have hmb:m≤1024:=xo;obtain ⟨M,hM⟩:∃M,ws.length=M:=⟨_,rfl⟩
 rw [hM] at hlen hl AK IT HLT ⊢;clear hw hmay hM hu hm hT;refine calls_of_wp_m Tryz.func84 rfl ?_;simp only [Tryz.ntmps84,List.size_toArray,List.length_cons,List.length_nil,Nat.reduceAdd,Nat.reduceSub,Array.replicate_succ,Array.replicate_zero,List.push_toArray,List.append_toArray,List.nil_append,List.cons_append];obtain ⟨V,hV⟩:∃V:Int,nthV ws n t=V:=⟨_,rfl⟩
 obtain ⟨E,hE⟩:∃E:Int,nthE ws n t=E:=⟨_,rfl⟩
 rw [hV,hE];have YES:=hid (fun (h:t<(plsW ws 0 n).length)=>(show V=((plsW ws 0 n).getD t 0:Nat)∧E=0 by rw [←hV,←hE,nthV,nthE,if_pos h,if_pos h];exact ⟨rfl,rfl⟩));have NO:=hid (fun (h:¬t<(plsW ws 0 n).length)=>(show V=0∧E=6 by rw [←hV,←hE,nthV,nthE,if_neg h,if_neg h];exact ⟨rfl,rfl⟩));clear hV hE;have g1:decide ((t:Int)<0)=false:=by simp
 go_wp2
 refine wp_scope_loop 0 (fun _ _ _=>False) rfl (fun _ _ _ h=>h.elim) ?_;intro H hH hpass;clear hH hpass;go_wp2_with fail
 refine (AK.out _ (HW.out.below xbel)).mono ?_;rintro e w' ⟨rfl,rfl⟩;go_wp2
 refine wp_label ?_;go_wp2_with fail
 refine (parts_ok wa M wc 0 n _).mono ?_;rintro e w2 ⟨rfl,rfl⟩;go_wp2
 refine wp_range (xs:=partsL ws 0 n) (Kp:=KpS (fun k=>k≠w.heap.size∧k≠w.heap.size+1∧k≠w.heap.size+2∧k<w.heap.size+6)) rfl (enters_of Tryz.func149 xk rfl)
   (IT.out (fun k=>k≠w.heap.size∧k≠w.heap.size+1∧k≠w.heap.size+2∧k<w.heap.size+6) (w.heap.size+1+1+1) (w.heap.size+1+1+2) (w.heap.size+1+1+3) xo xo xo ?sw _ ?hw ?c1 ?c2 ?c3) br (fun _ _ _=>rfl) (fun h k=>fun i hi=>(k i hi).trans (h i hi)) ?kb ?ps
   (NthI ws n t (w.heap.size+1) (w.heap.size+1+1) w.heap.size w) (NthX ws n t (w.heap.size+1) (w.heap.size+1+1) w.heap.size w) ?hI ?hX ?h0 ?round ?done ?stop
 case sw=>intro x hx h0;have:=HLT.out x hx h0;omega
 case hw=>exact HW.out.below xbel
 case c1=>(exact xcn)
 case c2=>(exact xcn)
 case c3=>(exact xcn)
 case kb=>
  intro W l o o' hl _ _ k hk;simp at hl;exact World.putObj_heap_other xo
 case ps=>
  intro x hx;simp only [partsL,List.mem_map] at hx;obtain ⟨k,_,rfl⟩:=hx;rfl
 case hI=>
  intro k W W' h hc;exact h.calm hc (by simp;omega)
 case hX=>
  intro k W W' h hc;exact h.calm hc (by simp;omega)
 case h0=>
  exact ⟨by rw [nthB_zero];omega,by rw [nthB_zero,Nat.sub_zero];(exact xcn),by (exact xcn),by (exact xcn),by (exact xcn),by (exact xcn),by (exact xcn),by (exact xbel)⟩
 case round=>
  intro l k W hl hk hi;rw [HPL.out] at hk;rw [HP.out k hk];have hv:=HV.out k hk;have HH:=hid (HIT.out k hk);have hsu:=HSU.out k hk;have h2:=popI_le (cutV ws 0 n k);have O1:=hid (fun W=>Ones_ok (cutV ws 0 n k) hv.1 hv.2 W);have TZ:=hid (fun j (hj:j<popI (cutV ws 0 n k))=>clrN_tz hv.1 hv.2 hj);generalize cutV ws 0 n k=x at *;generalize popI x=px at *;gi_wp2_with fail
  refine ⟨rfl,?_⟩;intro W2 hi2;have hle:=hi2.le;have hbx:=hi2.bx;have hb0:=hi2.box0;have hb1:=hi2.box1;have hfz:=hi2.fz;have hf0:=hi2.fz0;have hf1:=hi2.fz1;have HBL:=hid hi2.bel;obtain ⟨r,hr⟩:∃r,t-nthB ws n k=r:=⟨_,rfl⟩
  rw [hr] at hbx;have HSUC:=hid hsu;have hrt:nthB ws n k+r=t:=xo;have HRT:=hid hrt;have hrb:r≤65536:=xo;clear hi hi2 hsu hr hrt hle;gi_wp2_with fail
  refine ⟨trivial,rfl,(callsIn_wide.2 (O1.out _)).mono ?_⟩;rintro e w' ⟨rfl,rfl⟩;by_cases hlt:r<px
  · have d1:decide ((px:Int)≤(r:Int))=false:=by simp;omega
    gi_wp2
    gi_loopg [10,34] r (fun g xv iv wr=>∃i:Nat,i+g=r∧xv= .int .u64 (clrN x i)∧iv= .int .i64 i∧wr=W2)
    case atStart=>exact ⟨0,by omega,by rw [clrN_zero],rfl,rfl⟩
    case round=>
     obtain ⟨i,hir,rfl,rfl,rfl⟩:=hrel;by_cases hil:i<r
     · obtain ⟨q0,⟨q1,q2⟩,-⟩:=TZ.out i xo;have hcl:=clrN_succ x i;obtain ⟨cx,hcx⟩:∃c,clrN x i=c:=⟨_,rfl⟩
       rw [hcx] at hcl q0 q1 q2 ⊢;have hsub:IntKind.u64.wrap (cx-1)=cx-1:=IntWalk.u64_in _ xo;have HCL:=hid hcl;clear hcl hcx;gi_wp2
       gi_roundg (gk-1)
       case measure=>omega
       case rel=>exact ⟨i+1,by omega,by rw [HCL.out];rfl,by go_num,rfl⟩
     · have hie:i=r:=xo;subst hie;obtain ⟨q0,⟨q1,q2⟩,q3⟩:=TZ.out i hlt;obtain ⟨z1,z2⟩:=HH.out i hlt;have TT:=hid (tz_ok _ q1 q2 q0 wr (HT.out.below HBL.out));have t3:=(tzI_bit q1 q2 q0).1;rw [←q3,HRT.out] at z2;rw [HRT.out] at z1;generalize clrN x i=cx at *;generalize tzI cx=tz at *;have HE:Hid (((64*k:Nat):Int)+tz=((plsW ws 0 n).getD t 0:Nat)):=hid (by rw [←z2];push_cast;rfl);have HZ:=hid z1;clear q3 z1 z2 q0 q1 q2 O1 TZ HH;gi_wp2_with fail
       refine ⟨trivial,rfl,(callsIn_wide.2 TT.out).mono ?_⟩;rintro e w' ⟨rfl,rfl⟩;gi_wp2
       refine ⟨(KeepsOthers.setCell wr ⟨w.heap.size+1,0,none⟩ _).trans (KeepsOthers.setCell _ ⟨w.heap.size+1+1,0,none⟩ _),⟨rfl,HZ.out,?_,?_,?_⟩⟩
       · rw [←HE.out,World.cell?_setCell_other _ _ _ _ (by intro e;simp at e)];exact World.cell?_setCell_same _ _ _ hb0
       · exact World.cell?_setCell_same _ _ _ (by rw [World.cell?_setCell_other _ _ _ _ (by intro e;simp at e)];exact hb1)
       · exact (HBL.out.setCell xdo _).setCell xdo _
  · have d1:decide ((px:Int)≤(r:Int))=true:=by simp;omega
    have hwr:IntKind.i64.wrap ((r:Int)-(px:Int))=((r-px:Nat):Int):=by rw [show (r:Int)-(px:Int)=((r-px:Nat):Int) by omega];exact IntWalk.i64_in _ xo
    gi_wp2
    have e:t-nthB ws n (k+1)=r-px:=by have:=HSUC.out;have:=HRT.out;omega
    refine ⟨KeepsOthers.setCell W2 ⟨w.heap.size,0,none⟩ _,fun i hi=>Below.heap_setCell W2 ⟨w.heap.size,0,none⟩ _ _ hi.1,⟨?_,?_,?_,?_,?_,?_,?_,?_⟩⟩
    · have:=HSUC.out;have:=HRT.out;omega
    · rw [e];exact World.cell?_setCell_same _ _ _ hbx
    · rw [World.frozen?_setCell];exact hfz
    · rw [World.cell?_setCell_other _ _ _ _ (by intro e;simp at e)];exact hb0
    · rw [World.cell?_setCell_other _ _ _ _ (by intro e;simp at e)];exact hb1
    · rw [World.frozen?_setCell];exact hf0
    · rw [World.frozen?_setCell];exact hf1
    · exact HBL.out.setCell (Nat.le_refl _) _
 case done=>
  intro D W hD hi hK;have hb0:=hi.box0;have hb1:=hi.box1;have hf0:=hi.fz0;have hf1:=hi.fz1;have hle:=hi.le;have hbl:=hi.bel;rw [HPL.out,NON.out] at hle;obtain ⟨rfl,rfl⟩:=NO.out xo;simp at hD;have HBL:=hid hbl;clear hi hle hbl YES NO NON HIT HV HP;go_wp2
  have hK2:((W.setCell ⟨w.heap.size+1,0,none⟩ (.int .i64 0)).setCell ⟨w.heap.size+1+1,0,none⟩ (.int .i64 6)).heap[D]? =some (.deferred (some [])):=((Below.heap_setCell _ _ _ _ (by show D≠w.heap.size+1+1;omega)).trans (Below.heap_setCell _ _ _ _ (by show D≠w.heap.size+1;omega))).trans hK;have hcalm:Calm (w.heap.size+3) ((W.setCell ⟨w.heap.size+1,0,none⟩ (.int .i64 0)).setCell ⟨w.heap.size+1+1,0,none⟩ (.int .i64 6)) (((W.setCell ⟨w.heap.size+1,0,none⟩ (.int .i64 0)).setCell ⟨w.heap.size+1+1,0,none⟩ (.int .i64 6)).putObj D (.deferred none)):=Calm.putObj _ xo hK2 rfl;have c0:((W.setCell ⟨w.heap.size+1,0,none⟩ (.int .i64 0)).setCell ⟨w.heap.size+1+1,0,none⟩ (.int .i64 6)).cell? ⟨w.heap.size+1,0,none⟩=some (.int .i64 0):=by
   rw [World.cell?_setCell_other _ _ _ _ (by intro e;simp at e)];exact World.cell?_setCell_same _ _ _ hb0
  have c1:((W.setCell ⟨w.heap.size+1,0,none⟩ (.int .i64 0)).setCell ⟨w.heap.size+1+1,0,none⟩ (.int .i64 6)).cell? ⟨w.heap.size+1+1,0,none⟩=some (.int .i64 6):=World.cell?_setCell_same _ _ _ (by rw [World.cell?_setCell_other _ _ _ _ (by intro e;simp at e)];exact hb1);exact postM_one hK2 (results_cc rfl rfl rfl (run_loadVar_one Tryz.underlying3 rfl (hcalm.cell c0)) (run_loadVar_one Tryz.underlying34 rfl (hcalm.cell c1))) ⟨rfl,hcalm.below xo ((HBL.out.setCell xdo _).setCell xdo _)⟩
 case stop=>
  intro D c W hD hX hK;obtain ⟨rfl,hlt,hc0,hc1,hbel⟩:=hX;obtain ⟨rfl,rfl⟩:=YES.out hlt;simp at hD;have hcalm:Calm (w.heap.size+3) W (W.putObj D (.deferred none)):=Calm.putObj _ xo hK rfl;clear YES NO NON HIT HV HP;go_wp2
  exact postM_one hK (results_cc rfl rfl rfl (run_loadVar_one Tryz.underlying3 rfl (hcalm.cell hc0)) (run_loadVar_one Tryz.underlying34 rfl (hcalm.cell hc1))) ⟨rfl,hcalm.below xo hbel⟩
end
end Go.Proofs.YtmnlagmmbfjbeaaGreatDoor

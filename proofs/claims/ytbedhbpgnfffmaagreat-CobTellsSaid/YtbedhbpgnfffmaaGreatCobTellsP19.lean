/- Merged: Twin4, Dense, DenPl, DenW, RangeE, Path, OccNth, PutW, PutL, ApFull, InvEff, PutK, Amg8, With, GPut, SlLayW, SlClr, GPutOk, Narrow, GTake, SlAt, GTakeOk, GapNm, GapRes, PmGtPl, PmNums, PmHp, PmWkPl. -/
import Derived.Test.YtbedhbpgnfffmaaGreatCobTellsP15
import Derived.Test.YtbedhbpgnfffmaaGreatCobTellsP10
import Derived.Test.YtbedhbpgnfffmaaGreatCobTellsP11
import Derived.Test.YtbedhbpgnfffmaaGreatCobTellsP2
import Derived.Test.YtbedhbpgnfffmaaGreatCobTellsP12
import Derived.Test.YtbedhbpgnfffmaaGreatCobTellsP3
import Derived.Test.YtbedhbpgnfffmaaGreatCobTellsP13
import Derived.Test.YtbedhbpgnfffmaaGreatCobTellsP4
import Derived.Test.YtbedhbpgnfffmaaGreatCobTellsP1
import Derived.Test.YtbedhbpgnfffmaaGreatCobTellsP18
namespace Go.Proofs.YtbedhbpgnfffmaaGreat
set_option maxRecDepth 100000
set_option maxHeartbeats 40000000
set_option linter.unusedVariables false
set_option linter.unusedSimpArgs false
section
open Go.RowKit Go.Shelf Go.Sort
theorem bx_two4 {w w0:World} {l1 l2:List Value} {t1 t2:TypeId} (h:(w.alloc (.cells l1.toArray t1)).alloc (.cells l2.toArray t2)=w0):
    Below w.heap.size w w0∧BX w0 w.heap.size t1 l1∧BX w0 (w.heap.size+1) t2 l2∧w.heap.size+2=w0.heap.size:=by
 subst h;have z1:(w.alloc (.cells l1.toArray t1)).heap.size=w.heap.size+1:=by simp
 have b1:=bx_new w l1 t1;have b2:=bx_new (w.alloc (.cells l1.toArray t1)) l2 t2;have e2:Below (w.alloc (.cells l1.toArray t1)).heap.size (w.alloc (.cells l1.toArray t1)) ((w.alloc (.cells l1.toArray t1)).alloc (.cells l2.toArray t2)):=br.alloc (Nat.le_refl _) _;rw [z1] at b2;exact ⟨(br.alloc (Nat.le_refl _) _).alloc xsi _,bx_below e2 b1 (by rw [z1];omega),b2,by simp⟩
theorem rowR_cell4 (w:World) (b i:Nat) (v:Value):RowR b w (w.setCell ⟨b,i,none⟩ v):=⟨World.size_setCell _ _ _,fun q hq=>heap_setCell_ne _ _ _ hq,fun B hB=>br.setCell hB v⟩
theorem bx_frz {w:World} {b:Nat} {t:TypeId} {vs:List Value} (h:BX w b t vs):∀i,i<vs.length→w.frozen? ⟨b,i,none⟩=false:=fun i hi=>bx_frozen h hi
theorem Twin4N_ok (c:SlC) (a:SlA) (w:World) (hin:SlIn w c a) (hl1:c.ws.length≤100000) (hl2:c.ks.length≤100000) (hl3:c.vs.length≤100000) (hl4:c.cs.length≤100000) (z1:a.wa=none→a.wc=0) (z2:a.ka=none→a.kc=0) (z3:a.va=none→a.vc=0) (z4:a.ca=none→a.cc=0):
    Calls Tryz.prog 49 #[slV c a] w (FreshSlN w c):=by
 have HZ1:Hid (a.wa=none→c.ws.length=0∧a.wc=0):=hid fun e=>⟨by have:=hin.w;rw [e] at this;rw [row_none this];rfl,z1 e⟩
 have HZ2:Hid (a.ka=none→c.ks.length=0∧a.kc=0):=hid fun e=>⟨by have:=hin.k;rw [e] at this;rw [row_none this];rfl,z2 e⟩
 have HZ3:Hid (a.va=none→c.vs.length=0∧a.vc=0):=hid fun e=>⟨by have:=hin.v;rw [e] at this;rw [row_none this];rfl,z3 e⟩
 have HZ4:Hid (a.ca=none→c.cs.length=0∧a.cc=0):=hid fun e=>⟨by have:=hin.n;rw [e] at this;rw [row_none this];rfl,z4 e⟩
 obtain ⟨HR1,HR2,HR3,HR4,-⟩:=hin;replace HR1:=hid HR1;replace HR2:=hid HR2;replace HR3:=hid HR3;replace HR4:=hid HR4;obtain ⟨seg,ws,ks,vs,cs,laid⟩:=c;obtain ⟨wa,ka,va,ca,wc,kc,vc,cc⟩:=a;dsimp only [slV,FreshSlN] at *;obtain ⟨lw,hw⟩:∃n,ws.length=n:=⟨_,rfl⟩
 obtain ⟨lk,hk⟩:∃n,ks.length=n:=⟨_,rfl⟩
 obtain ⟨lv,hv⟩:∃n,vs.length=n:=⟨_,rfl⟩
 obtain ⟨lc,hc⟩:∃n,cs.length=n:=⟨_,rfl⟩
 rw [hw] at hl1 HZ1 ⊢;rw [hk] at hl2 HZ2 ⊢;rw [hv] at hl3 HZ3 ⊢;rw [hc] at hl4 HZ4 ⊢;have HL1:=hid hw;have HL2:=hid hk;have HL3:=hid hv;have HL4:=hid hc;clear z1 z2 z3 z4 hw hk hv hc;go_enter Tryz.func49,Tryz.ntmps49
 go_upto_region 1 with (fail)
 generalize hw0:(w.alloc _).alloc _=w0;obtain ⟨hb0,ht,hr,hz0⟩:=bx_two4 (l1:=[.int .i64 seg,.slice wa lw wc,.slice ka lk kc,.slice va lv vc,.slice ca lc cc,.int .u64 laid]) (l2:=[.int .i64 0,.slice none 0 0,.slice none 0 0,.slice none 0 0,.slice none 0 0,.int .u64 0]) hw0;have HT0:=hid ht;have HR0:=hid hr;have HB0:=hid hb0;clear hw0 ht hr hb0;have d1:=Lib.cell?_alloc_some (.cells #[] 27) (bx_pb HT0.out 1 _ rfl);have zt1:=bx_lt HT0.out;have e1:w0.cell? ⟨w.heap.size,1,none⟩=some (.slice wa lw wc):=bx_pb HT0.out 1 _ rfl;go_upto_region 2 with (first
   | (at_builtin;refine wpl_append (.tmp 3) (.tmp 5) 24 27 (.int .u64 0) 1 8 Tryz.underlying24 info4_uint64 rfl xdd xdd w0.heap.size _ 0 [] wa lw wc (ws.map (Value.int .u64)) (made_at w0 w0.heap.size 27 rfl) (by rw [List.length_map,HL1.out];omega) HZ1.out (fun ad h j u hj=>Lib.cell?_alloc_some _ (row_news' (HR1.out.below HB0.out) ad h j u hj)) (numCells _) xo xsi rfl rfl rfl rfl ?_;intro v1 w1 ho1 hg1 _
      rw [Nat.zero_add,List.nil_append] at ho1;have hb1:Below w0.heap.size w0 w1:=((Below.refl _ w0).alloc (Nat.le_refl _) _).grown hg1 xsi (by intro k hk;simp [Value.ownBlock] at hk;omega);obtain ⟨a1,c1,rfl,-⟩:=owns_news ho1;have hz1:=hb1.size;have HTa:=hid (bx_below hb1 HT0.out (bx_lt HT0.out));have HRa:=hid (bx_below hb1 HR0.out (bx_lt HR0.out));have HP1:=hid ho1;have HBa:=xv hb1 HB0;have c1':=bx_pb HTa.out 1 _ rfl;have f1':=bx_frz HTa.out 1 (by show (1:Nat)<6;decide);clear ho1 hg1 hb1 HT0 HR0 HB0))
 have HRW:=hid (rowR_cell4 w1 w.heap.size 1 (.slice a1 lw c1));have HT1:=hid (bx_set HTa.out 1 (.slice a1 lw c1));have HR1:=hid (HRW.out.bx HRa.out xo);have HB1:=hid (HBa.out.trans (HRW.out.bel _ (Nat.le_refl _)));replace HP1:=hid (owns_heap HP1.out fun q hq=>HRW.out.other q (by have:=(HP1.out.lt q hq).1;omega));have hy1:=Nat.le_of_eq HRW.out.size;have hx1:=Nat.le_of_eq HRW.out.size.symm;generalize w1.setCell _ _=W1 at *;clear HTa HRa HBa HRW c1' f1' d1 zt1 e1;have d2:=Lib.cell?_alloc_some (.cells #[] 2) (bx_pb HT1.out 2 _ rfl);have zt2:=bx_lt HT1.out;have e2:W1.cell? ⟨w.heap.size,2,none⟩=some (.slice ka lk kc):=bx_pb HT1.out 2 _ rfl;go_upto_region 3 with (first
   | (at_builtin;refine wpl_append (.tmp 8) (.tmp 10) 25 2 (.int .i64 0) 1 8 Tryz.underlying25 info4_int64 rfl xdd xdd W1.heap.size _ 0 [] ka lk kc (ks.map (Value.int .i64)) (made_at W1 W1.heap.size 2 rfl) (by rw [List.length_map,HL2.out];omega) HZ2.out (fun ad h j u hj=>Lib.cell?_alloc_some _ (row_news' (HR2.out.below HB1.out) ad h j u hj)) (numCells _) xo xsi rfl rfl rfl rfl ?_;intro v2 w2 ho2 hg2 _
      rw [Nat.zero_add,List.nil_append] at ho2;have hb2:Below W1.heap.size W1 w2:=((Below.refl _ W1).alloc (Nat.le_refl _) _).grown hg2 xsi (by intro k hk;simp [Value.ownBlock] at hk;omega);obtain ⟨a2,c2,rfl,-⟩:=owns_news ho2;have hz2:=hb2.size;have HTa:=hid (bx_below hb2 HT1.out (bx_lt HT1.out));have HRa:=hid (bx_below hb2 HR1.out (bx_lt HR1.out));have HP2:=hid ho2;replace HP1:=hid (owns_below HP1.out hb2);have HBK2:=hid (fun p (h:(Value.slice a2 lk c2).ownBlock=some p)=>(ho2.lt p h).2);have HBa:=xv hb2 HB1;have c2':=bx_pb HTa.out 2 _ rfl;have f2':=bx_frz HTa.out 2 (by show (2:Nat)<6;decide);clear ho2 hg2 hb2 HT1 HR1 HB1))
 have HRW:=hid (rowR_cell4 w2 w.heap.size 2 (.slice a2 lk c2));have HT2:=hid (bx_set HTa.out 2 (.slice a2 lk c2));have HR2:=hid (HRW.out.bx HRa.out xo);have HB2:=hid (HBa.out.trans (HRW.out.bel _ (Nat.le_refl _)));replace HP1:=hid (owns_heap HP1.out fun q hq=>HRW.out.other q (by have:=(HP1.out.lt q hq).1;omega));replace HP2:=hid (owns_heap HP2.out fun q hq=>HRW.out.other q (by have:=(HP2.out.lt q hq).1;omega));have hy2:=Nat.le_of_eq HRW.out.size;have hx2:=Nat.le_of_eq HRW.out.size.symm;generalize w2.setCell _ _=W2 at *;clear HTa HRa HBa HRW c2' f2' d2 zt2 e2;have d3:=Lib.cell?_alloc_some (.cells #[] 2) (bx_pb HT2.out 3 _ rfl);have zt3:=bx_lt HT2.out;have e3:W2.cell? ⟨w.heap.size,3,none⟩=some (.slice va lv vc):=bx_pb HT2.out 3 _ rfl;go_upto_region 4 with (first
   | (at_builtin;refine wpl_append (.tmp 13) (.tmp 15) 25 2 (.int .i64 0) 1 8 Tryz.underlying25 info4_int64 rfl xdd xdd W2.heap.size _ 0 [] va lv vc (vs.map (Value.int .i64)) (made_at W2 W2.heap.size 2 rfl) (by rw [List.length_map,HL3.out];omega) HZ3.out (fun ad h j u hj=>Lib.cell?_alloc_some _ (row_news' (HR3.out.below HB2.out) ad h j u hj)) (numCells _) xo xsi rfl rfl rfl rfl ?_;intro v3 w3 ho3 hg3 _
      rw [Nat.zero_add,List.nil_append] at ho3;have hb3:Below W2.heap.size W2 w3:=((Below.refl _ W2).alloc (Nat.le_refl _) _).grown hg3 xsi (by intro k hk;simp [Value.ownBlock] at hk;omega);obtain ⟨a3,c3,rfl,-⟩:=owns_news ho3;have hz3:=hb3.size;have HTa:=hid (bx_below hb3 HT2.out (bx_lt HT2.out));have HRa:=hid (bx_below hb3 HR2.out (bx_lt HR2.out));have HP3:=hid ho3;replace HP1:=hid (owns_below HP1.out hb3);replace HP2:=hid (owns_below HP2.out hb3);have HBa:=xv hb3 HB2;have c3':=bx_pb HTa.out 3 _ rfl;have f3':=bx_frz HTa.out 3 (by show (3:Nat)<6;decide);clear ho3 hg3 hb3 HT2 HR2 HB2))
 have HRW:=hid (rowR_cell4 w3 w.heap.size 3 (.slice a3 lv c3));have HT3:=hid (bx_set HTa.out 3 (.slice a3 lv c3));have HR3:=hid (HRW.out.bx HRa.out xo);have HB3:=hid (HBa.out.trans (HRW.out.bel _ (Nat.le_refl _)));replace HP1:=hid (owns_heap HP1.out fun q hq=>HRW.out.other q (by have:=(HP1.out.lt q hq).1;omega));replace HP2:=hid (owns_heap HP2.out fun q hq=>HRW.out.other q (by have:=(HP2.out.lt q hq).1;omega));replace HP3:=hid (owns_heap HP3.out fun q hq=>HRW.out.other q (by have:=(HP3.out.lt q hq).1;omega));have hy3:=Nat.le_of_eq HRW.out.size;have hx3:=Nat.le_of_eq HRW.out.size.symm;generalize w3.setCell _ _=W3 at *;clear HTa HRa HBa HRW c3' f3' d3 zt3 e3;have d4:=Lib.cell?_alloc_some (.cells #[] 3) (bx_pb HT3.out 4 _ rfl);have zt4:=bx_lt HT3.out;have e4:W3.cell? ⟨w.heap.size,4,none⟩=some (.slice ca lc cc):=bx_pb HT3.out 4 _ rfl;go_upto_region 5 with (first
   | (at_builtin;refine wpl_append (.tmp 18) (.tmp 20) 26 3 (.int .i64 0) 1 8 Tryz.underlying26 info4_int rfl xdd xdd W3.heap.size _ 0 [] ca lc cc (cs.map (Value.int .i64)) (made_at W3 W3.heap.size 3 rfl) (by rw [List.length_map,HL4.out];omega) HZ4.out (fun ad h j u hj=>Lib.cell?_alloc_some _ (row_news' (HR4.out.below HB3.out) ad h j u hj)) (numCells _) xo xsi rfl rfl rfl rfl ?_;intro v4 w4 ho4 hg4 _
      rw [Nat.zero_add,List.nil_append] at ho4;have hb4:Below W3.heap.size W3 w4:=((Below.refl _ W3).alloc (Nat.le_refl _) _).grown hg4 xsi (by intro k hk;simp [Value.ownBlock] at hk;omega);obtain ⟨a4,c4,rfl,-⟩:=owns_news ho4;have hz4:=hb4.size;have HTa:=hid (bx_below hb4 HT3.out (bx_lt HT3.out));have HRa:=hid (bx_below hb4 HR3.out (bx_lt HR3.out));have HP4:=hid ho4;replace HP1:=hid (owns_below HP1.out hb4);replace HP2:=hid (owns_below HP2.out hb4);replace HP3:=hid (owns_below HP3.out hb4);have HBa:=xv hb4 HB3;have c4':=bx_pb HTa.out 4 _ rfl;have f4':=bx_frz HTa.out 4 (by show (4:Nat)<6;decide);clear ho4 hg4 hb4 HT3 HR3 HB3))
 have HRW:=hid (rowR_cell4 w4 w.heap.size 4 (.slice a4 lc c4));have HT4:=hid (bx_set HTa.out 4 (.slice a4 lc c4));have HR4:=hid (HRW.out.bx HRa.out xo);have HB4:=hid (HBa.out.trans (HRW.out.bel _ (Nat.le_refl _)));replace HP1:=hid (owns_heap HP1.out fun q hq=>HRW.out.other q (by have:=(HP1.out.lt q hq).1;omega));replace HP2:=hid (owns_heap HP2.out fun q hq=>HRW.out.other q (by have:=(HP2.out.lt q hq).1;omega));replace HP3:=hid (owns_heap HP3.out fun q hq=>HRW.out.other q (by have:=(HP3.out.lt q hq).1;omega));replace HP4:=hid (owns_heap HP4.out fun q hq=>HRW.out.other q (by have:=(HP4.out.lt q hq).1;omega));have hy4:=Nat.le_of_eq HRW.out.size;have hx4:=Nat.le_of_eq HRW.out.size.symm;generalize w4.setCell _ _=W4 at *;clear HTa HRa HBa HRW c4' f4' d4 zt4 e4;go_wp2_with (first|(refine wpl_load 29 (.tmp 1) _ _ rfl rfl rfl Tryz.underlying29 rfl xk (bx_pb HT4.out) ?_)|(refine wpl_store_row 29 (.tmp 2) (.tmp 23) _ [.int .i64 0,.slice none 0 0,.slice none 0 0,.slice none 0 0,.slice none 0 0,.int .u64 0] [.int .i64 seg,.slice a1 lw c1,.slice a2 lk c2,.slice a3 lv c3,.slice a4 lc c4,.int .u64 laid] rfl rfl rfl rfl xk rfl (by simp [Value.oneCell']) HR4.out ?_;intro w5 hs5 hx5))
 refine bodyPost_ret (results_c rfl rfl (run_loadVar_many _ Tryz.underlying29 rfl xk (bx_pb hx5))) rfl ⟨_,_,_,_,rfl,?_,?_,?_,?_,HB4.out.trans (hs5.bel _ xo),fun p q hp hq=>by have h1:=HBK2.out p hp;have h2:=(HP3.out.lt q hq).1;omega⟩
 · rw [HL1.out];exact owns_base (owns_heap HP1.out fun q hq=>hs5.other q (by have:=(HP1.out.lt q hq).1;omega)) xo
 · rw [HL2.out];exact owns_base (owns_heap HP2.out fun q hq=>hs5.other q (by have:=(HP2.out.lt q hq).1;omega)) xo
 · rw [HL3.out];exact owns_base (owns_heap HP3.out fun q hq=>hs5.other q (by have:=(HP3.out.lt q hq).1;omega)) xo
 · rw [HL4.out];exact owns_base (owns_heap HP4.out fun q hq=>hs5.other q (by have:=(HP4.out.lt q hq).1;omega)) xo
theorem Twin4_ok (c:SlC) (a:SlA) (w:World) (hin:SlIn w c a) (hl1:c.ws.length≤100000) (hl2:c.ks.length≤100000) (hl3:c.vs.length≤100000) (hl4:c.cs.length≤100000) (z1:a.wa=none→a.wc=0) (z2:a.ka=none→a.kc=0) (z3:a.va=none→a.vc=0) (z4:a.ca=none→a.cc=0):
    Calls Tryz.prog 49 #[slV c a] w (FreshSl w c):=
  (Twin4N_ok c a w hin hl1 hl2 hl3 hl4 z1 z2 z3 z4).mono fun e w' ⟨v1,v2,v3,v4,h0,h1,h2,h3,h4,h5,_⟩=>⟨v1,v2,v3,v4,h0,h1,h2,h3,h4,h5⟩
end
section
open Go.RowKit
theorem full_arith {A W P F F' D x m d:Int} (hA:0≤A) (hW:0≤W) (hP:1≤P) (hD:0≤D) (hd:1≤d) (h1:m*A≤W*P*F') (hF:F=F'+D*d) (hAD:A≤D*W) (hx:x*P≤m+P-1):x*A≤W*F:=by
 have e1:(x*P)*A≤(m+P-1)*A:=Int.mul_le_mul_of_nonneg_right hx hA;have e2:(m+P-1)*A=m*A+P*A-A:=by rw [Int.sub_mul,Int.add_mul,Int.one_mul]
 have e3:P*A≤P*(D*W):=Int.mul_le_mul_of_nonneg_left hAD xo;have e4:D*W≤D*W*d:=by
  have:=Int.mul_le_mul_of_nonneg_left hd (Int.mul_nonneg hD hW);rwa [Int.mul_one] at this
 have e5:P*(D*W)≤P*(D*W*d):=Int.mul_le_mul_of_nonneg_left e4 xo;have e6:W*P*F'+P*(D*W*d)=P*(W*F):=by
  rw [hF,Int.mul_add,Int.mul_add,Int.mul_comm W P,Int.mul_assoc,Int.mul_comm D W,Int.mul_assoc W D d]
 have e7:(x*P)*A=P*(x*A):=by rw [Int.mul_comm x P,Int.mul_assoc]
 exact Int.le_of_mul_le_mul_left (a:=P) xo xo
theorem spr_arith {A W P G G' x m:Int} (hA:0≤A) (hW:0≤W) (hP:1≤P) (h1:W*P*G'≤(m+1)*A) (hG:G≤G') (hx:m+1≤(x+1)*P):W*G≤(x+1)*A:=by
 have e1:(m+1)*A≤((x+1)*P)*A:=Int.mul_le_mul_of_nonneg_right hx hA;have e2:W*P*G≤W*P*G':=Int.mul_le_mul_of_nonneg_left hG (Int.mul_nonneg hW xo);have e3:W*P*G=P*(W*G):=by rw [Int.mul_comm W P,Int.mul_assoc]
 have e4:((x+1)*P)*A=P*((x+1)*A):=by rw [Int.mul_comm (x+1) P,Int.mul_assoc]
 exact Int.le_of_mul_le_mul_left (a:=P) xo xo
theorem wdC_add (c:Cfg) (j d:Nat):wdC c (j+d)=wdC c j*((2^d:Nat):Int):=by
 rw [wdC,wdC,Int.pow_add,Int.mul_assoc];push_cast
 rfl
theorem CapC.bal {c:Cfg} {size:Int} {a H:Nat} (k:CapC c size a H):c.den*H≤(c.lh-c.rh)*c.seg:=by
 have hm:=k.may;simp only [cfMay,Bool.and_eq_true,decide_eq_true_eq] at hm;obtain ⟨hd,hb⟩:=hm;obtain ⟨d0,d1,d2,d3,d4,d5,d6,d7,d8,d9,d10,d11,d12,d13,d14,d15,d16,d17⟩:=cfHead_num hd;obtain ⟨H',e,hb2,-⟩:=cap_nat hd k.seg (n:=c.most) xo xo;have hle:=(powB_iff.1 k.cap).2.1;have e2:htC c (taks c c.most)=H':=by
  rw [htC,e,k.seg,Int.natCast_mul,Int.mul_ediv_cancel_left _ (by have:=Nat.two_pow_pos a;omega),Int.toNat_natCast,Nat.log2_two_pow]
 have hHH:H≤H':=by
  rw [k.all,e] at hle;have h3:2^a*2^H≤2^a*2^H':=xo;exact (Nat.pow_le_pow_iff_right (a:=2) xo).1 (Nat.le_of_mul_le_mul_left h3 (Nat.two_pow_pos a))
 rw [e2] at hb;have:=Int.mul_le_mul_of_nonneg_left (show (H:Int)≤H' by omega) (show 0≤c.den by omega);omega
theorem full_share {c:Cfg} {size:Int} {a H j d m x:Nat} (k:CapC c size a H) (hj:j+d≤H) (hd:1≤d) (hf:fulB c H (j+d) m=true) (hx:x*2^d<m+2^d):fulB c H j x=true:=by
 obtain ⟨d0,d1,d2,d3,d4,d5,d6,d7,d8,d9,d10,d11,d12,d13,d14,d15,d16,d17⟩:=cfHead_num (cfMay_head k.may);unfold fulB at hf ⊢;rw [if_neg xo,decide_eq_true_eq] at hf ⊢;obtain ⟨-,w4,-,-⟩:=k.wd (h:=j) xo;have hws:c.seg≤wdC c j:=by
  have h1:(1:Int)≤2^j:=by
   have:=Nat.two_pow_pos j;have e:(2:Int)^j=((2^j:Nat):Int):=by push_cast;rfl
   rw [e];omega
  have:=Int.mul_le_mul_of_nonneg_left h1 (show 0≤c.seg by omega);rw [Int.mul_one] at this;exact this
 have hb:=k.bal;have hp:=Nat.two_pow_pos d;have hA:0≤(H:Int)*c.den:=Int.mul_nonneg xo xo;rw [Int.mul_assoc];rw [Int.mul_assoc,wdC_add] at hf;refine full_arith (P:=((2^d:Nat):Int)) (D:=c.lh-c.rh) (d:=d) (m:=m) hA xo xo xo xo hf ?_ ?_ ?_
 · have e:((j+d:Nat):Int)=(j:Int)+d:=by push_cast;rfl
   rw [e];have e1:c.lh*((H:Int)-(j+d))=c.lh*((H:Int)-j)-c.lh*d:=by rw [←Int.mul_sub];congr 1;omega
   have e2:c.rh*((j:Int)+d)=c.rh*j+c.rh*d:=Int.mul_add ..;have e3:(c.lh-c.rh)*(d:Int)=c.lh*d-c.rh*d:=Int.sub_mul ..;omega
 · have h5:(c.lh-c.rh)*c.seg≤(c.lh-c.rh)*wdC c j:=Int.mul_le_mul_of_nonneg_left hws xo;rw [Int.mul_comm (H:Int)];omega
 · have e:((x*2^d:Nat):Int)=(x:Int)*((2^d:Nat):Int):=by push_cast;rfl
   omega
def sprN (c:Cfg) (H h:Nat) (n:Int):Prop:=wdC c h*(c.ll*((H:Int)-h)+c.rl*h)≤(n+1)*H*c.den
theorem sprB_or {c:Cfg} {size:Int} {H h:Nat} {n:Int}:sprB c size H h n=true↔size=c.least∨sprN c H h n:=by
 unfold sprB sprN;rw [Bool.or_eq_true,decide_eq_true_eq,decide_eq_true_eq]
theorem spr_share {c:Cfg} {size:Int} {a H j d m x:Nat} (k:CapC c size a H) (hj:j+d≤H) (hf:sprN c H (j+d) m) (hx:m<(x+1)*2^d):sprN c H j x:=by
 obtain ⟨d0,d1,d2,d3,d4,d5,d6,d7,d8,d9,d10,d11,d12,d13,d14,d15,d16,d17⟩:=cfHead_num (cfMay_head k.may);obtain ⟨-,w4,-,-⟩:=k.wd (h:=j) xo;unfold sprN at hf ⊢;have hp:=Nat.two_pow_pos d;have hA:0≤(H:Int)*c.den:=Int.mul_nonneg xo xo;rw [Int.mul_assoc];rw [wdC_add,Int.mul_assoc (_+1)] at hf;refine spr_arith (P:=((2^d:Nat):Int)) (m:=m) hA xo xo hf ?_ ?_
 · have e:((j+d:Nat):Int)=(j:Int)+d:=by push_cast;rfl
   rw [e];have e1:c.ll*((H:Int)-(j+d))=c.ll*((H:Int)-j)-c.ll*d:=by rw [←Int.mul_sub];congr 1;omega
   have e2:c.rl*((j:Int)+d)=c.rl*j+c.rl*d:=Int.mul_add ..;have e3:c.ll*(d:Int)≤c.rl*d:=Int.mul_le_mul_of_nonneg_right xo xo;omega
 · have e:(((x+1)*2^d:Nat):Int)=((x:Int)+1)*((2^d:Nat):Int):=by push_cast;rfl
   omega
def okW (c:Cfg) (n:Int) (H h:Nat) (x:Int):Prop:=fulB c H h x=true∧sprB c n H h x=true
def cntH (ws:List Int) (a h i:Nat):Nat:=cntW ws (i*2^(a+h)) ((i+1)*2^(a+h))
def denW (c:Cfg) (n:Int) (a H:Nat) (ws:List Int):Prop:=∀h,h≤H→∀i,i<2^(H-h)→okW c n H h (cntH ws a h i)
theorem seg_pow (a h i:Nat):i*2^(a+h)=i*2^h*2^a:=by rw [Nat.pow_add,Nat.mul_comm (2^a),Nat.mul_assoc]
theorem denB_iff {c:Cfg} {s:SlC} {a H lw n:Nat} (g:SlGd s (2^a) lw n (2^H)):denB c s H=true↔denW c s.ks.length a H s.ws:=by
 have e:∀h,h≤H→∀i,i<2^(H-h)→sumC s.cs (i*2^h) ((i+1)*2^h)=(cntH s.ws a h i:Int):=by
  intro h hh i hi;have hb:(i+1)*2^h≤2^H:=by
   have:(i+1)*2^h≤2^(H-h)*2^h:=Nat.mul_le_mul_right _ hi;rwa [←Nat.pow_add,Nat.sub_add_cancel hh] at this
  rw [sumC_cnt2 g (Nat.mul_le_mul_right _ xo) hb,cntH,seg_pow,seg_pow]
 have ed:∀h,h≤H→s.cs.length/2^h=2^(H-h):=by
  intro h hh;rw [g.elc,Nat.pow_div hh xo]
 unfold denB denW rowB winB okW;simp only [List.all_eq_true,List.mem_range,Bool.and_eq_true];constructor
 · intro q h hh i hi;have:=q h xo i (by rw [ed h hh];exact hi);rwa [e h hh i hi] at this
 · intro q h hh i hi;have hh':h≤H:=xo;rw [ed h hh'] at hi;rw [e h hh' i hi];exact q h hh' i hi
theorem ok_share {c:Cfg} {size:Int} {a H j h m x:Nat} (k:CapC c size a H) (hjh:j<h) (hh:h≤H) (ok:okW c size H h (m:Int)) (h1:x*2^(h-j)<m+2^(h-j)) (h2:m<(x+1)*2^(h-j)):okW c size H j (x:Int):=by
 have e:j+(h-j)=h:=xo;obtain ⟨o1,o2⟩:=ok;rw [←e] at o1 o2;refine ⟨full_share k xo xo o1 h1,?_⟩;rw [sprB_or] at o2 ⊢;rcases o2 with o2|o2
 · exact .inl o2
 · exact .inr (spr_share k xo o2 h2)
theorem gapN_mk {c:Cfg} {z:SlC} {a H n:Nat} (k:CapC c n a H) (g:SlGd z (2^a) ((n+63)/64) n (2^H)):GapN c z a H:=by
 have hm:=gd_may g (pwB_two a) (pwB_two H) rfl;have hn:n=2^a*2^H:=by have:=k.all;omega
 have hm':=hm;simp only [slMay,Bool.and_eq_true] at hm';exact ⟨by rw [g.elk];exact k,g.seg,by rw [g.elk,hn],by rw [g.elv,hn],g.elc,cntB_bd g.seg hm'.2,hm⟩
theorem gapE_den {c:Cfg} {z:SlC} {a H n:Nat} (k:CapC c n a H) (g:SlGd z (2^a) ((n+63)/64) n (2^H)) (hmany:(cntW z.ws 0 n:Int)≤c.most) (hd:denW c n a H z.ws):gapE c z=0:=by
 have kn:=gapN_mk k g;have hs:sumC z.cs 0 z.cs.length=(cntW z.ws 0 n:Int):=by
  have:=sum_many kn g.u;rwa [manyC,g.elk] at this
 rw [gapE_may kn (by rw [g.seg,k.seg]) (by rw [hs];exact hmany),if_pos];rw [denB_iff g,g.elk];exact hd
theorem CapC.wtop {c:Cfg} {size:Int} {a H:Nat} (k:CapC c size a H):wdC c H=size:=by rw [wdC,k.seg,k.all];push_cast;rfl
theorem ful_top {c:Cfg} {size:Int} {a H:Nat} (k:CapC c size a H) {m:Int} (h:m*c.den≤c.rh*size):fulB c H H m=true:=by
 unfold fulB;rw [k.wtop];split
 · rw [decide_eq_true_eq,Int.mul_comm size];exact h
 · rw [decide_eq_true_eq,Int.sub_self,Int.mul_zero,Int.zero_add,Int.mul_right_comm,←Int.mul_assoc,Int.mul_comm size];exact Int.mul_le_mul_of_nonneg_right h xo
theorem spr_top {c:Cfg} {size:Int} {a H:Nat} (k:CapC c size a H) {m:Int} (h:size=c.least∨size*c.rl≤(m+1)*c.den):sprB c size H H m=true:=by
 rw [sprB_or];rcases h with h|h
 · exact .inl h
 · right;unfold sprN;rw [k.wtop,Int.sub_self,Int.mul_zero,Int.zero_add,Int.mul_right_comm,←Int.mul_assoc];exact Int.mul_le_mul_of_nonneg_right h xo
theorem takF_min (c:Cfg) (n:Int):∀(k:Nat) (size:Int),0≤size→takF c n k size=size∨∃t,takF c n k size=2*t∧0≤t∧c.rh*t<n*c.den
  | 0,size,_=> .inl rfl
  | k+1,size,h0=>by
   rw [takF];split
   · rename_i h
     rcases takF_min c n k (2*size) xo with e | ⟨t,e,h1,h2⟩
     · exact .inr ⟨size,e,h0,h⟩
     · exact .inr ⟨t,e,h1,h2⟩
   · exact .inl rfl
theorem takF_mono {c:Cfg} {n m:Int} (hd:0≤c.den) (hnm:n≤m):∀(k:Nat) (size:Int),0≤size→takF c n k size≤takF c m k size
  | 0,size,_=>Int.le_refl _
  | k+1,size,h0=>by
   have h1:=Int.mul_le_mul_of_nonneg_right hnm hd;have hb:=(takF_bd (c:=c) (n:=m) (k+1) size h0).1;rw [takF];split
   · rename_i h
     rw [takF,if_pos xo];exact takF_mono hd hnm k (2*size) xo
   · exact hb
theorem cap_taks {c:Cfg} {a:Nat} (hm:cfMay c=true) (hs:c.seg=((2^a:Nat):Int)) {n:Nat} (hn:(n:Int)≤c.most):∃H,CapC c (taks c n) a H∧okW c (taks c n) H H n∧(n:Int)≤taks c n:=by
 have hd:=cfMay_head hm;obtain ⟨d0,d1,d2,d3,d4,d5,d6,d7,d8,d9,d10,d11,d12,d13,d14,d15,d16,d17⟩:=cfHead_num hd;obtain ⟨H',e,hb,hle⟩:=cap_nat hd hs (n:=(n:Int)) xo xo;have tb:=taks_bd hd (n:=(n:Int)) xo xo;have hp:powB (taks c n) c.least (taks c c.most)=true:=by
  refine powB_iff.2 ⟨tb.2.2,takF_mono xo hn 20 c.least xo,?_⟩;rw [e,←Nat.pow_add];exact pwB_two _
 obtain ⟨a',H,k⟩:=capC_of hm hp;have haa:a'=a:=by
  have h1:=k.seg;rw [hs] at h1;have h2:2^a=2^a':=xo;exact Nat.le_antisymm ((Nat.pow_le_pow_iff_right (a:=2) xo).1 xo) ((Nat.pow_le_pow_iff_right (a:=2) xo).1 xo)
 subst haa;refine ⟨H,k,⟨ful_top k ?_,spr_top k ?_⟩,hle⟩
 · exact takF_takes (c:=c) (n:=(n:Int)) xo 20 c.least xo (tak_start xo xo xo d8 d9).1
 · rcases takF_min c n 20 c.least xo with q | ⟨t,q,h1,h2⟩
   · exact .inl q
   · right;have e1:taks c n=2*t:=q;rw [e1];have h3:4*c.rl≤c.rh:=xo;have h4:=Int.mul_le_mul_of_nonneg_right h3 h1;have h5:2*t*c.rl≤4*c.rl*t:=by
      have:0≤c.rl*t:=Int.mul_nonneg xo h1;have e2:2*t*c.rl=2*(c.rl*t):=by rw [Int.mul_assoc,Int.mul_comm t]
      have e3:4*c.rl*t=4*(c.rl*t):=Int.mul_assoc ..;omega
     have h6:(n:Int)*c.den≤((n:Int)+1)*c.den:=Int.mul_le_mul_of_nonneg_right xo xo;omega
end
section
open Go.RowKit Go.Shelf
attribute [local go_sem] Oper.semAt_some
def winsL (a at_ N:Nat):List (Int×Int):=(List.range N).map fun h=>(((wnd a h at_*2^(a+h):Nat):Int),((wnd a h at_*2^(a+h):Nat):Int)+((2^(a+h):Nat):Int))
structure PathI (a at_ H B:Nat) (w:World) (k:Nat) (W:World):Prop where
 le:k≤H
 own:∃v,W.cell? ⟨B,0,none⟩=some v∧W.ownsRow (B+5) 156 2 v k ((prI (winsL a at_ k)).map (Value.int .i64))
 fz:W.frozen? ⟨B,0,none⟩=false
 hh:W.cell? ⟨B+2,0,none⟩=some (.int .i64 H)
 sz:B+5≤W.heap.size
 bel:Below B w W
theorem PathI.calm {a at_ H B M:Nat} {w:World} {k:Nat} {W W':World} (h:PathI a at_ H B w k W) (hc:Calm M W W') (hB:B≤M):PathI a at_ H B w k W':=by
 obtain ⟨h0,⟨v,h1,h2⟩,h3,h5,h6,h4⟩:=h;exact ⟨h0,⟨v,hc.cell h1,hc.owns h2⟩,hc.frozen h1 h3,hc.cell h5,Nat.le_trans h6 hc.size,hc.below hB h4⟩
structure PathX (a at_ H B:Nat) (w:World) (c:Code) (W:World):Prop where
 code:c= .exit 0
 own:∃v,W.cell? ⟨B,0,none⟩=some v∧W.ownsRow (B+5) 156 2 v (H+1) ((prI (winsL a at_ (H+1))).map (Value.int .i64))
 fz:W.frozen? ⟨B,0,none⟩=false
 bel:Below B w W
theorem PathX.calm {a at_ H B M:Nat} {w:World} {c:Code} {W W':World} (h:PathX a at_ H B w c W) (hc:Calm M W W') (hB:B≤M):PathX a at_ H B w c W':=by
 obtain ⟨h0,⟨v,h1,h2⟩,h3,h4⟩:=h;exact ⟨h0,⟨v,hc.cell h1,hc.owns h2⟩,hc.frozen h1 h3,hc.below hB h4⟩
structure NthI (ws:List Int) (n t b0 b1 B:Nat) (w:World) (k:Nat) (W:World):Prop where
 le:nthB ws n k≤t
 bx:W.cell? ⟨B,0,none⟩=some (.int .i64 ((t-nthB ws n k:Nat):Int))
 fz:W.frozen? ⟨B,0,none⟩=false
 box0:W.cell? ⟨b0,0,none⟩=some (.int .i64 0)
 box1:W.cell? ⟨b1,0,none⟩=some (.int .i64 0)
 fz0:W.frozen? ⟨b0,0,none⟩=false
 fz1:W.frozen? ⟨b1,0,none⟩=false
 bel:Below B w W
theorem NthI.calm {ws:List Int} {n t b0 b1 B M:Nat} {w:World} {k:Nat} {W W':World} (h:NthI ws n t b0 b1 B w k W) (hc:Calm M W W') (hB:B≤M):NthI ws n t b0 b1 B w k W':=
  ⟨h.le,hc.cell h.bx,hc.frozen h.bx h.fz,hc.cell h.box0,hc.cell h.box1,hc.frozen h.box0 h.fz0,hc.frozen h.box1 h.fz1,hc.below hB h.bel⟩
structure NthX (ws:List Int) (n t b0 b1 B:Nat) (w:World) (c:Code) (W:World):Prop where
 code:c= .ret
 lt:t<(plsW ws 0 n).length
 hit:W.cell? ⟨b0,0,none⟩=some (.int .i64 ((plsW ws 0 n).getD t 0:Nat))
 box1:W.cell? ⟨b1,0,none⟩=some (.int .i64 0)
 bel:Below B w W
theorem NthX.calm {ws:List Int} {n t b0 b1 B M:Nat} {w:World} {c:Code} {W W':World} (h:NthX ws n t b0 b1 B w c W) (hc:Calm M W W') (hB:B≤M):NthX ws n t b0 b1 B w c W':=
  ⟨h.code,h.lt,hc.cell h.hit,hc.cell h.box1,hc.below hB h.bel⟩
end
section
open Go.RowKit Go.Shelf Go.Sort
end
section
open Go.RowKit
section
variable {P:Program}
end
section
variable {P:Program} {ops:Array Oper} {Q:Exit→Act→World→Prop}
def OpsOkE (P:Program) (ops:Array Oper) (Q:Exit→Act→World→Prop) (D:List Nat) (t0:Array Value) (n:Nat) (ds:List Deferred) (J:World→Prop) (Ext:Nat→World→World→Prop) (G:Nat→(Nat→Value)→World→Prop):Nat→List Oper→Prop
  | _,[]=>True
  | k,o::rest=>OpOkR P ops Q D t0 n ds J (Ext k) G k o∧OpsOkE P ops Q D t0 n ds J Ext G (k+1) rest
theorem OpsOkE.at {D:List Nat} {t0:Array Value} {n:Nat} {ds:List Deferred} {J:World→Prop} {Ext:Nat→World→World→Prop} {G:Nat→(Nat→Value)→World→Prop}:∀ {l:List Oper} {k:Nat},OpsOkE P ops Q D t0 n ds J Ext G k l→∀ {i:Nat} {o:Oper},l[i]? =some o→OpOkR P ops Q D t0 n ds J (Ext (k+i)) G (k+i) o
  | [],_,_,i,o,ho=>by simp at ho
  | x::rest,k,h,0,o,ho=>by simp at ho;subst ho;exact h.1
  | x::rest,k,h,i+1,o,ho=>by
   have:=OpsOkE.at h.2 (i:=i) (o:=o) (by simpa using ho);rwa [Nat.add_assoc,Nat.add_comm 1 i] at this
theorem wp_region_eff {id:Nat} {l:List Oper} {t0:Array Value} {ds:List Deferred} {w0:World} {N:Nat} (n:Nat) (hm:P.follows .mixedOrders=true) (hn:t0.size=N) (hB:regionL (l.take n) N=true) (hT:tailL l n=true) (hle:n≤l.length)
    (J:World→Prop) (Ext:Nat→World→World→Prop) (G:Nat→(Nat→Value)→World→Prop) (hst:∀i k x w w',k≠i→Ext i w w'→G k x w→G k x w') (hdep:∀(k:Nat) (u u':Nat→Value) (w:World),(∀(j:Nat) (p o:Oper),l[j]? =some p→l[k]? =some o→(j=k∨(o.after.any fun e=>Region.binds .any e&&e.on==j)=true)→valOf u' p=valOf u p)→G k u w→G k u' w) (hJ:J w0.drew)
    (hop:OpsOkE P l.toArray Q (dstsOf (l.take n)) t0 N ds J Ext G 0 (l.take n))
    (hdone:∀(u:Nat→Value) (w:World),J w→(∀(k:Nat) (o:Oper),(l.take n)[k]? =some o→G k u w)→wpList P l.toArray Q (l.drop n) {tmps:=mixFrame (dstsOf (l.take n)) u t0,defers:=ds} w):
    (Code.region id l.toArray true).wp P Q {tmps:=t0,defers:=ds} w0:=by
 subst hn;simp only [regionL,Bool.and_eq_true,List.all_eq_true,decide_eq_true_eq] at hB;obtain ⟨⟨⟨hnd,hlt⟩,hgd⟩,hac⟩:=hB;simp only [tailL,List.all_eq_true,List.mem_range,Bool.or_eq_true,decide_eq_true_eq] at hT;have htk:∀ {k:Nat} {o:Oper},(l.take n)[k]? =some o↔k<n∧l[k]? =some o:=by
  intro k o;rw [List.getElem?_take];by_cases h:k<n
  · rw [if_pos h];exact ⟨fun h1=>⟨h,h1⟩,fun h1=>h1.2⟩
  · rw [if_neg h];exact ⟨fun h1=>(by cases h1),fun h1=>absurd h1.1 h⟩
 refine wp_region_any hm (wpAny_invL (ops:=l.toArray)
   (fun L a w=>((∀i,n≤i→L.getD i false=false)∧∃u:Nat→Value,a= {tmps:=mixFrame (dstsOf (l.take n)) u t0,defers:=ds}∧J w∧∀(k:Nat) (o:Oper),(l.take n)[k]? =some o→L.getD k false=true→G k u w) ∨
     (∃m,n≤m∧m≤l.length∧(∀i,i<m→L.getD i false=true)∧(∀i,m≤i→L.getD i false=false)∧wpList P l.toArray Q (l.drop m) a w))
   ?_ ?_ ?_ _ _ _ _ xsi (leftOf_le _ _) (fun j p hp hj=>by simp [Array.getD] at hj) (.inl ⟨fun i _=>by rw [List.size_toArray];simp [Array.getD],fun t=>t0.getD t undef,by rw [mixFrame_start],hJ,fun k o _ h=> ?_⟩))
 · intro i o ho e he hb;have hi:i<l.length:=(Array.getElem?_eq_some_iff.1 ho).1;rw [List.getElem?_toArray] at ho;by_cases hin:i<n
   · have h1:(l.take n)[i]? =some o:=htk.2 ⟨hin,ho⟩;have:=hac i (List.mem_range.2 (List.getElem?_eq_some_iff.1 h1).1);rw [h1] at this;have h2:=Array.all_eq_true_iff_forall_mem.1 this e he;rw [hb] at h2;simpa using h2
   · have h1:=hT i hi;rcases h1 with h1|h1
     · omega
     · rw [ho] at h1;simp only [Bool.and_eq_true] at h1;have h2:=Array.all_eq_true_iff_forall_mem.1 h1.2 e he;rw [hb] at h2;simpa using h2
 · rintro L a w i o hs ho hi hall hcl hI;rw [List.getElem?_toArray] at ho;have hil:i<l.length:=(List.getElem?_eq_some_iff.1 ho).1;have hilt:i<L.size:=by rw [hs];simpa using hil
   have ahead:n≤i→∀j,j<i→L.getD j false=true:=by
    intro hin j hj;have h1:=hT i hil;rcases h1 with h1|h1
    · omega
    · simp only [Bool.and_eq_true,decide_eq_true_eq] at h1;have hbit:((masksOf l []).getD i 0).testBit j=true:=by
       have h2:=congrArg (fun m=>Nat.testBit m j) h1.1;simp only [Nat.testBit_mod_two_pow,Nat.testBit_two_pow_sub_one,decide_eq_true hj,Bool.true_and] at h2;exact h2
      exact masks_sound hcl l [] 0 rfl (fun j=>by rw [Nat.zero_add]) (fun i hi=>by omega) i o ho hall j hbit
   have later:∀(m:Nat),n≤m→m=i→(∀j,m≤j→L.getD j false=false)→(∀j,j<m→L.getD j false=true)→wpList P l.toArray Q (l.drop m) a w→
       wpOp P l.toArray Q i (fun a' w'=>((∀k,n≤k→(L.setIfInBounds i true).getD k false=false)∧∃u:Nat→Value,a'= {tmps:=mixFrame (dstsOf (l.take n)) u t0,defers:=ds}∧J w'∧∀(k:Nat) (o:Oper),(l.take n)[k]? =some o→(L.setIfInBounds i true).getD k false=true→G k u w') ∨
         (∃m,n≤m∧m≤l.length∧(∀k,k<m→(L.setIfInBounds i true).getD k false=true)∧(∀k,m≤k→(L.setIfInBounds i true).getD k false=false)∧wpList P l.toArray Q (l.drop m) a' w')) a w:=by
    rintro m hnm rfl hno hyes hw;refine wpOp_mono (fun a' w' h=> .inr ⟨m+1,by omega,by omega,fun k hk=> ?_,fun k hk=> ?_,h⟩) (wpOp_of_list ho hw)
    · by_cases e:k=m
      · subst e;exact set_same hilt
      · rw [set_else e];exact hyes k xo
    · rw [set_else xo];exact hno k xo
   rcases hI with ⟨hno,u,rfl,hJw,hG⟩ | ⟨m,hnm,hml,hyes,hno,hw⟩
   · by_cases hin:i<n
     · have htki:(l.take n)[i]? =some o:=htk.2 ⟨hin,ho⟩;have hok:=hop.at htki;rw [Nat.zero_add] at hok;have hg:o.guard=none:=by
        have:=hgd o (List.mem_of_getElem? htki);cases hx:o.guard with
        | none=>rfl
        | some x=>rw [hx] at this;cases this
       unfold wpOp;simp only [List.getElem?_toArray,ho];rw [if_pos (by simp [Region.wanted,hg])];left;refine hok u _ w (fun t ht=>mixFrame_get ht) hJw (fun j p hj hp=> ?_) _ (fun v w' hv hJ' hG' hE=> .inl ⟨fun k hk=>by rw [set_else xo];exact hno k hk,?_⟩)
       · rw [List.getElem?_toArray] at hp;obtain ⟨e,he,hbe⟩:=Array.any_eq_true.1 hj;simp only [Bool.and_eq_true,beq_iff_eq] at hbe;have hl:=hall _ (Array.getElem_mem he) hbe.1;rw [hbe.2] at hl;have hjn:j<n:=by
          by_cases h:j<n
          · exact h
          · rw [hno j xo] at hl;cases hl
         exact hG j p (htk.2 ⟨hjn,hp⟩) hl
       · cases hd:o.dst with
         | none=>
          refine ⟨u,rfl,hJ',fun k p hp hk=> ?_⟩;by_cases e:k=i
          · subst e;have:=hG';unfold updR at this;rw [hd] at this;exact this
          · rw [set_else e] at hk;exact hst _ _ _ _ _ e hE (hG k p hp hk)
         | some d=>
          have hdm:(dstsOf (l.take n)).contains d=true:=by
           simp only [List.contains_iff_mem];exact List.mem_filterMap.2 ⟨o,List.mem_of_getElem? htki,hd⟩
          refine ⟨fun t=>if t=d then v else u t,by simp only [Act.put,mixFrame_put hdm],hJ',fun k p hp hk=> ?_⟩;by_cases e:k=i
          · subst e;have:=hG';unfold updR at this;rw [hd] at this;exact this
          · rw [set_else e] at hk;refine hst _ _ _ _ _ e hE (hdep k u _ w (fun j p' o' hj ho' hor=> ?_) (hG k p hp hk));have hjl:L.getD j false=true:=by
             rcases hor with rfl|hor
             · exact hk
             · obtain ⟨e',he',hbe⟩:=Array.any_eq_true.1 hor;simp only [Bool.and_eq_true,beq_iff_eq] at hbe;have:=hcl k o' (by rw [List.getElem?_toArray];exact ho') hk _ (Array.getElem_mem he') hbe.1;rw [hbe.2] at this;exact this
            have hji:j≠i:=fun h=>by rw [h,hi] at hjl;cases hjl
            have hjn:j<n:=by
             by_cases h:j<n
             · exact h
             · rw [hno j xo] at hjl;cases hjl
            have hne:=nodup_slot hnd htki (htk.2 ⟨hjn,hj⟩) (fun h=>hji h.symm) hd;unfold valOf;cases hpd:p'.dst with
            | none=>rfl
            | some d'=>exact if_neg (fun h=>hne (by rw [hpd,h]))
     · have hin':n=i:=by
         by_cases e:n=i
         · exact e
         · have:=ahead xo n xo;rw [hno n (Nat.le_refl _)] at this;cases this
       refine later n (Nat.le_refl _) hin' hno (fun j hj=>ahead xo j xo) (hdone u w hJw fun k p hp=>hG k p hp (ahead xo k ?_));have:=(htk.1 hp).1;omega
   · have him:m≤i:=by
       by_cases h:m≤i
       · exact h
       · have:=hyes i xo;rw [hi] at this;cases this
     have hmi:m=i:=by
      by_cases e:m=i
      · exact e
      · have:=ahead xo m xo;rw [hno m (Nat.le_refl _)] at this;cases this
     exact later m hnm hmi hno hyes hw
 · rintro L a w hs hall hI;rw [List.size_toArray] at hall;rcases hI with ⟨hno,u,rfl,hJw,hG⟩ | ⟨m,hnm,hml,hyes,hno,hw⟩
   · have hnl:n=l.length:=by
       by_cases e:n=l.length
       · exact e
       · have:=hall n xo;rw [hno n (Nat.le_refl _)] at this;cases this
     have hq:=hdone u w hJw fun k p hp=>hG k p hp (hall k (by have:=(htk.1 hp).1;omega))
     have hd:l.drop n=[]:=by rw [hnl];exact List.drop_length
     rw [hd] at hq;exact hq
   · have hml':m=l.length:=by
       by_cases e:m=l.length
       · exact e
       · have:=hall m xo;rw [hno m (Nat.le_refl _)] at this;cases this
     rw [hml',List.drop_length] at hw;exact hw
 · rw [List.size_toArray] at h;simp [Array.getD] at h
end
section
variable {P:Program}
end
theorem setCs_frozen {W:World} {b:Nat}:∀(l:List Value) (i:Nat) (a:Addr),(setCs W b i l).frozen? a=W.frozen? a
  | l,i,a=>by
   induction l generalizing W i with
   | nil=>rfl
   | cons v l ih=>rw [setCs,ih];exact World.frozen?_setCell _ _ _ _
theorem setCs_size:∀(l:List Value) (W:World) (b i:Nat),(setCs W b i l).heap.size=W.heap.size
  | [],_,_,_=>rfl
  | v::l,W,b,i=>by rw [setCs,setCs_size l,World.size_setCell]
section
variable {P:Program}
end
end
section
open Go.RowKit Go.Shelf
structure AtZ (a:Option Addr) (m pl:Nat):Prop where
 off:∀x,a=some x→x.off=0∧x.spot=none
 no:a=none→m=0∧pl=0
 le:m≤pl
theorem AtZ.cases {a:Option Addr} {m pl:Nat} (h:AtZ a m pl):(a=none∧m=0∧pl=0)∨∃g,a=some ⟨g,0,none⟩:=by
 cases a with
 | none=>exact .inl ⟨rfl,(h.no rfl).1,(h.no rfl).2⟩
 | some x=>
  obtain ⟨h1,h2⟩:=h.off x rfl;obtain ⟨b,o,s⟩:=x;dsimp only at h1 h2;subst h1 h2;exact .inr ⟨b,rfl⟩
end
section
open Go.RowKit Go.Shelf Go.Sort
attribute [local go_sem] Oper.semAt_some
end
section
open Go.RowKit
theorem GapN.win {c:Cfg} {s:SlC} {a H:Nat} (k:GapN c s a H) (hs:s.seg=c.seg):WinC s.seg s.ks.length a H:=⟨k.seg,k.cap.all,k.cap.a2,k.cap.a6,k.cap.big⟩
end
section
open Go.RowKit Go.Shelf Go.Sort
end
section
open Go.RowKit Go.Shelf Go.Sort
attribute [local go_sem] Oper.semAt_some
end
section
open Go.RowKit Go.Shelf
attribute [local go_sem] Oper.semAt_some
structure AtI (Z b4 b5 B:Nat) (w:World) (k:Nat) (W:World):Prop where
 zero:k=0
 c0:W.cell? ⟨b4,0,none⟩=some (.int .i64 0)
 c1:W.cell? ⟨b4,1,none⟩=some (.int .i64 0)
 e0:W.cell? ⟨b5,0,none⟩=some (.int .i64 0)
 f0:W.frozen? ⟨b4,0,none⟩=false
 f1:W.frozen? ⟨b4,1,none⟩=false
 g0:W.frozen? ⟨b5,0,none⟩=false
 bel:Below B w W
 big:Z≤W.heap.size
theorem AtI.calm {Z b4 b5 B M:Nat} {w:World} {k:Nat} {W W':World} (h:AtI Z b4 b5 B w k W) (hc:Calm M W W') (hB:B≤M):AtI Z b4 b5 B w k W':=
  ⟨h.zero,hc.cell h.c0,hc.cell h.c1,hc.cell h.e0,hc.frozen h.c0 h.f0,hc.frozen h.c1 h.f1,hc.frozen h.e0 h.g0,hc.below hB h.bel,Nat.le_trans h.big hc.size⟩
structure AtX (x y:Int) (m b4 b5 B:Nat) (w:World) (c:Code) (W:World):Prop where
 code:c= .ret
 hit:m≠0
 c0:W.cell? ⟨b4,0,none⟩=some (.int .i64 x)
 c1:W.cell? ⟨b4,1,none⟩=some (.int .i64 y)
 e0:W.cell? ⟨b5,0,none⟩=some (.int .i64 0)
 bel:Below B w W
theorem AtX.calm {x y:Int} {m b4 b5 B M:Nat} {w:World} {c:Code} {W W':World} (h:AtX x y m b4 b5 B w c W) (hc:Calm M W W') (hB:B≤M):AtX x y m b4 b5 B w c W':=
  ⟨h.code,h.hit,hc.cell h.c0,hc.cell h.c1,hc.cell h.e0,hc.below hB h.bel⟩
end
section
open Go.RowKit
theorem take_zero {c:Cfg} {s:SlC} {k:Int} (h:takE c s k=0):gapE c s=0∧0≤k∧k<manyC s:=by
 unfold takE at h;by_cases h0:gapE c s=0
 · rw [if_pos h0] at h;by_cases h1:k<0∨(manyC s:Int)≤k
   · rw [if_pos h1] at h;omega
   · exact ⟨h0,by omega,by omega⟩
 · rw [if_neg h0] at h;exact absurd h h0
theorem gd_nums {d:SlC} {S n lc:Nat} (g:SlGd d S ((n+63)/64) n lc):d.ws.length≤1000000∧d.ks.length≤1000000∧d.vs.length≤1000000∧d.cs.length≤1000000∧U64s d.ws:=by
 have h1:=g.elw;have h2:=g.elk;have h3:=g.elv;have h4:=g.elc;have h5:=g.cn;have h6:=g.s4;have h7:=g.nm;have h9:1*lc≤S*lc:=Nat.mul_le_mul_right _ xo;exact ⟨by omega,by omega,by omega,by omega,g.u⟩
theorem nil_nums:nilC.ws.length≤1000000∧nilC.ks.length≤1000000∧nilC.vs.length≤1000000∧nilC.cs.length≤1000000∧U64s nilC.ws:=
  ⟨Nat.zero_le _,Nat.zero_le _,Nat.zero_le _,Nat.zero_le _,fun x hx=>by cases hx⟩
theorem new_nums9 (c:Cfg):(newC c).ws.length≤1000000∧(newC c).ks.length≤1000000∧(newC c).vs.length≤1000000∧(newC c).cs.length≤1000000∧U64s (newC c).ws:=by
 unfold newC;split
 · rename_i h
   obtain ⟨S,M,h1,h2,h4,h6,hM,hm,-,-⟩:=least_nums h;rw [emptyC_eq h1 h2 h4];exact gd_nums (emptyL_gd h4 h6 hM hm 0)
 · exact nil_nums
theorem ris_B {l:List (Int×Int)} (h:Ris l):risB l=true:=by
 rw [risB,List.all_eq_true];intro i hi;rw [List.mem_range] at hi;rw [risAt];rcases Nat.eq_zero_or_pos i with rfl|h0
 · simp
 · have:=List.pairwise_iff_getElem.1 h (i-1) i xo hi xo;simp [List.getD_eq_getElem?_getD,List.getElem?_eq_getElem hi,List.getElem?_eq_getElem (show i-1<l.length by omega),this]
theorem pmE_mk {c:Cfg} {d:SlC} (h:gapE c d=0) (hr:Ris (prs d 0 d.ks.length)):pmE c d=0:=by
 obtain ⟨hc,a,H,kn,hs,hmost,hden⟩:=gap_zero h;rw [pmE,if_pos h,seekE,if_pos kn.may,if_pos (ris_B hr)]
end
section
open Go.RowKit Go.Shelf Go.Sort
def ansB (x:Int×Int) (e v:Int):Bool:=if x.2=e then x.1==v else false
theorem ansB_yes {x:Int×Int} {e v:Int} (h:x=(v,e)):ansB x e v=true:=by
 rw [h,ansB,if_pos rfl];simp
end
section
open Go.RowKit
theorem taks_zero {c:Cfg} (h:cfMay c=true):taks c ((0:Nat):Int)=c.least:=by
 obtain ⟨d0,d1,d2,d3,d4,d5,d6,d7,d8,d9,d10,d11,d12,d13,d14,d15,d16,d17⟩:=cfHead_num (cfMay_head h);have hp:0≤c.rh*c.least:=Int.mul_nonneg xo xo;show (if c.rh*c.least<((0:Nat):Int)*c.den then takF c ((0:Nat):Int) 19 (2*c.least) else c.least)=c.least;rw [if_neg];have:((0:Nat):Int)*c.den=0:=by simp
 omega
theorem zer_bit (n i:Nat):bitW (List.replicate n 0) i=false:=by
 have:(List.replicate n (0:Int)).getD (i/64) 0=0:=by
  rw [List.getD_eq_getElem?_getD,List.getElem?_replicate];split<;>rfl
 rw [bitW,this];exact bitI_zero _
theorem cnt_zero (n a b:Nat):cntW (List.replicate n 0) a b=0:=by
 unfold cntW;rw [List.countP_eq_zero];intro i _;rw [zer_bit];decide
theorem new_may {c:Cfg} (h:cfMay c=true):pmE c (newC c)=0∧(prs (newC c) 0 (newC c).ks.length).length=0:=by
 have hd:=cfMay_head h;have f:=cfHead_facts hd;obtain ⟨s1,s2,a,ea⟩:=powB_nat f.2.2.2.2.1;have dn:=cfHead_num hd;obtain ⟨H,k,ok,-⟩:=cap_taks (a:=a) h (by rw [ea]) (n:=0) xo;rw [taks_zero h] at k ok;have hH:=Nat.two_pow_pos H;have h4:4≤2^a:=Nat.pow_le_pow_right (n:=2) xo k.a2;have h6:2^a≤64:=Nat.pow_le_pow_right (n:=2) xo k.a6;have g:=emptyL_gd h4 h6 hH k.big 0;have e:newC c=emptyL (2^a) (2^H) 0:=by rw [newC,if_pos h,emptyC_eq k.seg k.all h4]
 have hcl:=k.all;rw [hcl] at k ok;have hp:(prs (emptyL (2^a) (2^H) 0) 0 (emptyL (2^a) (2^H) 0).ks.length).length=0:=by rw [prs_length];exact cnt_zero _ _ _
 rw [e];refine ⟨pmE_mk (gapE_den k g ?_ fun j hj i hi=> ?_) ?_,hp⟩
 · have:cntW (emptyL (2^a) (2^H) 0).ws 0 (2^a*2^H)=0:=cnt_zero _ _ _;omega
 · have e0:(cntH (emptyL (2^a) (2^H) 0).ws a j i:Int)=((0:Nat):Int):=by
     have:cntH (emptyL (2^a) (2^H) 0).ws a j i=0:=cnt_zero _ _ _;rw [this]
   rw [e0];rcases Nat.eq_or_lt_of_le hj with q|q
   · rw [q];exact ok
   · exact ok_share k q (Nat.le_refl H) ok (by have:=Nat.two_pow_pos (H-j);omega) (by have:=Nat.two_pow_pos (H-j);omega)
 · rw [List.length_eq_zero_iff.1 hp];exact List.Pairwise.nil
def wkK (first step:Int) (i:Nat):Int:=first+(i:Int)*step
structure WkI (c:Cfg) (first step:Int) (i:Nat) (d:SlC):Prop where
 may:pmE c d=0
 len:(prs d 0 d.ks.length).length=i
 has:∀j,j<i→fndL (prs d 0 d.ks.length) (wkK first step j)=some (wkK first step j,(j:Int))
 none:∀o,(∀j,j<i→o≠wkK first step j)→fndL (prs d 0 d.ks.length) o=none
 u:U64s d.ws
 num:d.ws.length≤1000000∧d.ks.length≤1000000∧d.vs.length≤1000000∧d.cs.length≤1000000
theorem wkK_ne {first step:Int} (hs:step≠0) {i j:Nat} (h:i≠j):wkK first step i≠wkK first step j:=by
 intro e;unfold wkK at e;have e2:(i:Int)*step=(j:Int)*step:=xo;have:=Int.eq_of_mul_eq_mul_right hs e2;omega
theorem WkI.nohas {c:Cfg} {first step:Int} {i:Nat} {d:SlC} (w:WkI c first step i d) (hs:step≠0):hasB d (wkK first step i)=false:=by
 rw [hasB,w.none _ fun j hj=>wkK_ne hs xo];rfl
theorem WkI.many {c:Cfg} {first step:Int} {i:Nat} {d:SlC} (w:WkI c first step i d):manyC d=i:=by
 rw [←w.len,prs_length];rfl
theorem WkI.le {c:Cfg} {first step:Int} {i:Nat} {d:SlC} (w:WkI c first step i d):(i:Int)≤c.most:=by
 obtain ⟨hc,a,H,kn,hsg,hmost,hden⟩:=gap_zero (pm_zero w.may).1;rw [sum_many kn w.u,w.many] at hmost;exact hmost
theorem WkI.full {c:Cfg} {first step:Int} {i:Nat} {d:SlC} (w:WkI c first step i d) (hs:step≠0) (hm:c.most≤(i:Int)):pPutE c d (wkK first step i)=9:=by
 have:=w.le;rw [pPutE,if_pos w.may,w.nohas hs,if_neg xdd,w.many,if_pos xo]
theorem WkI.room {c:Cfg} {first step:Int} {i:Nat} {d:SlC} (w:WkI c first step i d) (hs:step≠0) (hm:(i:Int)<c.most):pPutE c d (wkK first step i)=0:=by
 rw [pPutE,if_pos w.may,w.nohas hs,if_neg xdd,w.many,if_neg xo]
theorem WkI.size {c:Cfg} {first step:Int} {i:Nat} {d:SlC} (w:WkI c first step i d):ansB (szV c d) 0 i=true:=
  ansB_yes (by rw [szV_ok w.may,w.len])
end
end Go.Proofs.YtbedhbpgnfffmaaGreat

/- Merged: OmHp, OmAlv, OmRaw, OmOrder. -/
import Derived.Test.YtjhpblejlchhjaaGreatDoorOmMovesP22
import Derived.Test.YtjhpblejlchhjaaGreatDoorOmMovesP11
import Derived.Test.YtjhpblejlchhjaaGreatDoorOmMovesP10
namespace Go.Proofs.YtjhpblejlchhjaaGreatDoor
set_option maxRecDepth 100000
set_option maxHeartbeats 40000000
set_option linter.unusedVariables false
set_option linter.unusedSimpArgs false
section
open Go.RowKit Go.Shelf Go.Sort
theorem bx_alloc {w:World} {b:Nat} {t:TypeId} {vs:List Value} {x:Obj} (h:BX w b t vs):BX (w.alloc x) b t vs:=bx_below (br.alloc (Nat.le_refl _) _) h (bx_lt h)
theorem bx_one {w w0:World} {l1:List Value} {t1:TypeId} (h:w.alloc (.cells l1.toArray t1)=w0):Below w.heap.size w w0∧BX w0 w.heap.size t1 l1:=by
 subst h;exact ⟨br.alloc (Nat.le_refl _) _,bx_new _ _ _⟩
theorem row_new (w:World) (xs:List Int) (t:TypeId):IsRow .i64 (w.alloc (.cells (xs.map (Value.int .i64)).toArray t)) (some ⟨w.heap.size,0,none⟩) xs:=by
 intro i hi;refine ⟨_,0,rfl,by simp,fun j hj=> ?_⟩;have:=pb_new w w.heap.size (xs.map (Value.int .i64)) (t:=t) rfl j (.int .i64 (xs.getD j 0)) (by rw [List.getElem?_map,List.getElem?_eq_getElem hj,List.getD_eq_getElem?_getD,List.getElem?_eq_getElem hj];rfl);rw [Nat.zero_add];exact this
theorem is_no (r:OmR) (A:OmA) (l:List (Int×Int)) (a:Option Addr) (ca:Nat) (w:World)
    (LS:Hid (∀W,Below w.heap.size w W→Calls Tryz.prog 21 #[ordV r A] W (FreshHd2 W r.L (.int .i64 r.E))))
    (he:r.E≠0):
    Calls Tryz.prog 48 #[ordV r A,.slice a l.length ca] w (AnsB w (.bool false)):=by
 obtain ⟨E,hE⟩:∃E,r.E=E:=⟨_,rfl⟩
 rw [hE] at LS he;have ge:(E==0)=false:=by simpa using he
 clear he hE;go_enter Tryz.func48,Tryz.ntmps48
 go_upto_region 1 with (fail)
 generalize hw0:w.alloc _=w0;obtain ⟨hb0,hx_o⟩:=bx_one hw0;have HXo:Hid (BX w0 (w.heap.size) 33 (ordL r A)):=hid hx_o;have hl_o:w.heap.size<w0.heap.size:=bx_lt hx_o;have HB0:=hid hb0;clear hw0 hb0 hx_o;go_wp2_with (first|(refine wpl_load 33 (.tmp 2) (w.heap.size) (ordL r A) xk rfl rfl Tryz.underlying33 rfl xk (bx_pb HXo.out) ?_))
 refine (LS.out _ HB0.out).mono ?_;rintro e w1 ⟨v,rfl,ho,hb1⟩;obtain ⟨b,cb,rfl,hi,-,-,-,-⟩:=row_of_owns ho;have HI:=hid hi;clear ho hi;replace HXo:=hid (bx_below hb1 HXo.out (bx_lt HXo.out));have HB1:=xv hb1 HB0;have hz1:w0.heap.size≤w1.heap.size:=hb1.size;clear HB0;clear hb1;go_wp2
 go_ret
 exact ⟨rfl,HB1.out⟩
theorem is_yes (r:OmR) (A:OmA) (l:List (Int×Int)) (a:Option Addr) (ca:Nat) (q:Bool) (w:World)
    (LS:Hid (∀W,Below w.heap.size w W→Calls Tryz.prog 21 #[ordV r A] W (FreshHd2 W r.L (.int .i64 0))))
    (SH:Hid (∀(W:World) (b:Option Addr) (cb:Nat),Below w.heap.size w W→IsRow .i64 W b (prI r.L)→Calls Tryz.prog 50 #[.slice b r.L.length cb,.slice a l.length ca] W (AnsB W (.bool q)))):
    Calls Tryz.prog 48 #[ordV r A,.slice a l.length ca] w (AnsB w (.bool q)):=by
 go_enter Tryz.func48,Tryz.ntmps48
 go_upto_region 1 with (fail)
 generalize hw0:w.alloc _=w0;obtain ⟨hb0,hx_o⟩:=bx_one hw0;have HXo:Hid (BX w0 (w.heap.size) 33 (ordL r A)):=hid hx_o;have hl_o:w.heap.size<w0.heap.size:=bx_lt hx_o;have HB0:=hid hb0;clear hw0 hb0 hx_o;go_wp2_with (first|(refine wpl_load 33 (.tmp 2) (w.heap.size) (ordL r A) xk rfl rfl Tryz.underlying33 rfl xk (bx_pb HXo.out) ?_))
 refine (LS.out _ HB0.out).mono ?_;rintro e w1 ⟨v,rfl,ho,hb1⟩;obtain ⟨b,cb,rfl,hi,-,-,-,-⟩:=row_of_owns ho;have HI:=hid hi;clear ho hi;replace HXo:=hid (bx_below hb1 HXo.out (bx_lt HXo.out));have HB1:=xv hb1 HB0;have hz1:w0.heap.size≤w1.heap.size:=hb1.size;clear HB0;clear hb1;go_wp2_with fail
 refine (SH.out _ b cb HB1.out HI.out).mono ?_;rintro e w2 ⟨rfl,hb2⟩;have HB2:=xv hb2 HB1;clear hb2;go_wp2
 go_ret
 exact ⟨rfl,HB2.out⟩
theorem L_len {r:OmR} (sz:SzO r):r.L.length≤1000000:=by
 unfold OmR.L lstL;split
 · rw [hdl_length];have:=cntW_le r.s.ws 0 r.s.ks.length;have:=sz.k;omega
 · exact Nat.zero_le _
theorem is15_ok (r:OmR) (A:OmA) (l:List (Int×Int)) (a:Option Addr) (ca:Nat) (w:World) (h:InO w r A) (ha:IsRow .i64 w a (prI l)):
    Calls Tryz.prog 48 #[ordV r A,.slice a l.length ca] w (AnsB w (.bool (decide (r.E=0)&&decide (r.L=l)))):=by
 have LS:=fun W (hb:Below w.heap.size w W)=>oList r A W (h.below hb)
 by_cases he:r.E=0
 · rw [he] at LS;rw [he,show decide ((0:Int)=0)=true from rfl,Bool.true_and];exact is_yes r A l a ca _ w (hid LS) (hid fun W b cb hb hi=>SameHd_ok b a cb ca r.L l W hi (ha.below hb) (by have:=L_len h.sz;omega))
 · rw [decide_eq_false he,Bool.false_and];exact is_no r A l a ca w (hid LS) he
theorem chap15_ok (w:World):Calls Tryz.prog 28 #[] w (AnsB w (.agg #[.int .u8 1,.int .i64 8,.int .i64 4,.int .i64 16,.int .i64 8,.int .i64 0,.int .i64 1,.int .i64 4,.int .i64 8])):=by
 go_enter Tryz.func28,Tryz.ntmps28
 go_wp2_with (refine wpl_store_new 23 (.tmp 0) (.tmp 1) _ _ rfl rfl rfl rfl xk rfl (by simp [Value.oneCell']) ?_)
 exact bodyPost_ret (results_c rfl rfl (run_loadVar_many _ Tryz.underlying23 rfl xk (pb_new w w.heap.size [.int .u8 1,.int .i64 8,.int .i64 4,.int .i64 16,.int .i64 8,.int .i64 0,.int .i64 1,.int .i64 4,.int .i64 8] rfl))) rfl ⟨rfl,br.alloc (Nat.le_refl _) _⟩
end
section
open Go.RowKit Go.Shelf Go.Sort
theorem alive15_core (c:Cfg) (r0 r1 r2 r3 r4:OmR) (w:World)
    (CH:Hid (∀W,Calls Tryz.prog 28 #[] W (AnsB W (.agg #[.int .u8 c.tag,.int .i64 c.most,.int .i64 c.seg,.int .i64 c.least,.int .i64 c.den,.int .i64 c.ll,.int .i64 c.rl,.int .i64 c.rh,.int .i64 c.lh]))))
    (NW:Hid (∀W,Calls Tryz.prog 27 #[.agg #[.int .u8 c.tag,.int .i64 c.most,.int .i64 c.seg,.int .i64 c.least,.int .i64 c.den,.int .i64 c.ll,.int .i64 c.rl,.int .i64 c.rh,.int .i64 c.lh]] W (FrO2 W r0 0)))
    (KF:Hid (∀(W:World) (A:OmA),Below w.heap.size w W→InO W r0 A→Calls Tryz.prog 10 #[ordV r0 A] W (FrO W r1 0 0 0)))
    (KA:Hid (∀(W:World) (A:OmA),Below w.heap.size w W→InO W r1 A→Calls Tryz.prog 12 #[ordV r1 A,hdV 0 0] W (FrO W r2 1 0 0)))
    (KB:Hid (∀(W:World) (A:OmA),Below w.heap.size w W→InO W r2 A→Calls Tryz.prog 14 #[ordV r2 A,hdV 1 0] W (FrO W r3 2 0 0)))
    (CM:Hid (∀(W:World) (A:OmA),Below w.heap.size w W→InO W r3 A→Calls Tryz.prog 25 #[ordV r3 A,hdV 2 0,hdV 1 0] W (AnsB W (.tuple #[.int .i64 (-1),.int .i64 0]))))
    (DL:Hid (∀(W:World) (A:OmA),Below w.heap.size w W→InO W r3 A→Calls Tryz.prog 16 #[ordV r3 A,hdV 2 0] W (FrO2 W r4 0)))
    (LB:Hid (∀(W:World) (A:OmA),Below w.heap.size w W→InO W r4 A→Calls Tryz.prog 26 #[ordV r4 A,hdV 2 0] W (AnsB W (.tuple #[.int .i64 0,.int .i64 140]))))
    (I1:Hid (∀(W:World) (A:OmA) (b:Option Addr) (cb:Nat),Below w.heap.size w W→InO W r3 A→IsRow .i64 W b (prI [(0,0),(2,0),(1,0)])→Calls Tryz.prog 48 #[ordV r3 A,.slice b 3 cb] W (AnsB W (.bool true))))
    (I2:Hid (∀(W:World) (A:OmA) (b:Option Addr) (cb:Nat),Below w.heap.size w W→InO W r4 A→IsRow .i64 W b (prI [(0,0),(1,0)])→Calls Tryz.prog 48 #[ordV r4 A,.slice b 2 cb] W (AnsB W (.bool true)))):
    Calls Tryz.prog 20 #[] w (AnsB w (.bool true)):=by
 go_enter Tryz.func20,Tryz.ntmps20
 go_wp2_with fail
 refine (CH.out _).mono ?_;rintro e w0 ⟨rfl,hb0⟩;have HB0:=hid hb0;have hz0:=hb0.size;clear hb0 CH;go_wp2_with fail
 refine (NW.out _).mono ?_;rintro e w1 ⟨A0,rfl,ho,hb1⟩;clear NW;have HB1:=xv hb1 HB0;have hz1:w0.heap.size≤w1.heap.size:=hb1.size;clear HB0;clear hb1;have HOa:Hid (OwO w1 w0.heap.size w1.heap.size (r0) A0):=hid ho;clear ho;go_upto_region 2 with (first|(refine wpl_store_new 33 (.tmp 1) (.tmp 18) zordL.toArray (ordL r0 A0).toArray rfl rfl rfl rfl xk rfl (ordL_one _ _) ?_))
 generalize hw2:w1.alloc _=w2;have hb2:Below w1.heap.size w1 w2:=by rw [←hw2];exact br.alloc (Nat.le_refl _) _
 have hx2:BX w2 w1.heap.size 33 (ordL r0 A0):=by rw [←hw2];exact bx_new _ _ _
 clear hw2;replace HOa:=hid (HOa.out.below hb2);have HB2:=xv hb2 HB1;have hz2:w1.heap.size≤w2.heap.size:=hb2.size;clear HB1;have HXo:=hid hx2;have hl_o:w1.heap.size<w2.heap.size:=bx_lt hx2;clear hb2 hx2;go_wp2_with (first|(refine wpl_load 33 (.tmp 1) (w1.heap.size) (ordL r0 A0) xk rfl rfl Tryz.underlying33 rfl xk (bx_pb HXo.out) ?_))
 refine (KF.out _ A0 HB2.out HOa.out.inO).mono ?_;rintro e w3 ⟨A1,rfl,ho,hb3⟩;clear KF;replace HXo:=hid (bx_below hb3 HXo.out (bx_lt HXo.out));replace HOa:=hid (HOa.out.below hb3);have HB3:=xv hb3 HB2;have hz3:w2.heap.size≤w3.heap.size:=hb3.size;clear HB2;clear hb3;have HOqA1:Hid (OwO w3 w2.heap.size w3.heap.size (r1) A1):=hid ho;clear ho;go_upto_region 3 with (first|(refine wpl_store_row 33 (.tmp 1) (.tmp 23) (w1.heap.size) (ordL r0 A0) (ordL r1 A1) rfl rfl rfl rfl xk rfl (ordL_one _ _) (bx_alloc HXo.out) ?_;intro w5 hs5 hx5)|(refine wpl_store_row 35 (.tmp 3) (.tmp 24) (w3.heap.size) zhdL (hdL 0 0) rfl rfl rfl rfl xk rfl (hdL_one _ _) (hs5.bx (bx_new _ _ _) xo) ?_;intro w6 hs6 hx6))
 generalize hw4:w3.alloc _=w4 at hs5;have hb4:Below w3.heap.size w3 w4:=by rw [←hw4];exact br.alloc (Nat.le_refl _) _
 have hx4:BX w4 w3.heap.size 35 zhdL:=by rw [←hw4];exact bx_new _ _ _
 clear hw4;replace HXo:=hid (bx_below hb4 HXo.out (bx_lt HXo.out));replace HOa:=hid (HOa.out.below hb4);replace HOqA1:=hid (HOqA1.out.below hb4);have HB4:=xv hb4 HB3;have hz4:w3.heap.size≤w4.heap.size:=hb4.size;clear HB3;have HXa:=hid hx4;have hl_a:w3.heap.size<w4.heap.size:=bx_lt hx4;clear hb4 hx4;replace HXa:=hid (hs5.bx HXa.out xo);replace HXo:=hid hx5;replace HOa:=hid (HOa.out.row hs5 xo);replace HOqA1:=hid (HOqA1.out.row hs5 xo);have HB5:=hid (HB4.out.trans (hs5.bel _ xo));have hz5:w4.heap.size≤w5.heap.size:=Nat.le_of_eq hs5.size.symm;have hy5:w5.heap.size≤w4.heap.size:=Nat.le_of_eq hs5.size;clear HB4 hs5 hx5;replace HXo:=hid (hs6.bx HXo.out xo);replace HXa:=hid hx6;replace HOa:=hid (HOa.out.row hs6 xo);replace HOqA1:=hid (HOqA1.out.row hs6 xo);have HB6:=hid (HB5.out.trans (hs6.bel _ xo));have hz6:w5.heap.size≤w6.heap.size:=Nat.le_of_eq hs6.size.symm;have hy6:w6.heap.size≤w5.heap.size:=Nat.le_of_eq hs6.size;clear HB5 hs6 hx6;go_wp2_with (first|(refine wpl_load 33 (.tmp 1) (w1.heap.size) (ordL r1 A1) xk rfl rfl Tryz.underlying33 rfl xk (bx_pb HXo.out) ?_)|(refine wpl_load 35 (.tmp 3) (w3.heap.size) (hdL 0 0) xk rfl rfl Tryz.underlying35 rfl xk (bx_pb HXa.out) ?_))
 refine (KA.out _ A1 HB6.out HOqA1.out.inO).mono ?_;rintro e w7 ⟨A2,rfl,ho,hb7⟩;clear KA;replace HXo:=hid (bx_below hb7 HXo.out (bx_lt HXo.out));replace HXa:=hid (bx_below hb7 HXa.out (bx_lt HXa.out));replace HOa:=hid (HOa.out.below hb7);replace HOqA1:=hid (HOqA1.out.below hb7);have HB7:=xv hb7 HB6;have hz7:w6.heap.size≤w7.heap.size:=hb7.size;clear HB6;clear hb7;have HOqA2:Hid (OwO w7 w6.heap.size w7.heap.size (r2) A2):=hid ho;clear ho;go_upto_region 4 with (first|(refine wpl_store_row 33 (.tmp 1) (.tmp 30) (w1.heap.size) (ordL r1 A1) (ordL r2 A2) rfl rfl rfl rfl xk rfl (ordL_one _ _) (bx_alloc HXo.out) ?_;intro w9 hs9 hx9)|(refine wpl_store_row 35 (.tmp 5) (.tmp 31) (w7.heap.size) zhdL (hdL 1 0) rfl rfl rfl rfl xk rfl (hdL_one _ _) (hs9.bx (bx_new _ _ _) xo) ?_;intro w10 hs10 hx10))
 generalize hw8:w7.alloc _=w8 at hs9;have hb8:Below w7.heap.size w7 w8:=by rw [←hw8];exact br.alloc (Nat.le_refl _) _
 have hx8:BX w8 w7.heap.size 35 zhdL:=by rw [←hw8];exact bx_new _ _ _
 clear hw8;replace HXo:=hid (bx_below hb8 HXo.out (bx_lt HXo.out));replace HXa:=hid (bx_below hb8 HXa.out (bx_lt HXa.out));replace HOa:=hid (HOa.out.below hb8);replace HOqA1:=hid (HOqA1.out.below hb8);replace HOqA2:=hid (HOqA2.out.below hb8);have HB8:=xv hb8 HB7;have hz8:w7.heap.size≤w8.heap.size:=hb8.size;clear HB7;have HXb:=hid hx8;have hl_b:w7.heap.size<w8.heap.size:=bx_lt hx8;clear hb8 hx8;replace HXa:=hid (hs9.bx HXa.out xo);replace HXb:=hid (hs9.bx HXb.out xo);replace HXo:=hid hx9;replace HOa:=hid (HOa.out.row hs9 xo);replace HOqA1:=hid (HOqA1.out.row hs9 xo);replace HOqA2:=hid (HOqA2.out.row hs9 xo);have HB9:=hid (HB8.out.trans (hs9.bel _ xo));have hz9:w8.heap.size≤w9.heap.size:=Nat.le_of_eq hs9.size.symm;have hy9:w9.heap.size≤w8.heap.size:=Nat.le_of_eq hs9.size;clear HB8 hs9 hx9;replace HXo:=hid (hs10.bx HXo.out xo);replace HXa:=hid (hs10.bx HXa.out xo);replace HXb:=hid hx10;replace HOa:=hid (HOa.out.row hs10 xo);replace HOqA1:=hid (HOqA1.out.row hs10 xo);replace HOqA2:=hid (HOqA2.out.row hs10 xo);have HB10:=hid (HB9.out.trans (hs10.bel _ xo));have hz10:w9.heap.size≤w10.heap.size:=Nat.le_of_eq hs10.size.symm;have hy10:w10.heap.size≤w9.heap.size:=Nat.le_of_eq hs10.size;clear HB9 hs10 hx10;go_wp2_with (first|(refine wpl_load 33 (.tmp 1) (w1.heap.size) (ordL r2 A2) xk rfl rfl Tryz.underlying33 rfl xk (bx_pb HXo.out) ?_)|(refine wpl_load 35 (.tmp 5) (w7.heap.size) (hdL 1 0) xk rfl rfl Tryz.underlying35 rfl xk (bx_pb HXb.out) ?_))
 refine (KB.out _ A2 HB10.out HOqA2.out.inO).mono ?_;rintro e w11 ⟨A3,rfl,ho,hb11⟩;clear KB;replace HXo:=hid (bx_below hb11 HXo.out (bx_lt HXo.out));replace HXa:=hid (bx_below hb11 HXa.out (bx_lt HXa.out));replace HXb:=hid (bx_below hb11 HXb.out (bx_lt HXb.out));replace HOa:=hid (HOa.out.below hb11);replace HOqA1:=hid (HOqA1.out.below hb11);replace HOqA2:=hid (HOqA2.out.below hb11);have HB11:=xv hb11 HB10;have hz11:w10.heap.size≤w11.heap.size:=hb11.size;clear HB10;clear hb11;have HOqA3:Hid (OwO w11 w10.heap.size w11.heap.size (r3) A3):=hid ho;clear ho;go_upto_region 5 with (first|(refine wpl_store_row 33 (.tmp 1) (.tmp 37) (w1.heap.size) (ordL r2 A2) (ordL r3 A3) rfl rfl rfl rfl xk rfl (ordL_one _ _) (bx_alloc HXo.out) ?_;intro w13 hs13 hx13)|(refine wpl_store_row 35 (.tmp 7) (.tmp 38) (w11.heap.size) zhdL (hdL 2 0) rfl rfl rfl rfl xk rfl (hdL_one _ _) (hs13.bx (bx_new _ _ _) xo) ?_;intro w14 hs14 hx14))
 generalize hw12:w11.alloc _=w12 at hs13;have hb12:Below w11.heap.size w11 w12:=by rw [←hw12];exact br.alloc (Nat.le_refl _) _
 have hx12:BX w12 w11.heap.size 35 zhdL:=by rw [←hw12];exact bx_new _ _ _
 clear hw12;replace HXo:=hid (bx_below hb12 HXo.out (bx_lt HXo.out));replace HXa:=hid (bx_below hb12 HXa.out (bx_lt HXa.out));replace HXb:=hid (bx_below hb12 HXb.out (bx_lt HXb.out));replace HOa:=hid (HOa.out.below hb12);replace HOqA1:=hid (HOqA1.out.below hb12);replace HOqA2:=hid (HOqA2.out.below hb12);replace HOqA3:=hid (HOqA3.out.below hb12);have HB12:=xv hb12 HB11;have hz12:w11.heap.size≤w12.heap.size:=hb12.size;clear HB11;have HXc:=hid hx12;have hl_c:w11.heap.size<w12.heap.size:=bx_lt hx12;clear hb12 hx12;replace HXa:=hid (hs13.bx HXa.out xo);replace HXb:=hid (hs13.bx HXb.out xo);replace HXc:=hid (hs13.bx HXc.out xo);replace HXo:=hid hx13;replace HOa:=hid (HOa.out.row hs13 xo);replace HOqA1:=hid (HOqA1.out.row hs13 xo);replace HOqA2:=hid (HOqA2.out.row hs13 xo);replace HOqA3:=hid (HOqA3.out.row hs13 xo);have HB13:=hid (HB12.out.trans (hs13.bel _ xo));have hz13:w12.heap.size≤w13.heap.size:=Nat.le_of_eq hs13.size.symm;have hy13:w13.heap.size≤w12.heap.size:=Nat.le_of_eq hs13.size;clear HB12 hs13 hx13;replace HXo:=hid (hs14.bx HXo.out xo);replace HXa:=hid (hs14.bx HXa.out xo);replace HXb:=hid (hs14.bx HXb.out xo);replace HXc:=hid hx14;replace HOa:=hid (HOa.out.row hs14 xo);replace HOqA1:=hid (HOqA1.out.row hs14 xo);replace HOqA2:=hid (HOqA2.out.row hs14 xo);replace HOqA3:=hid (HOqA3.out.row hs14 xo);have HB14:=hid (HB13.out.trans (hs14.bel _ xo));have hz14:w13.heap.size≤w14.heap.size:=Nat.le_of_eq hs14.size.symm;have hy14:w14.heap.size≤w13.heap.size:=Nat.le_of_eq hs14.size;clear HB13 hs14 hx14;go_wp2_with (first|(refine wpl_load 33 (.tmp 1) (w1.heap.size) (ordL r3 A3) xk rfl rfl Tryz.underlying33 rfl xk (bx_pb HXo.out) ?_)|(refine wpl_load 35 (.tmp 7) (w11.heap.size) (hdL 2 0) xk rfl rfl Tryz.underlying35 rfl xk (bx_pb HXc.out) ?_)|(refine wpl_load 35 (.tmp 5) (w7.heap.size) (hdL 1 0) xk rfl rfl Tryz.underlying35 rfl xk (bx_pb HXb.out) ?_))
 refine (CM.out _ A3 HB14.out HOqA3.out.inO).mono ?_;rintro e w15 ⟨rfl,hb15⟩;replace HXo:=hid (bx_below hb15 HXo.out (bx_lt HXo.out));replace HXa:=hid (bx_below hb15 HXa.out (bx_lt HXa.out));replace HXb:=hid (bx_below hb15 HXb.out (bx_lt HXb.out));replace HXc:=hid (bx_below hb15 HXc.out (bx_lt HXc.out));replace HOa:=hid (HOa.out.below hb15);replace HOqA1:=hid (HOqA1.out.below hb15);replace HOqA2:=hid (HOqA2.out.below hb15);replace HOqA3:=hid (HOqA3.out.below hb15);have HB15:=xv hb15 HB14;have hz15:w14.heap.size≤w15.heap.size:=hb15.size;clear HB14;clear hb15;clear CM;go_wp2_with (first|(refine wpl_load 33 (.tmp 1) (w1.heap.size) (ordL r3 A3) xk rfl rfl Tryz.underlying33 rfl xk (bx_pb HXo.out) ?_)|(refine wpl_load 35 (.tmp 7) (w11.heap.size) (hdL 2 0) xk rfl rfl Tryz.underlying35 rfl xk (bx_pb HXc.out) ?_))
 refine (DL.out _ A3 HB15.out HOqA3.out.inO).mono ?_;rintro e w16 ⟨A4,rfl,ho,hb16⟩;replace HXo:=hid (bx_below hb16 HXo.out (bx_lt HXo.out));replace HXa:=hid (bx_below hb16 HXa.out (bx_lt HXa.out));replace HXb:=hid (bx_below hb16 HXb.out (bx_lt HXb.out));replace HXc:=hid (bx_below hb16 HXc.out (bx_lt HXc.out));replace HOa:=hid (HOa.out.below hb16);replace HOqA1:=hid (HOqA1.out.below hb16);replace HOqA2:=hid (HOqA2.out.below hb16);replace HOqA3:=hid (HOqA3.out.below hb16);have HB16:=xv hb16 HB15;have hz16:w15.heap.size≤w16.heap.size:=hb16.size;clear HB15;clear hb16;clear DL;have HOx:Hid (OwO w16 w15.heap.size w16.heap.size (r4) A4):=hid ho;clear ho;go_upto_region 7 with (first|(refine wpl_store_new 33 (.tmp 11) (.tmp 51) zordL.toArray (ordL r4 A4).toArray rfl rfl rfl rfl xk rfl (ordL_one _ _) ?_))
 generalize hw17:w16.alloc _=w17;have hb17:Below w16.heap.size w16 w17:=by rw [←hw17];exact br.alloc (Nat.le_refl _) _
 have hx17:BX w17 w16.heap.size 33 (ordL r4 A4):=by rw [←hw17];exact bx_new _ _ _
 clear hw17;replace HXo:=hid (bx_below hb17 HXo.out (bx_lt HXo.out));replace HXa:=hid (bx_below hb17 HXa.out (bx_lt HXa.out));replace HXb:=hid (bx_below hb17 HXb.out (bx_lt HXb.out));replace HXc:=hid (bx_below hb17 HXc.out (bx_lt HXc.out));replace HOa:=hid (HOa.out.below hb17);replace HOqA1:=hid (HOqA1.out.below hb17);replace HOqA2:=hid (HOqA2.out.below hb17);replace HOqA3:=hid (HOqA3.out.below hb17);replace HOx:=hid (HOx.out.below hb17);have HB17:=xv hb17 HB16;have hz17:w16.heap.size≤w17.heap.size:=hb17.size;clear HB16;have HXx:=hid hx17;have hl_x:w16.heap.size<w17.heap.size:=bx_lt hx17;clear hb17 hx17;go_wp2_with (first|(refine wpl_load 33 (.tmp 11) (w16.heap.size) (ordL r4 A4) xk rfl rfl Tryz.underlying33 rfl xk (bx_pb HXx.out) ?_)|(refine wpl_load 35 (.tmp 7) (w11.heap.size) (hdL 2 0) xk rfl rfl Tryz.underlying35 rfl xk (bx_pb HXc.out) ?_))
 refine (LB.out _ A4 HB17.out HOx.out.inO).mono ?_;rintro e w18 ⟨rfl,hb18⟩;replace HXo:=hid (bx_below hb18 HXo.out (bx_lt HXo.out));replace HXa:=hid (bx_below hb18 HXa.out (bx_lt HXa.out));replace HXb:=hid (bx_below hb18 HXb.out (bx_lt HXb.out));replace HXc:=hid (bx_below hb18 HXc.out (bx_lt HXc.out));replace HXx:=hid (bx_below hb18 HXx.out (bx_lt HXx.out));replace HOa:=hid (HOa.out.below hb18);replace HOqA1:=hid (HOqA1.out.below hb18);replace HOqA2:=hid (HOqA2.out.below hb18);replace HOqA3:=hid (HOqA3.out.below hb18);replace HOx:=hid (HOx.out.below hb18);have HB18:=xv hb18 HB17;have hz18:w17.heap.size≤w18.heap.size:=hb18.size;clear HB17;clear hb18;clear LB;go_upto_region 8 with (fail)
 go_wp2_with (first|(refine wpl_load 33 (.tmp 1) (w1.heap.size) (ordL r3 A3) xk rfl rfl Tryz.underlying33 rfl xk (bx_pb HXo.out) ?_))
 generalize hw19:w18.alloc _=w19;have hb19:Below w18.heap.size w18 w19:=by rw [←hw19];exact br.alloc (Nat.le_refl _) _
 have HI19:Hid (IsRow .i64 w19 (some ⟨w18.heap.size,0,none⟩) [0,0,2,0,1,0]):=by rw [←hw19];exact hid (row_new _ [0,0,2,0,1,0] _)
 clear hw19;replace HXo:=hid (bx_below hb19 HXo.out (bx_lt HXo.out));replace HXa:=hid (bx_below hb19 HXa.out (bx_lt HXa.out));replace HXb:=hid (bx_below hb19 HXb.out (bx_lt HXb.out));replace HXc:=hid (bx_below hb19 HXc.out (bx_lt HXc.out));replace HXx:=hid (bx_below hb19 HXx.out (bx_lt HXx.out));replace HOa:=hid (HOa.out.below hb19);replace HOqA1:=hid (HOqA1.out.below hb19);replace HOqA2:=hid (HOqA2.out.below hb19);replace HOqA3:=hid (HOqA3.out.below hb19);replace HOx:=hid (HOx.out.below hb19);have HB19:=xv hb19 HB18;have hz19:w18.heap.size≤w19.heap.size:=hb19.size;clear HB18;clear hb19;refine (I1.out _ A3 _ _ HB19.out HOqA3.out.inO HI19.out).mono ?_;rintro e w20 ⟨rfl,hb20⟩;replace HXo:=hid (bx_below hb20 HXo.out (bx_lt HXo.out));replace HXa:=hid (bx_below hb20 HXa.out (bx_lt HXa.out));replace HXb:=hid (bx_below hb20 HXb.out (bx_lt HXb.out));replace HXc:=hid (bx_below hb20 HXc.out (bx_lt HXc.out));replace HXx:=hid (bx_below hb20 HXx.out (bx_lt HXx.out));replace HOa:=hid (HOa.out.below hb20);replace HOqA1:=hid (HOqA1.out.below hb20);replace HOqA2:=hid (HOqA2.out.below hb20);replace HOqA3:=hid (HOqA3.out.below hb20);replace HOx:=hid (HOx.out.below hb20);have HB20:=xv hb20 HB19;have hz20:w19.heap.size≤w20.heap.size:=hb20.size;clear HB19;clear hb20;clear I1 HI19;go_wp2_with (first|(refine wpl_load 33 (.tmp 11) (w16.heap.size) (ordL r4 A4) xk rfl rfl Tryz.underlying33 rfl xk (bx_pb HXx.out) ?_)|(refine wpl_load 35 (.tmp 3) (w3.heap.size) (hdL 0 0) xk rfl rfl Tryz.underlying35 rfl xk (bx_pb HXa.out) ?_)|(refine wpl_load 35 (.tmp 5) (w7.heap.size) (hdL 1 0) xk rfl rfl Tryz.underlying35 rfl xk (bx_pb HXb.out) ?_))
 generalize hw21:w20.alloc _=w21;have hb21:Below w20.heap.size w20 w21:=by rw [←hw21];exact br.alloc (Nat.le_refl _) _
 have HI21:Hid (IsRow .i64 w21 (some ⟨w20.heap.size,0,none⟩) [0,0,1,0]):=by rw [←hw21];exact hid (row_new _ [0,0,1,0] _)
 clear hw21;replace HXo:=hid (bx_below hb21 HXo.out (bx_lt HXo.out));replace HXa:=hid (bx_below hb21 HXa.out (bx_lt HXa.out));replace HXb:=hid (bx_below hb21 HXb.out (bx_lt HXb.out));replace HXc:=hid (bx_below hb21 HXc.out (bx_lt HXc.out));replace HXx:=hid (bx_below hb21 HXx.out (bx_lt HXx.out));replace HOa:=hid (HOa.out.below hb21);replace HOqA1:=hid (HOqA1.out.below hb21);replace HOqA2:=hid (HOqA2.out.below hb21);replace HOqA3:=hid (HOqA3.out.below hb21);replace HOx:=hid (HOx.out.below hb21);have HB21:=xv hb21 HB20;have hz21:w20.heap.size≤w21.heap.size:=hb21.size;clear HB20;clear hb21;refine (I2.out _ A4 _ _ HB21.out HOx.out.inO HI21.out).mono ?_;rintro e w22 ⟨rfl,hb22⟩;replace HXo:=hid (bx_below hb22 HXo.out (bx_lt HXo.out));replace HXa:=hid (bx_below hb22 HXa.out (bx_lt HXa.out));replace HXb:=hid (bx_below hb22 HXb.out (bx_lt HXb.out));replace HXc:=hid (bx_below hb22 HXc.out (bx_lt HXc.out));replace HXx:=hid (bx_below hb22 HXx.out (bx_lt HXx.out));replace HOa:=hid (HOa.out.below hb22);replace HOqA1:=hid (HOqA1.out.below hb22);replace HOqA2:=hid (HOqA2.out.below hb22);replace HOqA3:=hid (HOqA3.out.below hb22);replace HOx:=hid (HOx.out.below hb22);have HB22:=xv hb22 HB21;have hz22:w21.heap.size≤w22.heap.size:=hb22.size;clear HB21;clear hb22;clear I2 HI21;go_wp2
 go_ret
 exact ⟨rfl,HB22.out⟩
def chO:Cfg:=⟨1,8,4,16,8,0,1,4,8⟩
def om0:OmR:=⟨⟨1,8,4,16,8,0,1,4,8⟩,⟨4,[0],[0,0,0,0,0,0,0,0,0,0,0,0,0,0,0,0],[0,0,0,0,0,0,0,0,0,0,0,0,0,0,0,0],[0,0,0,0],0⟩,[],[],0⟩
def om1:OmR:=⟨⟨1,8,4,16,8,0,1,4,8⟩,⟨4,[1],[0,0,0,0,0,0,0,0,0,0,0,0,0,0,0,0],[0,0,0,0,0,0,0,0,0,0,0,0,0,0,0,0],[1,0,0,0],1⟩,[0],[0],0⟩
def om2:OmR:=⟨⟨1,8,4,16,8,0,1,4,8⟩,⟨4,[5],[0,0,1,0,0,0,0,0,0,0,0,0,0,0,0,0],[0,0,0,0,0,0,0,0,0,0,0,0,0,0,0,0],[2,0,0,0],3⟩,[0,0],[0,2],0⟩
def om3:OmR:=⟨⟨1,8,4,16,8,0,1,4,8⟩,⟨4,[7],[0,2,1,0,0,0,0,0,0,0,0,0,0,0,0,0],[0,0,0,0,0,0,0,0,0,0,0,0,0,0,0,0],[3,0,0,0],6⟩,[0,0,0],[0,2,1],0⟩
def om4:OmR:=⟨⟨1,8,4,16,8,0,1,4,8⟩,⟨4,[5],[0,0,1,0,0,0,0,0,0,0,0,0,0,0,0,0],[0,0,0,0,0,0,0,0,0,0,0,0,0,0,0,0],[2,0,0,0],6⟩,[0,0,1],[0,2,-1],0⟩
theorem om_q0:newR chO=om0∧cfE chO=0:=⟨by kernel_rfl,by decide +kernel⟩
theorem om_q1:om0.fR=om1∧om0.fE=0∧om0.nN 0=0∧om0.nK 0=0:=⟨by kernel_rfl,by decide +kernel,by decide +kernel,by decide +kernel⟩
theorem om_q2:om1.aR 0 0=om2∧om1.bE 0 0=0∧om1.nN 0=1∧om1.nK 0=0:=⟨by kernel_rfl,by decide +kernel,by decide +kernel,by decide +kernel⟩
theorem om_q3:om2.bR 1 0=om3∧om2.bE 1 0=0∧om2.nN 0=2∧om2.nK 0=0:=⟨by kernel_rfl,by decide +kernel,by decide +kernel,by decide +kernel⟩
theorem om_q4:om3.dR 2 0=om4∧om3.dE 2 0=0∧om3.cV 2 0 1 0= -1∧om3.cE 2 0 1 0=0:=⟨by kernel_rfl,by decide +kernel,by decide +kernel,by decide +kernel⟩
theorem om_q5:om4.lV 2 0=0∧om4.lE 2 0=140∧(decide (om3.E=0)&&decide (om3.L=[(0,0),(2,0),(1,0)]))=true∧(decide (om4.E=0)&&decide (om4.L=[(0,0),(1,0)]))=true:=⟨by decide +kernel,by decide +kernel,by decide +kernel,by decide +kernel⟩
theorem alive15_ok (w:World) (hT:TabAt w):Calls Tryz.prog 20 #[] w (AnsB w (.bool true)):=
  alive15_core chO om0 om1 om2 om3 om4 w (hid chap15_ok)
    (hid fun W=>by have:=oNew chO W;rw [om_q0.1,om_q0.2] at this;exact this)
    (hid fun W A hb h=>by have:=oFirst om0 A W h (hT.below hb);rw [om_q1.1,om_q1.2.1,om_q1.2.2.1,om_q1.2.2.2] at this;exact this)
    (hid fun W A hb h=>by have:=oAfter om1 A 0 0 W h (hT.below hb);rw [om_q2.1,om_q2.2.1,om_q2.2.2.1,om_q2.2.2.2] at this;exact this)
    (hid fun W A hb h=>by have:=oBefore om2 A 1 0 W h (hT.below hb);rw [om_q3.1,om_q3.2.1,om_q3.2.2.1,om_q3.2.2.2] at this;exact this)
    (hid fun W A hb h=>by have:=oCompare om3 A 2 0 1 0 W h;rw [om_q4.2.2.1,om_q4.2.2.2] at this;exact this)
    (hid fun W A hb h=>by have:=oDelete om3 A 2 0 W h (hT.below hb);rw [om_q4.1,om_q4.2.1] at this;exact this)
    (hid fun W A hb h=>by have:=oLabel om4 A 2 0 W h;rw [om_q5.1,om_q5.2.1] at this;exact this)
    (hid fun W A b cb hb h hi=>by have:=is15_ok om3 A [(0,0),(2,0),(1,0)] b cb W h hi;rw [om_q5.2.2.1] at this;exact this)
    (hid fun W A b cb hb h hi=>by have:=is15_ok om4 A [(0,0),(1,0)] b cb W h hi;rw [om_q5.2.2.2] at this;exact this)
end
section
open Go.RowKit
structure RawO (w:World) (r:OmR) (A:OmA):Prop where
 sl:SlIn w r.s A.sa
 cc:r.s.cs.length≤A.sa.cc
 g:IsRow .i64 w A.ga r.gs
 p:IsRow .i64 w A.pa r.ps
 cz:CapsZ A.sa
 gn:A.ga=none→A.gc=0
 pn:A.pa=none→A.pc=0
 mw:0≤r.mv∧r.mv<18446744073709551616
 lw:0≤r.s.laid∧r.s.laid<18446744073709551616
def OmR.gr (r:OmR):Bool:=grO 600 r.s r.gs r.ps
theorem oGreat (r:OmR) (A:OmA) (w:World):Calls Tryz.prog 8 #[ordV r A,.int .i64 600] w (AnsB w (.bool r.gr)):=
  Great15_ok r.c r.s A.sa.wa A.sa.ka A.sa.va A.sa.ca A.sa.wc A.sa.kc A.sa.vc A.sa.cc r.gs r.ps r.mv A.ga A.pa A.gc A.pc 600 w
theorem gr_small {r:OmR} (h:r.gr=false):r.s.ks.length≤600∧r.s.vs.length≤600∧r.s.ws.length≤600∧r.s.cs.length≤600∧r.gs.length≤600∧r.ps.length≤600:=by
 simp only [OmR.gr,grO,gr4,Bool.or_eq_false_iff,decide_eq_false_iff_not] at h;omega
theorem RawO.inO {w:World} {r:OmR} {A:OmA} (h:RawO w r A) (hg:r.gr=false):InO w r A:=by
 have q:=gr_small hg;exact ⟨h.sl,h.cc,h.g,h.p,⟨by omega,by omega,by omega,by omega,by omega,by omega,h.sl.u⟩⟩
end
section
open Go.RowKit Go.Shelf Go.Sort
def RowH (w:World) (b:Option Addr) (cb:Nat) (l:List (Int×Int)):Prop:=IsRow .i64 w b (prI l)∧(b=none→cb=0)∧l.length≤cb
theorem RowH.below {w w':World} {b:Option Addr} {cb:Nat} {l:List (Int×Int)} (h:RowH w b cb l) (hb:Below w.heap.size w w'):RowH w' b cb l:=⟨h.1.below hb,h.2.1,h.2.2⟩
def FrL (w:World) (l:List (Int×Int)) (x:Int) (e:Ending) (w':World):Prop:=∃b cb,e= .returned (.tuple #[.slice b l.length cb,.int .i64 x])∧RowH w' b cb l∧Below w.heap.size w w'
theorem oListL (r:OmR) (A:OmA) (w:World) (h:InO w r A):Calls Tryz.prog 21 #[ordV r A] w (FrL w r.L r.E):=
  (oList r A w h).mono fun e w' ⟨v,q,ho,hb⟩=>by
   obtain ⟨b,cb,rfl,hi,-,hn,hc,-⟩:=row_of_owns ho;exact ⟨b,cb,q,⟨hi,fun e=>(hn e).2,hc⟩,hb⟩
theorem bx_new2 (w:World) (x:Obj) (vs:List Value) (t:TypeId):BX ((w.alloc x).alloc (.cells vs.toArray t)) (w.heap.size+1) t vs:=by
 have:=bx_new (w.alloc x) vs t;rw [World.size_alloc] at this;exact this
end
end Go.Proofs.YtjhpblejlchhjaaGreatDoor

/- Merged: CbAs, CbSl, IdxMay, IdxMayIx. -/
import Derived.Test.YtbedhbpgnfffmaaGreatCobTellsP20
import Derived.Test.YtbedhbpgnfffmaaGreatCobTellsP21
import Derived.Test.YtbedhbpgnfffmaaGreatCobTellsP15
import Derived.Test.YtbedhbpgnfffmaaGreatCobTellsP7
import Derived.Test.YtbedhbpgnfffmaaGreatCobTellsP6
import Derived.BigRegion
import Derived.Deep.CutRange
import Derived.Deep.CutBlock
import Derived.Laws.StructEq
import Derived.Lib.QuietBelow
namespace Go.Proofs.YtbedhbpgnfffmaaGreat
set_option maxRecDepth 100000
set_option maxHeartbeats 40000000
set_option linter.unusedVariables false
set_option linter.unusedSimpArgs false
section
open Go.RowKit Go.Shelf Go.Sort
theorem wpl_build1 {P:Program} {w:World} {ops:Array Oper} {rest:List Oper} {o:Oper} {a:Act} {Q:Exit→Act→World→Prop} (t:TypeId) (i:Nat) (x:Operand) (v:Value) (cs:Array Value) (hw:Region.wanted o (yielded ops a.tmps)=true) (ho:o.op= .build t #[(i,x)]) (hx:a.eval x=v)
    (hf:P.built t [(i,v)]=some cs) (h:wpList P ops Q rest (a.put o.dst (.agg cs)) w):wpList P ops Q (o::rest) a w:=by
 refine Go.BigFrame.wpList_want hw fun K hK=> ?_
 have e:P.built t ((#[(i,x)]:Array (Nat×Operand)).map fun (i,x)=>(i,a.eval x)).toList=some cs:=by simpa [hx] using hf
 refine wp_build t _ ho (by rw [e];rfl) ?_;rw [e];exact hK _ _ h
theorem built_under (r:CobR) (A:CobA):Tryz.prog.built 76 [(0,.agg (cobL r A).toArray)]=some (cobL r A).toArray:=by kernel_rfl
theorem cbGet_e (r:CobR) (A:CobA) (key:Int) (w:World) (e:Int) (he:e≠0)
    (CK:Hid (∀(W:World),Below w.heap.size w W→Calls Tryz.prog 17 #[cobV r A] W (AnsB W (.int .i64 e)))):
    Calls Tryz.prog 9 #[cobV r A,.int .i64 key] w (AnsB w (.tuple #[.int .i64 0,.int .i64 e])):=by
 have ge:(e != 0)=true:=by simpa using he
 clear he;dsimp only [cobV] at *;go_enter Tryz.func9,Tryz.ntmps9
 go_upto_region 1 with (fail)
 generalize hw0:w.alloc _=w0;obtain ⟨hb0,hx⟩:=bxs_one (l1:=cobL r A) hw0;have HX:Hid (BXs w0 [(w.heap.size,35,cobL r A)]):=hid hx;have HB:=hid hb0;have hz0:=hb0.size;clear hw0 hb0 hx;have hl_m:w.heap.size<w0.heap.size:=bx_lt (HX.out.at 0 rfl);go_wp2_with (first|(refine wpl_load 35 (.tmp 2) (w.heap.size) (cobL r A) xk rfl rfl Tryz.underlying35 rfl xk (bx_pb (HX.out.at 0 rfl)) ?_))
 refine (CK.out _ HB.out).mono ?_;rintro e w1 ⟨rfl,hb⟩;replace HX:=hid (HX.out.below hb);replace HB:=xv hb HB;have hz1:=hb.size;clear hb;go_wp2
 go_ret2
 exact ⟨rfl,HB.out⟩
theorem cbGet_n (r:CobR) (A:CobA) (key:Int) (w:World) (p:Int×Int) (n x:Int) (hx:x≠0)
    (CK:Hid (∀(W:World),Below w.heap.size w W→Calls Tryz.prog 17 #[cobV r A] W (AnsB W (.int .i64 0))))
    (FR:Hid (∀(W:World) (bu:Nat),Below w.heap.size w W→BX W bu 76 (cobL r A)→Calls Tryz.prog 33 #[.pointer (some ⟨bu,0,none⟩),.int .i64 key] W (AnsB W (.tuple #[prV p,.int .i64 n,.int .i64 x])))):
    Calls Tryz.prog 9 #[cobV r A,.int .i64 key] w (AnsB w (.tuple #[.int .i64 0,.int .i64 x])):=by
 have gx:(x != 0)=true:=by simpa using hx
 clear hx;dsimp only [cobV] at *;go_enter Tryz.func9,Tryz.ntmps9
 go_upto_region 1 with (fail)
 generalize hw0:w.alloc _=w0;obtain ⟨hb0,hx⟩:=bxs_one (l1:=cobL r A) hw0;have HX:Hid (BXs w0 [(w.heap.size,35,cobL r A)]):=hid hx;have HB:=hid hb0;have hz0:=hb0.size;clear hw0 hb0 hx;have hl_m:w.heap.size<w0.heap.size:=bx_lt (HX.out.at 0 rfl);go_wp2_with (first|(refine wpl_load 35 (.tmp 2) (w.heap.size) (cobL r A) xk rfl rfl Tryz.underlying35 rfl xk (bx_pb (HX.out.at 0 rfl)) ?_))
 refine (CK.out _ HB.out).mono ?_;rintro e w1 ⟨rfl,hb⟩;replace HX:=hid (HX.out.below hb);replace HB:=xv hb HB;have hz1:=hb.size;clear hb;go_upto_region 5 with (first|(refine wpl_load 35 (.tmp 2) (w.heap.size) (cobL r A) xk rfl rfl Tryz.underlying35 rfl xk (bx_pb (HX.out.at 0 rfl)) ?_)|(refine wpl_build1 76 0 (.tmp 16) (.agg (cobL r A).toArray) (cobL r A).toArray xk rfl rfl (built_under r A) ?_))
 have hx:=bx_new w1 (cobL r A) 76;have hb:=(Below.refl w1.heap.size w1).alloc (Nat.le_refl _) (.cells (cobL r A).toArray 76);generalize w1.alloc _=w2 at *;replace HX:=hid (HX.out.below hb);replace HB:=xv hb HB;have hz2:=hb.size;replace HX:=hid (HX.out.cons' hx);clear hx hb;go_wp2_with (fail)
 refine (FR.out _ _ HB.out (HX.out.at 0 rfl)).mono ?_;rintro e w3 ⟨rfl,hb⟩;replace HX:=hid (HX.out.below hb);replace HB:=xv hb HB;have hz3:=hb.size;clear hb;go_upto_region 6 with (first|(refine wpl_store_new 52 (.tmp 8) (.tmp 23) (prL (0,0)).toArray (prL p).toArray rfl rfl rfl rfl xk rfl (prL_one _) ?_))
 have hx:=bx_new w3 (prL p) 52;have hb:=(Below.refl w3.heap.size w3).alloc (Nat.le_refl _) (.cells (prL p).toArray 52);generalize w3.alloc _=w4 at *;replace HX:=hid (HX.out.below hb);replace HB:=xv hb HB;have hz4:=hb.size;have hl_q:=bx_lt hx;replace HX:=hid (HX.out.cons' hx);clear hx hb;have y0:=bx_pb (HX.out.at 0 rfl) 0 _ rfl;have y1:=bx_pb (HX.out.at 0 rfl) 1 _ rfl;go_wp2
 go_ret2
 exact ⟨rfl,HB.out⟩
theorem cbGet_k (r:CobR) (A:CobA) (key:Int) (w:World) (p:Int×Int) (n:Int) (hk:p.1≠key)
    (CK:Hid (∀(W:World),Below w.heap.size w W→Calls Tryz.prog 17 #[cobV r A] W (AnsB W (.int .i64 0))))
    (FR:Hid (∀(W:World) (bu:Nat),Below w.heap.size w W→BX W bu 76 (cobL r A)→Calls Tryz.prog 33 #[.pointer (some ⟨bu,0,none⟩),.int .i64 key] W (AnsB W (.tuple #[prV p,.int .i64 n,.int .i64 0])))):
    Calls Tryz.prog 9 #[cobV r A,.int .i64 key] w (AnsB w (.tuple #[.int .i64 0,.int .i64 6])):=by
 have gk:(p.1 != key)=true:=by simpa using hk
 clear hk;dsimp only [cobV] at *;go_enter Tryz.func9,Tryz.ntmps9
 go_upto_region 1 with (fail)
 generalize hw0:w.alloc _=w0;obtain ⟨hb0,hx⟩:=bxs_one (l1:=cobL r A) hw0;have HX:Hid (BXs w0 [(w.heap.size,35,cobL r A)]):=hid hx;have HB:=hid hb0;have hz0:=hb0.size;clear hw0 hb0 hx;have hl_m:w.heap.size<w0.heap.size:=bx_lt (HX.out.at 0 rfl);go_wp2_with (first|(refine wpl_load 35 (.tmp 2) (w.heap.size) (cobL r A) xk rfl rfl Tryz.underlying35 rfl xk (bx_pb (HX.out.at 0 rfl)) ?_))
 refine (CK.out _ HB.out).mono ?_;rintro e w1 ⟨rfl,hb⟩;replace HX:=hid (HX.out.below hb);replace HB:=xv hb HB;have hz1:=hb.size;clear hb;go_upto_region 5 with (first|(refine wpl_load 35 (.tmp 2) (w.heap.size) (cobL r A) xk rfl rfl Tryz.underlying35 rfl xk (bx_pb (HX.out.at 0 rfl)) ?_)|(refine wpl_build1 76 0 (.tmp 16) (.agg (cobL r A).toArray) (cobL r A).toArray xk rfl rfl (built_under r A) ?_))
 have hx:=bx_new w1 (cobL r A) 76;have hb:=(Below.refl w1.heap.size w1).alloc (Nat.le_refl _) (.cells (cobL r A).toArray 76);generalize w1.alloc _=w2 at *;replace HX:=hid (HX.out.below hb);replace HB:=xv hb HB;have hz2:=hb.size;replace HX:=hid (HX.out.cons' hx);clear hx hb;go_wp2_with (fail)
 refine (FR.out _ _ HB.out (HX.out.at 0 rfl)).mono ?_;rintro e w3 ⟨rfl,hb⟩;replace HX:=hid (HX.out.below hb);replace HB:=xv hb HB;have hz3:=hb.size;clear hb;go_upto_region 6 with (first|(refine wpl_store_new 52 (.tmp 8) (.tmp 23) (prL (0,0)).toArray (prL p).toArray rfl rfl rfl rfl xk rfl (prL_one _) ?_))
 have hx:=bx_new w3 (prL p) 52;have hb:=(Below.refl w3.heap.size w3).alloc (Nat.le_refl _) (.cells (prL p).toArray 52);generalize w3.alloc _=w4 at *;replace HX:=hid (HX.out.below hb);replace HB:=xv hb HB;have hz4:=hb.size;have hl_q:=bx_lt hx;replace HX:=hid (HX.out.cons' hx);clear hx hb;have y0:=bx_pb (HX.out.at 0 rfl) 0 _ rfl;have y1:=bx_pb (HX.out.at 0 rfl) 1 _ rfl;go_wp2
 go_ret2
 exact ⟨rfl,HB.out⟩
theorem cbGet_y (r:CobR) (A:CobA) (key:Int) (w:World) (p:Int×Int) (n:Int) (hk:p.1=key)
    (CK:Hid (∀(W:World),Below w.heap.size w W→Calls Tryz.prog 17 #[cobV r A] W (AnsB W (.int .i64 0))))
    (FR:Hid (∀(W:World) (bu:Nat),Below w.heap.size w W→BX W bu 76 (cobL r A)→Calls Tryz.prog 33 #[.pointer (some ⟨bu,0,none⟩),.int .i64 key] W (AnsB W (.tuple #[prV p,.int .i64 n,.int .i64 0])))):
    Calls Tryz.prog 9 #[cobV r A,.int .i64 key] w (AnsB w (.tuple #[.int .i64 p.2,.int .i64 0])):=by
 have gk:(p.1 != key)=false:=by simpa using hk
 clear hk;dsimp only [cobV] at *;go_enter Tryz.func9,Tryz.ntmps9
 go_upto_region 1 with (fail)
 generalize hw0:w.alloc _=w0;obtain ⟨hb0,hx⟩:=bxs_one (l1:=cobL r A) hw0;have HX:Hid (BXs w0 [(w.heap.size,35,cobL r A)]):=hid hx;have HB:=hid hb0;have hz0:=hb0.size;clear hw0 hb0 hx;have hl_m:w.heap.size<w0.heap.size:=bx_lt (HX.out.at 0 rfl);go_wp2_with (first|(refine wpl_load 35 (.tmp 2) (w.heap.size) (cobL r A) xk rfl rfl Tryz.underlying35 rfl xk (bx_pb (HX.out.at 0 rfl)) ?_))
 refine (CK.out _ HB.out).mono ?_;rintro e w1 ⟨rfl,hb⟩;replace HX:=hid (HX.out.below hb);replace HB:=xv hb HB;have hz1:=hb.size;clear hb;go_upto_region 5 with (first|(refine wpl_load 35 (.tmp 2) (w.heap.size) (cobL r A) xk rfl rfl Tryz.underlying35 rfl xk (bx_pb (HX.out.at 0 rfl)) ?_)|(refine wpl_build1 76 0 (.tmp 16) (.agg (cobL r A).toArray) (cobL r A).toArray xk rfl rfl (built_under r A) ?_))
 have hx:=bx_new w1 (cobL r A) 76;have hb:=(Below.refl w1.heap.size w1).alloc (Nat.le_refl _) (.cells (cobL r A).toArray 76);generalize w1.alloc _=w2 at *;replace HX:=hid (HX.out.below hb);replace HB:=xv hb HB;have hz2:=hb.size;replace HX:=hid (HX.out.cons' hx);clear hx hb;go_wp2_with (fail)
 refine (FR.out _ _ HB.out (HX.out.at 0 rfl)).mono ?_;rintro e w3 ⟨rfl,hb⟩;replace HX:=hid (HX.out.below hb);replace HB:=xv hb HB;have hz3:=hb.size;clear hb;go_upto_region 6 with (first|(refine wpl_store_new 52 (.tmp 8) (.tmp 23) (prL (0,0)).toArray (prL p).toArray rfl rfl rfl rfl xk rfl (prL_one _) ?_))
 have hx:=bx_new w3 (prL p) 52;have hb:=(Below.refl w3.heap.size w3).alloc (Nat.le_refl _) (.cells (prL p).toArray 52);generalize w3.alloc _=w4 at *;replace HX:=hid (HX.out.below hb);replace HB:=xv hb HB;have hz4:=hb.size;have hl_q:=bx_lt hx;replace HX:=hid (HX.out.cons' hx);clear hx hb;have y0:=bx_pb (HX.out.at 0 rfl) 0 _ rfl;have y1:=bx_pb (HX.out.at 0 rfl) 1 _ rfl;go_wp2
 go_ret2
 exact ⟨rfl,HB.out⟩
theorem cbRank_e (r:CobR) (A:CobA) (key:Int) (w:World) (e:Int) (he:e≠0)
    (CK:Hid (∀(W:World),Below w.heap.size w W→Calls Tryz.prog 17 #[cobV r A] W (AnsB W (.int .i64 e)))):
    Calls Tryz.prog 11 #[cobV r A,.int .i64 key] w (AnsB w (.tuple #[.int .i64 0,.int .i64 e])):=by
 have ge:(e != 0)=true:=by simpa using he
 clear he;dsimp only [cobV] at *;go_enter Tryz.func11,Tryz.ntmps11
 go_upto_region 1 with (fail)
 generalize hw0:w.alloc _=w0;obtain ⟨hb0,hx⟩:=bxs_one (l1:=cobL r A) hw0;have HX:Hid (BXs w0 [(w.heap.size,35,cobL r A)]):=hid hx;have HB:=hid hb0;have hz0:=hb0.size;clear hw0 hb0 hx;have hl_m:w.heap.size<w0.heap.size:=bx_lt (HX.out.at 0 rfl);go_wp2_with (first|(refine wpl_load 35 (.tmp 2) (w.heap.size) (cobL r A) xk rfl rfl Tryz.underlying35 rfl xk (bx_pb (HX.out.at 0 rfl)) ?_))
 refine (CK.out _ HB.out).mono ?_;rintro e w1 ⟨rfl,hb⟩;replace HX:=hid (HX.out.below hb);replace HB:=xv hb HB;have hz1:=hb.size;clear hb;go_wp2
 go_ret2
 exact ⟨rfl,HB.out⟩
theorem cbRank_y (r:CobR) (A:CobA) (key:Int) (w:World) (p:Int×Int) (n x:Int)
    (CK:Hid (∀(W:World),Below w.heap.size w W→Calls Tryz.prog 17 #[cobV r A] W (AnsB W (.int .i64 0))))
    (FR:Hid (∀(W:World) (bu:Nat),Below w.heap.size w W→BX W bu 76 (cobL r A)→Calls Tryz.prog 33 #[.pointer (some ⟨bu,0,none⟩),.int .i64 key] W (AnsB W (.tuple #[prV p,.int .i64 n,.int .i64 x])))):
    Calls Tryz.prog 11 #[cobV r A,.int .i64 key] w (AnsB w (.tuple #[.int .i64 n,.int .i64 0])):=by
 dsimp only [cobV] at *;go_enter Tryz.func11,Tryz.ntmps11
 go_upto_region 1 with (fail)
 generalize hw0:w.alloc _=w0;obtain ⟨hb0,hx⟩:=bxs_one (l1:=cobL r A) hw0;have HX:Hid (BXs w0 [(w.heap.size,35,cobL r A)]):=hid hx;have HB:=hid hb0;have hz0:=hb0.size;clear hw0 hb0 hx;have hl_m:w.heap.size<w0.heap.size:=bx_lt (HX.out.at 0 rfl);go_wp2_with (first|(refine wpl_load 35 (.tmp 2) (w.heap.size) (cobL r A) xk rfl rfl Tryz.underlying35 rfl xk (bx_pb (HX.out.at 0 rfl)) ?_))
 refine (CK.out _ HB.out).mono ?_;rintro e w1 ⟨rfl,hb⟩;replace HX:=hid (HX.out.below hb);replace HB:=xv hb HB;have hz1:=hb.size;clear hb;go_upto_region 5 with (first|(refine wpl_load 35 (.tmp 2) (w.heap.size) (cobL r A) xk rfl rfl Tryz.underlying35 rfl xk (bx_pb (HX.out.at 0 rfl)) ?_)|(refine wpl_build1 76 0 (.tmp 16) (.agg (cobL r A).toArray) (cobL r A).toArray xk rfl rfl (built_under r A) ?_))
 have hx:=bx_new w1 (cobL r A) 76;have hb:=(Below.refl w1.heap.size w1).alloc (Nat.le_refl _) (.cells (cobL r A).toArray 76);generalize w1.alloc _=w2 at *;replace HX:=hid (HX.out.below hb);replace HB:=xv hb HB;have hz2:=hb.size;replace HX:=hid (HX.out.cons' hx);clear hx hb;go_wp2_with (fail)
 refine (FR.out _ _ HB.out (HX.out.at 0 rfl)).mono ?_;rintro e w3 ⟨rfl,hb⟩;replace HX:=hid (HX.out.below hb);replace HB:=xv hb HB;have hz3:=hb.size;clear hb;go_upto_region 6 with (first|(refine wpl_store_new 52 (.tmp 8) (.tmp 23) (prL (0,0)).toArray (prL p).toArray rfl rfl rfl rfl xk rfl (prL_one _) ?_))
 have hx:=bx_new w3 (prL p) 52;have hb:=(Below.refl w3.heap.size w3).alloc (Nat.le_refl _) (.cells (prL p).toArray 52);generalize w3.alloc _=w4 at *;replace HX:=hid (HX.out.below hb);replace HB:=xv hb HB;have hz4:=hb.size;have hl_q:=bx_lt hx;replace HX:=hid (HX.out.cons' hx);clear hx hb;go_wp2
 go_ret2
 exact ⟨rfl,HB.out⟩
theorem cbNext_e (r:CobR) (A:CobA) (key:Int) (w:World) (e:Int) (he:e≠0)
    (CK:Hid (∀(W:World),Below w.heap.size w W→Calls Tryz.prog 17 #[cobV r A] W (AnsB W (.int .i64 e)))):
    Calls Tryz.prog 13 #[cobV r A,.int .i64 key] w (AnsB w (.tuple #[prV (0,0),.int .i64 e])):=by
 have ge:(e != 0)=true:=by simpa using he
 clear he;dsimp only [cobV] at *;go_enter Tryz.func13,Tryz.ntmps13
 go_upto_region 1 with (fail)
 generalize hw0:(w.alloc _).alloc _=w0;obtain ⟨hb0,hx⟩:=bxs_two (l1:=cobL r A) (l2:=prL (0,0)) hw0;have HX:Hid (BXs w0 [(w.heap.size+1,52,prL (0,0)),(w.heap.size,35,cobL r A)]):=hid hx;have HB:=hid hb0;have hz0:=hb0.size;clear hw0 hb0 hx;have hl_o:w.heap.size+1<w0.heap.size:=bx_lt (HX.out.at 0 rfl);have hl_m:w.heap.size<w0.heap.size:=bx_lt (HX.out.at 1 rfl);go_wp2_with (first|(refine wpl_load 35 (.tmp 2) (w.heap.size) (cobL r A) xk rfl rfl Tryz.underlying35 rfl xk (bx_pb (HX.out.at 1 rfl)) ?_))
 refine (CK.out _ HB.out).mono ?_;rintro e w1 ⟨rfl,hb⟩;replace HX:=hid (HX.out.below hb);replace HB:=xv hb HB;have hz1:=hb.size;clear hb;go_wp2_with (first|(refine wpl_store_row 52 (.tmp 4) (.tmp 15) (w.heap.size+1) (prL (0,0)) (prL (0,0)) rfl rfl rfl rfl xk rfl (prL_one _) (HX.out.at 0 rfl) ?_;intro w2 hs hx))
 exact bodyPost_ret (results_ct rfl rfl (run_loadVar_many _ Tryz.underlying52 rfl xk (bx_pb hx))) rfl ⟨rfl,HB.out.trans (hs.bel _ xo)⟩
theorem cbNext_y (r:CobR) (A:CobA) (key:Int) (w:World) (p:Int×Int) (n x:Int)
    (CK:Hid (∀(W:World),Below w.heap.size w W→Calls Tryz.prog 17 #[cobV r A] W (AnsB W (.int .i64 0))))
    (FR:Hid (∀(W:World) (bu:Nat),Below w.heap.size w W→BX W bu 76 (cobL r A)→Calls Tryz.prog 33 #[.pointer (some ⟨bu,0,none⟩),.int .i64 key] W (AnsB W (.tuple #[prV p,.int .i64 n,.int .i64 x])))):
    Calls Tryz.prog 13 #[cobV r A,.int .i64 key] w (AnsB w (.tuple #[prV p,.int .i64 x])):=by
 dsimp only [cobV] at *;go_enter Tryz.func13,Tryz.ntmps13
 go_upto_region 1 with (fail)
 generalize hw0:(w.alloc _).alloc _=w0;obtain ⟨hb0,hx⟩:=bxs_two (l1:=cobL r A) (l2:=prL (0,0)) hw0;have HX:Hid (BXs w0 [(w.heap.size+1,52,prL (0,0)),(w.heap.size,35,cobL r A)]):=hid hx;have HB:=hid hb0;have hz0:=hb0.size;clear hw0 hb0 hx;have hl_o:w.heap.size+1<w0.heap.size:=bx_lt (HX.out.at 0 rfl);have hl_m:w.heap.size<w0.heap.size:=bx_lt (HX.out.at 1 rfl);go_wp2_with (first|(refine wpl_load 35 (.tmp 2) (w.heap.size) (cobL r A) xk rfl rfl Tryz.underlying35 rfl xk (bx_pb (HX.out.at 1 rfl)) ?_))
 refine (CK.out _ HB.out).mono ?_;rintro e w1 ⟨rfl,hb⟩;replace HX:=hid (HX.out.below hb);replace HB:=xv hb HB;have hz1:=hb.size;clear hb;go_upto_region 5 with (first|(refine wpl_load 35 (.tmp 2) (w.heap.size) (cobL r A) xk rfl rfl Tryz.underlying35 rfl xk (bx_pb (HX.out.at 1 rfl)) ?_)|(refine wpl_build1 76 0 (.tmp 17) (.agg (cobL r A).toArray) (cobL r A).toArray xk rfl rfl (built_under r A) ?_))
 have hx:=bx_new w1 (cobL r A) 76;have hb:=(Below.refl w1.heap.size w1).alloc (Nat.le_refl _) (.cells (cobL r A).toArray 76);generalize w1.alloc _=w2 at *;replace HX:=hid (HX.out.below hb);replace HB:=xv hb HB;have hz2:=hb.size;replace HX:=hid (HX.out.cons' hx);clear hx hb;go_wp2_with (fail)
 refine (FR.out _ _ HB.out (HX.out.at 0 rfl)).mono ?_;rintro e w3 ⟨rfl,hb⟩;replace HX:=hid (HX.out.below hb);replace HB:=xv hb HB;have hz3:=hb.size;clear hb;go_upto_region 6 with (first|(refine wpl_store_new 52 (.tmp 8) (.tmp 24) (prL (0,0)).toArray (prL p).toArray rfl rfl rfl rfl xk rfl (prL_one _) ?_))
 have hx:=bx_new w3 (prL p) 52;have hb:=(Below.refl w3.heap.size w3).alloc (Nat.le_refl _) (.cells (prL p).toArray 52);generalize w3.alloc _=w4 at *;replace HX:=hid (HX.out.below hb);replace HB:=xv hb HB;have hz4:=hb.size;have hl_q:=bx_lt hx;replace HX:=hid (HX.out.cons' hx);clear hx hb;go_wp2_with (first|(refine wpl_load 52 (.tmp 8) (w3.heap.size) (prL p) xk rfl rfl Tryz.underlying52 rfl xk (bx_pb (HX.out.at 0 rfl)) ?_)|(refine wpl_store_row 52 (.tmp 4) (.tmp 27) (w.heap.size+1) (prL (0,0)) (prL p) rfl rfl rfl rfl xk rfl (prL_one _) (HX.out.at 2 rfl) ?_;intro w5 hs hx))
 exact bodyPost_ret (results_ct rfl rfl (run_loadVar_many _ Tryz.underlying52 rfl xk (bx_pb hx))) rfl ⟨rfl,HB.out.trans (hs.bel _ xo)⟩
theorem Get21_e (r:CobR) (A:CobA) (key:Int) (w:World) (e:Int) (he:e≠0)
    (CK:Hid (∀(W:World),Below w.heap.size w W→Calls Tryz.prog 18 #[cobV r A] W (AnsB W (.int .i64 e)))):
    Calls Tryz.prog 10 #[cobV r A,.int .i64 key] w (AnsB w (.tuple #[.int .i64 0,.int .i64 e])):=by
 have ge:(e != 0)=true:=by simpa using he
 clear he;dsimp only [cobV] at *;go_enter Tryz.func10,Tryz.ntmps10
 go_upto_region 1 with (fail)
 generalize hw0:w.alloc _=w0;obtain ⟨hb0,hx⟩:=bxs_one (l1:=cobL r A) hw0;have HX:Hid (BXs w0 [(w.heap.size,35,cobL r A)]):=hid hx;have HB:=hid hb0;have hz0:=hb0.size;clear hw0 hb0 hx;have hl_m:w.heap.size<w0.heap.size:=bx_lt (HX.out.at 0 rfl);go_wp2_with (first|(refine wpl_load 35 (.tmp 2) (w.heap.size) (cobL r A) xk rfl rfl Tryz.underlying35 rfl xk (bx_pb (HX.out.at 0 rfl)) ?_))
 refine (CK.out _ HB.out).mono ?_;rintro e w1 ⟨rfl,hb⟩;replace HX:=hid (HX.out.below hb);replace HB:=xv hb HB;have hz1:=hb.size;clear hb;go_wp2
 go_ret2
 exact ⟨rfl,HB.out⟩
theorem Get21_c (r:CobR) (A:CobA) (key:Int) (w:World) (v:Int) (b:Bool)
    (CK:Hid (∀(W:World),Below w.heap.size w W→Calls Tryz.prog 18 #[cobV r A] W (AnsB W (.int .i64 0))))
    (VL:Hid (∀(W:World),Below w.heap.size w W→Calls Tryz.prog 34 #[.agg (pmL r.c r.s A.sa).toArray,.int .i64 key] W (AnsB W (.tuple #[.int .i64 v,.bool b])))):
    Calls Tryz.prog 10 #[cobV r A,.int .i64 key] w (AnsB w (.tuple #[.int .i64 (if b=true then v else 0),.int .i64 (if b=true then 0 else 6)])):=by
 cases b with
 | true=>
  rw [if_pos rfl,if_pos rfl];dsimp only [cobV] at *;go_enter Tryz.func10,Tryz.ntmps10
  go_upto_region 1 with (fail)
  generalize hw0:w.alloc _=w0;obtain ⟨hb0,hx⟩:=bxs_one (l1:=cobL r A) hw0;have HX:Hid (BXs w0 [(w.heap.size,35,cobL r A)]):=hid hx;have HB:=hid hb0;have hz0:=hb0.size;clear hw0 hb0 hx;have hl_m:w.heap.size<w0.heap.size:=bx_lt (HX.out.at 0 rfl);go_wp2_with (first|(refine wpl_load 35 (.tmp 2) (w.heap.size) (cobL r A) xk rfl rfl Tryz.underlying35 rfl xk (bx_pb (HX.out.at 0 rfl)) ?_))
  refine (CK.out _ HB.out).mono ?_;rintro e w1 ⟨rfl,hb⟩;replace HX:=hid (HX.out.below hb);replace HB:=xv hb HB;have hz1:=hb.size;clear hb;go_wp2_with (first|(refine wpl_load_mid 31 (.tmp 15) (w.heap.size) 0 (pmL r.c r.s A.sa) xk rfl rfl Tryz.underlying31 rfl xk (bx_part (HX.out.at 0 rfl) 0 rfl) ?_))
  refine (VL.out _ HB.out).mono ?_;rintro e w2 ⟨rfl,hb⟩;replace HX:=hid (HX.out.below hb);replace HB:=xv hb HB;have hz2:=hb.size;clear hb;go_wp2
  go_ret2
  exact ⟨rfl,HB.out⟩
 | false=>
  rw [if_neg xdd,if_neg xdd];dsimp only [cobV] at *;go_enter Tryz.func10,Tryz.ntmps10
  go_upto_region 1 with (fail)
  generalize hw0:w.alloc _=w0;obtain ⟨hb0,hx⟩:=bxs_one (l1:=cobL r A) hw0;have HX:Hid (BXs w0 [(w.heap.size,35,cobL r A)]):=hid hx;have HB:=hid hb0;have hz0:=hb0.size;clear hw0 hb0 hx;have hl_m:w.heap.size<w0.heap.size:=bx_lt (HX.out.at 0 rfl);go_wp2_with (first|(refine wpl_load 35 (.tmp 2) (w.heap.size) (cobL r A) xk rfl rfl Tryz.underlying35 rfl xk (bx_pb (HX.out.at 0 rfl)) ?_))
  refine (CK.out _ HB.out).mono ?_;rintro e w1 ⟨rfl,hb⟩;replace HX:=hid (HX.out.below hb);replace HB:=xv hb HB;have hz1:=hb.size;clear hb;go_wp2_with (first|(refine wpl_load_mid 31 (.tmp 15) (w.heap.size) 0 (pmL r.c r.s A.sa) xk rfl rfl Tryz.underlying31 rfl xk (bx_part (HX.out.at 0 rfl) 0 rfl) ?_))
  refine (VL.out _ HB.out).mono ?_;rintro e w2 ⟨rfl,hb⟩;replace HX:=hid (HX.out.below hb);replace HB:=xv hb HB;have hz2:=hb.size;clear hb;go_wp2
  go_ret2
  exact ⟨rfl,HB.out⟩
theorem Rank21_e (r:CobR) (A:CobA) (key:Int) (w:World) (e:Int) (he:e≠0)
    (CK:Hid (∀(W:World),Below w.heap.size w W→Calls Tryz.prog 18 #[cobV r A] W (AnsB W (.int .i64 e)))):
    Calls Tryz.prog 12 #[cobV r A,.int .i64 key] w (AnsB w (.tuple #[.int .i64 0,.int .i64 e])):=by
 have ge:(e != 0)=true:=by simpa using he
 clear he;dsimp only [cobV] at *;go_enter Tryz.func12,Tryz.ntmps12
 go_upto_region 1 with (fail)
 generalize hw0:w.alloc _=w0;obtain ⟨hb0,hx⟩:=bxs_one (l1:=cobL r A) hw0;have HX:Hid (BXs w0 [(w.heap.size,35,cobL r A)]):=hid hx;have HB:=hid hb0;have hz0:=hb0.size;clear hw0 hb0 hx;have hl_m:w.heap.size<w0.heap.size:=bx_lt (HX.out.at 0 rfl);go_wp2_with (first|(refine wpl_load 35 (.tmp 2) (w.heap.size) (cobL r A) xk rfl rfl Tryz.underlying35 rfl xk (bx_pb (HX.out.at 0 rfl)) ?_))
 refine (CK.out _ HB.out).mono ?_;rintro e w1 ⟨rfl,hb⟩;replace HX:=hid (HX.out.below hb);replace HB:=xv hb HB;have hz1:=hb.size;clear hb;go_wp2
 go_ret2
 exact ⟨rfl,HB.out⟩
theorem Rank21_y (r:CobR) (A:CobA) (key:Int) (w:World) (L:List (Int×Int)) (n:Int)
    (CK:Hid (∀(W:World),Below w.heap.size w W→Calls Tryz.prog 18 #[cobV r A] W (AnsB W (.int .i64 0))))
    (PR:Hid (∀(W:World),Below w.heap.size w W→Calls Tryz.prog 36 #[.agg (pmL r.c r.s A.sa).toArray] W (FreshPr W L)))
    (BE:Hid (∀(W:World) (la:Option Addr) (pl:Nat),Below w.heap.size w W→IsRow .i64 W la (prI L)→Calls Tryz.prog 35 #[.slice la L.length pl,.int .i64 key] W (AnsB W (.int .i64 n)))):
    Calls Tryz.prog 12 #[cobV r A,.int .i64 key] w (AnsB w (.tuple #[.int .i64 n,.int .i64 0])):=by
 dsimp only [cobV] at *;go_enter Tryz.func12,Tryz.ntmps12
 go_upto_region 1 with (fail)
 generalize hw0:w.alloc _=w0;obtain ⟨hb0,hx⟩:=bxs_one (l1:=cobL r A) hw0;have HX:Hid (BXs w0 [(w.heap.size,35,cobL r A)]):=hid hx;have HB:=hid hb0;have hz0:=hb0.size;clear hw0 hb0 hx;have hl_m:w.heap.size<w0.heap.size:=bx_lt (HX.out.at 0 rfl);go_wp2_with (first|(refine wpl_load 35 (.tmp 2) (w.heap.size) (cobL r A) xk rfl rfl Tryz.underlying35 rfl xk (bx_pb (HX.out.at 0 rfl)) ?_))
 refine (CK.out _ HB.out).mono ?_;rintro e w1 ⟨rfl,hb⟩;replace HX:=hid (HX.out.below hb);replace HB:=xv hb HB;have hz1:=hb.size;clear hb;go_wp2_with (first|(refine wpl_load_mid 31 (.tmp 12) (w.heap.size) 0 (pmL r.c r.s A.sa) xk rfl rfl Tryz.underlying31 rfl xk (bx_part (HX.out.at 0 rfl) 0 rfl) ?_))
 refine (PR.out _ HB.out).mono ?_;rintro e w2 ⟨v,rfl,ho,hb⟩;replace HX:=hid (HX.out.below hb);replace HB:=xv hb HB;have hz2:=hb.size;obtain ⟨la,pl,rfl,hla,-⟩:=row_of_owns ho;have HR:=hid hla;clear ho hla hb;go_wp2_with (fail)
 refine (BE.out _ la pl HB.out HR.out).mono ?_;rintro e w3 ⟨rfl,hb⟩;replace HX:=hid (HX.out.below hb);replace HB:=xv hb HB;have hz3:=hb.size;clear hb;go_wp2
 go_ret2
 exact ⟨rfl,HB.out⟩
theorem Next21_e (r:CobR) (A:CobA) (key:Int) (w:World) (e:Int) (he:e≠0)
    (CK:Hid (∀(W:World),Below w.heap.size w W→Calls Tryz.prog 18 #[cobV r A] W (AnsB W (.int .i64 e)))):
    Calls Tryz.prog 14 #[cobV r A,.int .i64 key] w (AnsB w (.tuple #[prV (0,0),.int .i64 e])):=by
 have ge:(e != 0)=true:=by simpa using he
 clear he;dsimp only [cobV] at *;go_enter Tryz.func14,Tryz.ntmps14
 go_upto_region 1 with (fail)
 generalize hw0:(w.alloc _).alloc _=w0;obtain ⟨hb0,hx⟩:=bxs_two (l1:=cobL r A) (l2:=prL (0,0)) hw0;have HX:Hid (BXs w0 [(w.heap.size+1,52,prL (0,0)),(w.heap.size,35,cobL r A)]):=hid hx;have HB:=hid hb0;have hz0:=hb0.size;clear hw0 hb0 hx;have hl_o:w.heap.size+1<w0.heap.size:=bx_lt (HX.out.at 0 rfl);have hl_m:w.heap.size<w0.heap.size:=bx_lt (HX.out.at 1 rfl);go_wp2_with (first|(refine wpl_load 35 (.tmp 2) (w.heap.size) (cobL r A) xk rfl rfl Tryz.underlying35 rfl xk (bx_pb (HX.out.at 1 rfl)) ?_))
 refine (CK.out _ HB.out).mono ?_;rintro e w1 ⟨rfl,hb⟩;replace HX:=hid (HX.out.below hb);replace HB:=xv hb HB;have hz1:=hb.size;clear hb;go_wp2_with (first|(refine wpl_store_row 52 (.tmp 4) (.tmp 13) (w.heap.size+1) (prL (0,0)) (prL (0,0)) rfl rfl rfl rfl xk rfl (prL_one _) (HX.out.at 0 rfl) ?_;intro w2 hs hx))
 exact bodyPost_ret (results_ct rfl rfl (run_loadVar_many _ Tryz.underlying52 rfl xk (bx_pb hx))) rfl ⟨rfl,HB.out.trans (hs.bel _ xo)⟩
theorem Next21_c (r:CobR) (A:CobA) (key:Int) (w:World) (L:List (Int×Int)) (p:Int×Int) (b:Bool)
    (CK:Hid (∀(W:World),Below w.heap.size w W→Calls Tryz.prog 18 #[cobV r A] W (AnsB W (.int .i64 0))))
    (PR:Hid (∀(W:World),Below w.heap.size w W→Calls Tryz.prog 36 #[.agg (pmL r.c r.s A.sa).toArray] W (FreshPr W L)))
    (CE:Hid (∀(W:World) (la:Option Addr) (pl:Nat),Below w.heap.size w W→IsRow .i64 W la (prI L)→Calls Tryz.prog 37 #[.slice la L.length pl,.int .i64 key] W (AnsB W (.tuple #[prV p,.bool b])))):
    Calls Tryz.prog 14 #[cobV r A,.int .i64 key] w (AnsB w (.tuple #[prV (if b=true then p else (0,0)),.int .i64 (if b=true then 0 else 6)])):=by
 cases b with
 | true=>
  rw [if_pos rfl,if_pos rfl];dsimp only [cobV] at *;go_enter Tryz.func14,Tryz.ntmps14
  go_upto_region 1 with (fail)
  generalize hw0:(w.alloc _).alloc _=w0;obtain ⟨hb0,hx⟩:=bxs_two (l1:=cobL r A) (l2:=prL (0,0)) hw0;have HX:Hid (BXs w0 [(w.heap.size+1,52,prL (0,0)),(w.heap.size,35,cobL r A)]):=hid hx;have HB:=hid hb0;have hz0:=hb0.size;clear hw0 hb0 hx;have hl_o:w.heap.size+1<w0.heap.size:=bx_lt (HX.out.at 0 rfl);have hl_m:w.heap.size<w0.heap.size:=bx_lt (HX.out.at 1 rfl);go_wp2_with (first|(refine wpl_load 35 (.tmp 2) (w.heap.size) (cobL r A) xk rfl rfl Tryz.underlying35 rfl xk (bx_pb (HX.out.at 1 rfl)) ?_))
  refine (CK.out _ HB.out).mono ?_;rintro e w1 ⟨rfl,hb⟩;replace HX:=hid (HX.out.below hb);replace HB:=xv hb HB;have hz1:=hb.size;clear hb;go_wp2_with (first|(refine wpl_load_mid 31 (.tmp 16) (w.heap.size) 0 (pmL r.c r.s A.sa) xk rfl rfl Tryz.underlying31 rfl xk (bx_part (HX.out.at 1 rfl) 0 rfl) ?_))
  refine (PR.out _ HB.out).mono ?_;rintro e w2 ⟨v,rfl,ho,hb⟩;replace HX:=hid (HX.out.below hb);replace HB:=xv hb HB;have hz2:=hb.size;obtain ⟨la,pl,rfl,hla,-⟩:=row_of_owns ho;have HR:=hid hla;clear ho hla hb;go_wp2_with (fail)
  refine (CE.out _ la pl HB.out HR.out).mono ?_;rintro e w3 ⟨rfl,hb⟩;replace HX:=hid (HX.out.below hb);replace HB:=xv hb HB;have hz3:=hb.size;clear hb;go_upto_region 5 with (first|(refine wpl_store_new 52 (.tmp 7) (.tmp 21) (prL (0,0)).toArray (prL p).toArray rfl rfl rfl rfl xk rfl (prL_one _) ?_))
  have hx:=bx_new w3 (prL p) 52;have hb:=(Below.refl w3.heap.size w3).alloc (Nat.le_refl _) (.cells (prL p).toArray 52);generalize w3.alloc _=w4 at *;replace HX:=hid (HX.out.below hb);replace HB:=xv hb HB;have hz4:=hb.size;have hl_q:=bx_lt hx;replace HX:=hid (HX.out.cons' hx);clear hx hb;go_wp2_with (first|(refine wpl_load 52 (.tmp 7) (w3.heap.size) (prL p) xk rfl rfl Tryz.underlying52 rfl xk (bx_pb (HX.out.at 0 rfl)) ?_)|(refine wpl_store_row 52 (.tmp 4) (.tmp 26) (w.heap.size+1) (prL (0,0)) (prL p) rfl rfl rfl rfl xk rfl (prL_one _) (HX.out.at 1 rfl) ?_;intro w5 hs hx))
  exact bodyPost_ret (results_ct rfl rfl (run_loadVar_many _ Tryz.underlying52 rfl xk (bx_pb hx))) rfl ⟨rfl,HB.out.trans (hs.bel _ xo)⟩
 | false=>
  rw [if_neg xdd,if_neg xdd];dsimp only [cobV] at *;go_enter Tryz.func14,Tryz.ntmps14
  go_upto_region 1 with (fail)
  generalize hw0:(w.alloc _).alloc _=w0;obtain ⟨hb0,hx⟩:=bxs_two (l1:=cobL r A) (l2:=prL (0,0)) hw0;have HX:Hid (BXs w0 [(w.heap.size+1,52,prL (0,0)),(w.heap.size,35,cobL r A)]):=hid hx;have HB:=hid hb0;have hz0:=hb0.size;clear hw0 hb0 hx;have hl_o:w.heap.size+1<w0.heap.size:=bx_lt (HX.out.at 0 rfl);have hl_m:w.heap.size<w0.heap.size:=bx_lt (HX.out.at 1 rfl);go_wp2_with (first|(refine wpl_load 35 (.tmp 2) (w.heap.size) (cobL r A) xk rfl rfl Tryz.underlying35 rfl xk (bx_pb (HX.out.at 1 rfl)) ?_))
  refine (CK.out _ HB.out).mono ?_;rintro e w1 ⟨rfl,hb⟩;replace HX:=hid (HX.out.below hb);replace HB:=xv hb HB;have hz1:=hb.size;clear hb;go_wp2_with (first|(refine wpl_load_mid 31 (.tmp 16) (w.heap.size) 0 (pmL r.c r.s A.sa) xk rfl rfl Tryz.underlying31 rfl xk (bx_part (HX.out.at 1 rfl) 0 rfl) ?_))
  refine (PR.out _ HB.out).mono ?_;rintro e w2 ⟨v,rfl,ho,hb⟩;replace HX:=hid (HX.out.below hb);replace HB:=xv hb HB;have hz2:=hb.size;obtain ⟨la,pl,rfl,hla,-⟩:=row_of_owns ho;have HR:=hid hla;clear ho hla hb;go_wp2_with (fail)
  refine (CE.out _ la pl HB.out HR.out).mono ?_;rintro e w3 ⟨rfl,hb⟩;replace HX:=hid (HX.out.below hb);replace HB:=xv hb HB;have hz3:=hb.size;clear hb;go_upto_region 5 with (first|(refine wpl_store_new 52 (.tmp 7) (.tmp 21) (prL (0,0)).toArray (prL p).toArray rfl rfl rfl rfl xk rfl (prL_one _) ?_))
  have hx:=bx_new w3 (prL p) 52;have hb:=(Below.refl w3.heap.size w3).alloc (Nat.le_refl _) (.cells (prL p).toArray 52);generalize w3.alloc _=w4 at *;replace HX:=hid (HX.out.below hb);replace HB:=xv hb HB;have hz4:=hb.size;have hl_q:=bx_lt hx;replace HX:=hid (HX.out.cons' hx);clear hx hb;go_wp2_with (first|(refine wpl_store_row 52 (.tmp 4) (.tmp 25) (w.heap.size+1) (prL (0,0)) (prL (0,0)) rfl rfl rfl rfl xk rfl (prL_one _) (HX.out.at 1 rfl) ?_;intro w5 hs hx))
  exact bodyPost_ret (results_ct rfl rfl (run_loadVar_many _ Tryz.underlying52 rfl xk (bx_pb hx))) rfl ⟨rfl,HB.out.trans (hs.bel _ xo)⟩
theorem Sel21_e (r:CobR) (A:CobA) (key:Int) (w:World) (e:Int) (he:e≠0)
    (CK:Hid (∀(W:World),Below w.heap.size w W→Calls Tryz.prog 18 #[cobV r A] W (AnsB W (.int .i64 e)))):
    Calls Tryz.prog 16 #[cobV r A,.int .i64 key] w (AnsB w (.tuple #[prV (0,0),.int .i64 e])):=by
 have ge:(e != 0)=true:=by simpa using he
 clear he;dsimp only [cobV] at *;go_enter Tryz.func16,Tryz.ntmps16
 go_upto_region 1 with (fail)
 generalize hw0:(w.alloc _).alloc _=w0;obtain ⟨hb0,hx⟩:=bxs_two (l1:=cobL r A) (l2:=prL (0,0)) hw0;have HX:Hid (BXs w0 [(w.heap.size+1,52,prL (0,0)),(w.heap.size,35,cobL r A)]):=hid hx;have HB:=hid hb0;have hz0:=hb0.size;clear hw0 hb0 hx;have hl_o:w.heap.size+1<w0.heap.size:=bx_lt (HX.out.at 0 rfl);have hl_m:w.heap.size<w0.heap.size:=bx_lt (HX.out.at 1 rfl);go_wp2_with (first|(refine wpl_load 35 (.tmp 2) (w.heap.size) (cobL r A) xk rfl rfl Tryz.underlying35 rfl xk (bx_pb (HX.out.at 1 rfl)) ?_))
 refine (CK.out _ HB.out).mono ?_;rintro e w1 ⟨rfl,hb⟩;replace HX:=hid (HX.out.below hb);replace HB:=xv hb HB;have hz1:=hb.size;clear hb;go_wp2_with (first|(refine wpl_store_row 52 (.tmp 4) (.tmp 12) (w.heap.size+1) (prL (0,0)) (prL (0,0)) rfl rfl rfl rfl xk rfl (prL_one _) (HX.out.at 0 rfl) ?_;intro w2 hs hx))
 exact bodyPost_ret (results_ct rfl rfl (run_loadVar_many _ Tryz.underlying52 rfl xk (bx_pb hx))) rfl ⟨rfl,HB.out.trans (hs.bel _ xo)⟩
theorem Sel21_n (r:CobR) (A:CobA) (key:Int) (w:World) (L:List (Int×Int)) (hL:L.length≤100000) (hk:key<0)
    (CK:Hid (∀(W:World),Below w.heap.size w W→Calls Tryz.prog 18 #[cobV r A] W (AnsB W (.int .i64 0))))
    (PR:Hid (∀(W:World),Below w.heap.size w W→Calls Tryz.prog 36 #[.agg (pmL r.c r.s A.sa).toArray] W (FreshPr W L))):
    Calls Tryz.prog 16 #[cobV r A,.int .i64 key] w (AnsB w (.tuple #[prV (0,0),.int .i64 290])):=by
 dsimp only [cobV] at *;go_enter Tryz.func16,Tryz.ntmps16
 go_upto_region 1 with (fail)
 generalize hw0:(w.alloc _).alloc _=w0;obtain ⟨hb0,hx⟩:=bxs_two (l1:=cobL r A) (l2:=prL (0,0)) hw0;have HX:Hid (BXs w0 [(w.heap.size+1,52,prL (0,0)),(w.heap.size,35,cobL r A)]):=hid hx;have HB:=hid hb0;have hz0:=hb0.size;clear hw0 hb0 hx;have hl_o:w.heap.size+1<w0.heap.size:=bx_lt (HX.out.at 0 rfl);have hl_m:w.heap.size<w0.heap.size:=bx_lt (HX.out.at 1 rfl);go_wp2_with (first|(refine wpl_load 35 (.tmp 2) (w.heap.size) (cobL r A) xk rfl rfl Tryz.underlying35 rfl xk (bx_pb (HX.out.at 1 rfl)) ?_))
 refine (CK.out _ HB.out).mono ?_;rintro e w1 ⟨rfl,hb⟩;replace HX:=hid (HX.out.below hb);replace HB:=xv hb HB;have hz1:=hb.size;clear hb;go_wp2_with (first|(refine wpl_load_mid 31 (.tmp 14) (w.heap.size) 0 (pmL r.c r.s A.sa) xk rfl rfl Tryz.underlying31 rfl xk (bx_part (HX.out.at 1 rfl) 0 rfl) ?_))
 refine (PR.out _ HB.out).mono ?_;rintro e w2 ⟨v,rfl,ho,hb⟩;replace HX:=hid (HX.out.below hb);replace HB:=xv hb HB;have hz2:=hb.size;obtain ⟨la,pl,rfl,hla,-⟩:=row_of_owns ho;have HR:=hid hla;clear ho hla hb;have g0:decide (key<0)=true:=by simpa using hk
 go_wp2_with (first|(refine wpl_store_row 52 (.tmp 4) (.tmp 25) (w.heap.size+1) (prL (0,0)) (prL (0,0)) rfl rfl rfl rfl xk rfl (prL_one _) (HX.out.at 0 rfl) ?_;intro w3 hs hx))
 exact bodyPost_ret (results_ct rfl rfl (run_loadVar_many _ Tryz.underlying52 rfl xk (bx_pb hx))) rfl ⟨rfl,HB.out.trans (hs.bel _ xo)⟩
theorem Sel21_g (r:CobR) (A:CobA) (key:Int) (w:World) (L:List (Int×Int)) (hL:L.length≤100000) (hk0:0≤key) (hk:(L.length:Int)≤key)
    (CK:Hid (∀(W:World),Below w.heap.size w W→Calls Tryz.prog 18 #[cobV r A] W (AnsB W (.int .i64 0))))
    (PR:Hid (∀(W:World),Below w.heap.size w W→Calls Tryz.prog 36 #[.agg (pmL r.c r.s A.sa).toArray] W (FreshPr W L))):
    Calls Tryz.prog 16 #[cobV r A,.int .i64 key] w (AnsB w (.tuple #[prV (0,0),.int .i64 290])):=by
 dsimp only [cobV] at *;go_enter Tryz.func16,Tryz.ntmps16
 go_upto_region 1 with (fail)
 generalize hw0:(w.alloc _).alloc _=w0;obtain ⟨hb0,hx⟩:=bxs_two (l1:=cobL r A) (l2:=prL (0,0)) hw0;have HX:Hid (BXs w0 [(w.heap.size+1,52,prL (0,0)),(w.heap.size,35,cobL r A)]):=hid hx;have HB:=hid hb0;have hz0:=hb0.size;clear hw0 hb0 hx;have hl_o:w.heap.size+1<w0.heap.size:=bx_lt (HX.out.at 0 rfl);have hl_m:w.heap.size<w0.heap.size:=bx_lt (HX.out.at 1 rfl);go_wp2_with (first|(refine wpl_load 35 (.tmp 2) (w.heap.size) (cobL r A) xk rfl rfl Tryz.underlying35 rfl xk (bx_pb (HX.out.at 1 rfl)) ?_))
 refine (CK.out _ HB.out).mono ?_;rintro e w1 ⟨rfl,hb⟩;replace HX:=hid (HX.out.below hb);replace HB:=xv hb HB;have hz1:=hb.size;clear hb;go_wp2_with (first|(refine wpl_load_mid 31 (.tmp 14) (w.heap.size) 0 (pmL r.c r.s A.sa) xk rfl rfl Tryz.underlying31 rfl xk (bx_part (HX.out.at 1 rfl) 0 rfl) ?_))
 refine (PR.out _ HB.out).mono ?_;rintro e w2 ⟨v,rfl,ho,hb⟩;replace HX:=hid (HX.out.below hb);replace HB:=xv hb HB;have hz2:=hb.size;obtain ⟨la,pl,rfl,hla,-⟩:=row_of_owns ho;have HR:=hid hla;clear ho hla hb;have g0:decide (key<0)=false:=by simpa using hk0
 have g1:decide ((L.length:Int)≤key)=true:=by simpa using hk
 go_wp2_with (first|(refine wpl_store_row 52 (.tmp 4) (.tmp 25) (w.heap.size+1) (prL (0,0)) (prL (0,0)) rfl rfl rfl rfl xk rfl (prL_one _) (HX.out.at 0 rfl) ?_;intro w3 hs hx))
 exact bodyPost_ret (results_ct rfl rfl (run_loadVar_many _ Tryz.underlying52 rfl xk (bx_pb hx))) rfl ⟨rfl,HB.out.trans (hs.bel _ xo)⟩
theorem Sel21_y (r:CobR) (A:CobA) (i:Nat) (w:World) (L:List (Int×Int)) (hL:L.length≤100000) (hk:i<L.length) (p:Int×Int) (hp:L.getD i (0,0)=p)
    (CK:Hid (∀(W:World),Below w.heap.size w W→Calls Tryz.prog 18 #[cobV r A] W (AnsB W (.int .i64 0))))
    (PR:Hid (∀(W:World),Below w.heap.size w W→Calls Tryz.prog 36 #[.agg (pmL r.c r.s A.sa).toArray] W (FreshPr W L))):
    Calls Tryz.prog 16 #[cobV r A,.int .i64 i] w (AnsB w (.tuple #[prV p,.int .i64 0])):=by
 have HP:=hid hp;clear hp;dsimp only [cobV] at *;go_enter Tryz.func16,Tryz.ntmps16
 go_upto_region 1 with (fail)
 generalize hw0:(w.alloc _).alloc _=w0;obtain ⟨hb0,hx⟩:=bxs_two (l1:=cobL r A) (l2:=prL (0,0)) hw0;have HX:Hid (BXs w0 [(w.heap.size+1,52,prL (0,0)),(w.heap.size,35,cobL r A)]):=hid hx;have HB:=hid hb0;have hz0:=hb0.size;clear hw0 hb0 hx;have hl_o:w.heap.size+1<w0.heap.size:=bx_lt (HX.out.at 0 rfl);have hl_m:w.heap.size<w0.heap.size:=bx_lt (HX.out.at 1 rfl);go_wp2_with (first|(refine wpl_load 35 (.tmp 2) (w.heap.size) (cobL r A) xk rfl rfl Tryz.underlying35 rfl xk (bx_pb (HX.out.at 1 rfl)) ?_))
 refine (CK.out _ HB.out).mono ?_;rintro e w1 ⟨rfl,hb⟩;replace HX:=hid (HX.out.below hb);replace HB:=xv hb HB;have hz1:=hb.size;clear hb;go_wp2_with (first|(refine wpl_load_mid 31 (.tmp 14) (w.heap.size) 0 (pmL r.c r.s A.sa) xk rfl rfl Tryz.underlying31 rfl xk (bx_part (HX.out.at 1 rfl) 0 rfl) ?_))
 refine (PR.out _ HB.out).mono ?_;rintro e w2 ⟨v,rfl,ho,hb⟩;replace HX:=hid (HX.out.below hb);replace HB:=xv hb HB;have hz2:=hb.size;obtain ⟨la,pl,rfl,hla,-⟩:=row_of_owns ho;have HR:=hid hla;clear ho hla hb;have g0:decide ((i:Int)<0)=false:=decide_eq_false xo;have g1:decide ((L.length:Int)≤(i:Int))=false:=decide_eq_false xo;obtain ⟨bl,ol,rfl,y0,y1,zl⟩:=pr_get HR.out hk;rw [HP.out] at y0 y1;go_wp2_with (first|(refine wpl_store_row 52 (.tmp 4) (.tmp 29) (w.heap.size+1) (prL (0,0)) (prL p) rfl rfl rfl rfl xk rfl (prL_one _) (HX.out.at 0 rfl) ?_;intro w3 hs hx))
 exact bodyPost_ret (results_ct rfl rfl (run_loadVar_many _ Tryz.underlying52 rfl xk (bx_pb hx))) rfl ⟨rfl,HB.out.trans (hs.bel _ xo)⟩
end
section
open Go.RowKit Go.Shelf Go.Sort
attribute [local go_sem] Oper.semAt_some
theorem cbSel_e (r:CobR) (A:CobA) (key:Int) (w:World) (e:Int) (he:e≠0)
    (CK:Hid (∀(W:World),Below w.heap.size w W→Calls Tryz.prog 17 #[cobV r A] W (AnsB W (.int .i64 e)))):
    Calls Tryz.prog 15 #[cobV r A,.int .i64 key] w (AnsB w (.tuple #[prV (0,0),.int .i64 e])):=by
 have ge:(e != 0)=true:=by simpa using he
 clear he;dsimp only [cobV] at *;refine calls_of_wp_m Tryz.func15 rfl ?_;simp only [Tryz.ntmps15,List.size_toArray,List.length_cons,List.length_nil,Nat.reduceAdd,Nat.reduceSub,Array.replicate_succ,Array.replicate_zero,List.push_toArray,List.append_toArray,List.nil_append,List.cons_append];go_upto_region 1 with (fail)
 generalize hw0:((w.alloc _).alloc _).alloc _=w0;obtain ⟨hb0,hx⟩:=bxs_three (l1:=cobL r A) (l2:=prL (0,0)) (l3:=[.int .i64 0]) hw0;have HX:Hid (BXs w0 [(w.heap.size+1+1,38,[.int .i64 0]),(w.heap.size+1,52,prL (0,0)),(w.heap.size,35,cobL r A)]):=hid hx;have HB:=hid hb0;have hz0:=hb0.size;clear hw0 hb0 hx;have hl_e:w.heap.size+1+1<w0.heap.size:=bx_lt (HX.out.at 0 rfl);have hl_o:w.heap.size+1<w0.heap.size:=bx_lt (HX.out.at 1 rfl);have hl_m:w.heap.size<w0.heap.size:=bx_lt (HX.out.at 2 rfl);go_wp2_with (first|(refine wpl_load 35 (.tmp 2) (w.heap.size) (cobL r A) xk rfl rfl Tryz.underlying35 rfl xk (bx_pb (HX.out.at 2 rfl)) ?_))
 refine (CK.out _ HB.out).mono ?_;rintro e w1 ⟨rfl,hb⟩;replace HX:=hid (HX.out.below hb);replace HB:=xv hb HB;have hz1:=hb.size;clear hb;go_wp2_with (first|(refine wpl_store_row 52 (.tmp 4) (.tmp 17) (w.heap.size+1) (prL (0,0)) (prL (0,0)) rfl rfl rfl rfl xk rfl (prL_one _) (HX.out.at 1 rfl) ?_;intro w9 hs hx;have he9:=hs.bx (HX.out.at 0 rfl) xo;have ce:=bx_pb he9 0 _ rfl;have fe:=bx_frozen he9 (i:=0) (by show (0:Nat)<1;decide);have H9:=hid (And.intro hs (And.intro hx he9));clear hs hx he9))
 obtain ⟨hs,hx,he9⟩:=H9.out;have hr:=rowR_cell w9 (w.heap.size+1+1) 0 (.int .i64 e);exact postM_none (results_cc rfl rfl rfl (run_loadVar_many _ Tryz.underlying52 rfl xk (bx_pb (hr.bx hx xo))) (run_loadVar_one Tryz.underlying38 rfl (bx_pb (bx_set he9 0 _) 0 _ rfl))) ⟨rfl,(HB.out.trans (hs.bel _ xo)).trans (hr.bel _ xo)⟩
theorem cbSel_n (r:CobR) (A:CobA) (key:Int) (w:World) (x:Int) (hx0:x≠0)
    (CK:Hid (∀(W:World),Below w.heap.size w W→Calls Tryz.prog 17 #[cobV r A] W (AnsB W (.int .i64 0))))
    (NT:Hid (∀(W:World),Below w.heap.size w W→Calls Tryz.prog 38 #[.agg (ixL r A).toArray,.int .i64 key] W (AnsB W (.tuple #[.int .i64 0,.int .i64 0,.int .i64 x])))):
    Calls Tryz.prog 15 #[cobV r A,.int .i64 key] w (AnsB w (.tuple #[prV (0,0),.int .i64 x])):=by
 have gx:(x != 0)=true:=by simpa using hx0
 clear hx0;dsimp only [cobV] at *;refine calls_of_wp_m Tryz.func15 rfl ?_;simp only [Tryz.ntmps15,List.size_toArray,List.length_cons,List.length_nil,Nat.reduceAdd,Nat.reduceSub,Array.replicate_succ,Array.replicate_zero,List.push_toArray,List.append_toArray,List.nil_append,List.cons_append];go_upto_region 1 with (fail)
 generalize hw0:((w.alloc _).alloc _).alloc _=w0;obtain ⟨hb0,hx⟩:=bxs_three (l1:=cobL r A) (l2:=prL (0,0)) (l3:=[.int .i64 0]) hw0;have HX:Hid (BXs w0 [(w.heap.size+1+1,38,[.int .i64 0]),(w.heap.size+1,52,prL (0,0)),(w.heap.size,35,cobL r A)]):=hid hx;have HB:=hid hb0;have hz0:=hb0.size;clear hw0 hb0 hx;have hl_e:w.heap.size+1+1<w0.heap.size:=bx_lt (HX.out.at 0 rfl);have hl_o:w.heap.size+1<w0.heap.size:=bx_lt (HX.out.at 1 rfl);have hl_m:w.heap.size<w0.heap.size:=bx_lt (HX.out.at 2 rfl);go_wp2_with (first|(refine wpl_load 35 (.tmp 2) (w.heap.size) (cobL r A) xk rfl rfl Tryz.underlying35 rfl xk (bx_pb (HX.out.at 2 rfl)) ?_))
 refine (CK.out _ HB.out).mono ?_;rintro e w1 ⟨rfl,hb⟩;replace HX:=hid (HX.out.below hb);replace HB:=xv hb HB;have hz1:=hb.size;clear hb;go_wp2_with (first|(refine wpl_load_mid 33 (.tmp 20) (w.heap.size) 15 (ixL r A) xk rfl rfl Tryz.underlying33 rfl xk (bx_part (HX.out.at 2 rfl) 15 rfl) ?_))
 refine (NT.out _ HB.out).mono ?_;rintro e w2 ⟨rfl,hb⟩;replace HX:=hid (HX.out.below hb);replace HB:=xv hb HB;have hz2:=hb.size;clear hb;go_upto_region 5 with (fail)
 have hx:=bx_new w2 [.int .i64 0] 3;have hb:=(Below.refl w2.heap.size w2).alloc (Nat.le_refl _) (.cells [.int .i64 0].toArray 3);generalize w2.alloc _=w3 at *;replace HX:=hid (HX.out.below hb);replace HB:=xv hb HB;have hz3:=hb.size;replace HX:=hid (HX.out.cons' hx);clear hx hb;go_wp2_with (first|(refine wpl_store_row 52 (.tmp 4) (.tmp 29) (w.heap.size+1) (prL (0,0)) (prL (0,0)) rfl rfl rfl rfl xk rfl (prL_one _) (HX.out.at 2 rfl) ?_;intro w9 hs hx;have he9:=hs.bx (HX.out.at 1 rfl) xo;have ce:=bx_pb he9 0 _ rfl;have fe:=bx_frozen he9 (i:=0) (by show (0:Nat)<1;decide);have H9:=hid (And.intro hs (And.intro hx he9));clear hs hx he9))
 obtain ⟨hs,hx,he9⟩:=H9.out;have hr:=rowR_cell w9 (w.heap.size+1+1) 0 (.int .i64 x);exact postM_none (results_cc rfl rfl rfl (run_loadVar_many _ Tryz.underlying52 rfl xk (bx_pb (hr.bx hx xo))) (run_loadVar_one Tryz.underlying38 rfl (bx_pb (bx_set he9 0 _) 0 _ rfl))) ⟨rfl,(HB.out.trans (hs.bel _ xo)).trans (hr.bel _ xo)⟩
theorem cbSel_y (r:CobR) (A:CobA) (key:Int) (w:World) (i s:Nat) (L:List (Int×Int)) (hL:L.length≤65536) (hsl:s<L.length) (p:Int×Int) (hp:L.getD s (0,0)=p)
    (CK:Hid (∀(W:World),Below w.heap.size w W→Calls Tryz.prog 17 #[cobV r A] W (AnsB W (.int .i64 0))))
    (NT:Hid (∀(W:World),Below w.heap.size w W→Calls Tryz.prog 38 #[.agg (ixL r A).toArray,.int .i64 key] W (AnsB W (.tuple #[.int .i64 i,.int .i64 s,.int .i64 0]))))
    (IT:Hid (∀(W:World) (b1 b2 bu:Nat),Below w.heap.size w W→W.cell? ⟨b1,0,none⟩=some (.pointer (some ⟨bu,0,none⟩))→W.cell? ⟨b2,0,none⟩=some (.int .i64 i)→BX W bu 76 (cobL r A)→Iter Tryz.prog 62 #[.pointer (some ⟨b1,0,none⟩),.pointer (some ⟨b2,0,none⟩)] (leafX L) KpC W)):
    Calls Tryz.prog 15 #[cobV r A,.int .i64 key] w (AnsB w (.tuple #[prV p,.int .i64 0])):=by
 have HP:=hid hp;clear hp;dsimp only [cobV] at *;refine calls_of_wp_m Tryz.func15 rfl ?_;simp only [Tryz.ntmps15,List.size_toArray,List.length_cons,List.length_nil,Nat.reduceAdd,Nat.reduceSub,Array.replicate_succ,Array.replicate_zero,List.push_toArray,List.append_toArray,List.nil_append,List.cons_append];go_upto_region 1 with (fail)
 generalize hw0:((w.alloc _).alloc _).alloc _=w0;obtain ⟨hb0,hx⟩:=bxs_three (l1:=cobL r A) (l2:=prL (0,0)) (l3:=[.int .i64 0]) hw0;have HX:Hid (BXs w0 [(w.heap.size+1+1,38,[.int .i64 0]),(w.heap.size+1,52,prL (0,0)),(w.heap.size,35,cobL r A)]):=hid hx;have HB:=hid hb0;have hz0:=hb0.size;clear hw0 hb0 hx;have hl_e:w.heap.size+1+1<w0.heap.size:=bx_lt (HX.out.at 0 rfl);have hl_o:w.heap.size+1<w0.heap.size:=bx_lt (HX.out.at 1 rfl);have hl_m:w.heap.size<w0.heap.size:=bx_lt (HX.out.at 2 rfl);go_wp2_with (first|(refine wpl_load 35 (.tmp 2) (w.heap.size) (cobL r A) xk rfl rfl Tryz.underlying35 rfl xk (bx_pb (HX.out.at 2 rfl)) ?_))
 refine (CK.out _ HB.out).mono ?_;rintro e w1 ⟨rfl,hb⟩;replace HX:=hid (HX.out.below hb);replace HB:=xv hb HB;have hz1:=hb.size;clear hb;go_wp2_with (first|(refine wpl_load_mid 33 (.tmp 20) (w.heap.size) 15 (ixL r A) xk rfl rfl Tryz.underlying33 rfl xk (bx_part (HX.out.at 2 rfl) 15 rfl) ?_))
 refine (NT.out _ HB.out).mono ?_;rintro e w2 ⟨rfl,hb⟩;replace HX:=hid (HX.out.below hb);replace HB:=xv hb HB;have hz2:=hb.size;clear hb;go_upto_region 5 with (fail)
 have hx:=bx_new w2 [.int .i64 s] 3;have hb:=(Below.refl w2.heap.size w2).alloc (Nat.le_refl _) (.cells [.int .i64 s].toArray 3);generalize w2.alloc _=w3 at *;replace HX:=hid (HX.out.below hb);replace HB:=xv hb HB;have hz3:=hb.size;replace HX:=hid (HX.out.cons' hx);clear hx hb;go_upto_region 8 with (first|(refine wpl_load 35 (.tmp 2) (w.heap.size) (cobL r A) xk rfl rfl Tryz.underlying35 rfl xk (bx_pb (HX.out.at 3 rfl)) ?_)|(refine wpl_build1 76 0 (.tmp 31) (.agg (cobL r A).toArray) (cobL r A).toArray xk rfl rfl (built_under r A) ?_))
 have hx:=bx_new w3 (cobL r A) 76;have hb:=(Below.refl w3.heap.size w3).alloc (Nat.le_refl _) (.cells (cobL r A).toArray 76);generalize w3.alloc _=w4 at *;replace HX:=hid (HX.out.below hb);replace HB:=xv hb HB;have hz4:=hb.size;replace HX:=hid (HX.out.cons' hx);clear hx hb;go_wp2_with (fail)
 refine (cbLeaf_ok _ _ _).mono ?_;rintro e w5 ⟨rfl,hw5⟩;obtain ⟨hb5,hx5⟩:=bxs_two (l1:=[.pointer (some ⟨w3.heap.size,0,none⟩)]) (l2:=[.int .i64 i]) hw5;have q1:=bx_pb (hx5.at 1 rfl) 0 _ rfl;have q2:=bx_pb (hx5.at 0 rfl) 0 _ rfl;have HL5:=hid (HX.out.below hb5);have IT5:=hid (IT.out w5 _ _ _ (below_via hb5 HB.out HB.out.size) q1 q2 (HL5.out.at 0 rfl));have HB5:=xv hb5 HB;have hz5:=hb5.size;clear hw5 hx5 q1 q2 hb5 HX HB;go_wp2
 refine wp_range_w (xs:=leafX L) (Kp:=KpC) rfl (enters_of Tryz.func62 xk rfl) IT5.out br (fun h k=>h.trans k) ?kb ?ps
   (fun k W=>BXs W [(w3.heap.size,76,cobL r A),(w2.heap.size,3,[.int .i64 s]),(w.heap.size+1+1,38,[.int .i64 0]),(w.heap.size+1,52,prL (0,0)),(w.heap.size,35,cobL r A)]∧Below w.heap.size w W∧w5.heap.size≤W.heap.size∧k≤s)
   (fun c W=>c= .ret∧BX W (w.heap.size+1) 52 (prL p)∧BX W (w.heap.size+1+1) 38 [.int .i64 0]∧Below w.heap.size w W) ?hI ?hX ?h0 ?round ?done ?stop
 case kb=>
  intro W q o o' hl hq ho k o2 hk ho2;exact (Calm.putObj (B:=0) o' (Nat.zero_le _) hq ho).cells k o2 hk ho2
 case ps=>
  intro x hx;simp only [leafX,List.mem_map] at hx;obtain ⟨k,_,rfl⟩:=hx;rfl
 case hI=>
  rintro k W W' ⟨h1,h2,h3,h4⟩ hc;exact ⟨h1.calm hc,hc.below HB5.out.size h2,Nat.le_trans h3 hc.size,h4⟩
 case hX=>
  rintro c W W' ⟨h0,h1,h3,h4⟩ hc;exact ⟨h0,hc.cells _ _ h1 rfl,hc.cells _ _ h3 rfl,hc.below HB5.out.size h4⟩
 case h0=>exact ⟨HL5.out,HB5.out,Nat.le_refl _,Nat.zero_le _⟩
 case done=>
  intro D W hD hi hK;have h1:=hi.2.2.2;rw [leafX_length] at h1;omega
 case stop=>
  intro D c W hD hX hK;obtain ⟨rfl,hp,he,hbel⟩:=hX;have hcalm:Calm w5.heap.size W (W.putObj D (.deferred none)):=Calm.putObj _ hD hK rfl;have H4:=hid (And.intro hp (And.intro he hbel));clear hp he hbel HL5 IT5;go_wp2
  exact postM_one hK (results_cc rfl rfl rfl (run_loadVar_many _ Tryz.underlying52 rfl xk (bx_pb (hcalm.cells _ _ H4.out.1 rfl))) (run_loadVar_one Tryz.underlying38 rfl (bx_pb (hcalm.cells _ _ H4.out.2.1 rfl) 0 _ rfl))) ⟨rfl,hcalm.below HB5.out.size H4.out.2.2⟩
 case round=>
  intro q k W hq hk hi;rw [leafX_length] at hk;rw [leafX_get L hk];obtain ⟨hbx,hbel,hzW,hks⟩:=hi;have HV:Hid (k=s→prL p=[.int .i64 (L.getD k (0,0)).1,.int .i64 (L.getD k (0,0)).2]):=hid fun h=>by
   subst h;rw [←HP.out];rfl
  generalize (L.getD k (0,0)).1=x at *;generalize (L.getD k (0,0)).2=y at *;have HBX:=hid hbx;have HBL:=hid hbel;have HKS:=hid hks;have HKL:=hid hk;have HSL:=hid hsl;clear hbx hbel HL5 IT5 hks hk hsl;gi_wp2
  have hab:Below W.heap.size W (W.alloc (.cells #[.int .i64 x,.int .i64 y] 52)):=br.alloc (Nat.le_refl _) _;refine ⟨keeps_below hab,KpC.below hab,?_⟩;intro W2 hc;have hks:=HKS.out;have hk:=HKL.out;have HX2:Hid (BXs W2 ((W.heap.size,52,[.int .i64 x,.int .i64 y])::[(w3.heap.size,76,cobL r A),(w2.heap.size,3,[.int .i64 s]),(w.heap.size+1+1,38,[.int .i64 0]),(w.heap.size+1,52,prL (0,0)),(w.heap.size,35,cobL r A)])):=hid ((bxs_more HBX.out [.int .i64 x,.int .i64 y] _).calm hc);have HB2:=hid (hc.below (by first|exact HB5.out.size|omega) (below_via hab HBL.out HBL.out.size));have hz6:W.heap.size<W2.heap.size:=bx_lt (HX2.out.at 0 rfl);have c8:=bx_pb (HX2.out.at 2 rfl) 0 _ rfl;clear hab hc HBX HBL;by_cases hkey:k=s
  · have he:((k:Int)==(s:Int))=true:=by simp;omega
    have HPP:=hid (HV.out hkey);have q0:=bx_pb (HX2.out.at 0 rfl) 0 _ rfl;have q1:=bx_pb (HX2.out.at 0 rfl) 1 _ rfl;have o0:=bx_pb (HX2.out.at 4 rfl) 0 _ rfl;have o1:=bx_pb (HX2.out.at 4 rfl) 1 _ rfl;have f0:=bx_frozen (HX2.out.at 4 rfl) (i:=0) (by show (0:Nat)<2;decide);have f1:=bx_frozen (HX2.out.at 4 rfl) (i:=1) (by show (1:Nat)<2;decide);have ce:=bx_pb (HX2.out.at 3 rfl) 0 _ rfl;have fe:=bx_frozen (HX2.out.at 3 rfl) (i:=0) (by show (0:Nat)<1;decide);clear hkey HV;gi_wp2
    have r4:=rowR_cell W2 (w.heap.size+1) 0 (.int .i64 x);have r5:=rowR_cell (W2.setCell ⟨w.heap.size+1,0,none⟩ (.int .i64 x)) (w.heap.size+1) 1 (.int .i64 y);have r6:=rowR_cell ((W2.setCell ⟨w.heap.size+1,0,none⟩ (.int .i64 x)).setCell ⟨w.heap.size+1,1,none⟩ (.int .i64 y)) (w.heap.size+1+1) 0 (.int .i64 0);refine ⟨((KeepsOthers.setCell _ _ _).trans (KeepsOthers.setCell _ _ _)).trans (KeepsOthers.setCell _ _ _),rfl,?_,bx_set (r5.bx (r4.bx (HX2.out.at 3 rfl) xo) xo) 0 _,((HB2.out.trans (r4.bel _ xo)).trans (r5.bel _ xo)).trans (r6.bel _ xo)⟩;rw [HPP.out];exact r6.bx (bx_set (bx_set (HX2.out.at 4 rfl) 0 _) 1 _) xo
  · have he:((k:Int)==(s:Int))=false:=by simp;omega
    clear HV;gi_wp2
    exact ⟨⟨Nat.le_refl _,fun _ _ h _=>h⟩,fun _ _ h _=>h,HX2.out.2,HB2.out,by omega,by have:=HKS.out;omega⟩
end
section
open Go.RowKit
end
end Go.Proofs.YtbedhbpgnfffmaaGreat

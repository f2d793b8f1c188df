/- Merged: CbAs, CbSl, IdxMay, IdxMayIx, DownFns, DownWayH, DownWayN, DownHome, CbJn, CbAlv, CbSpan, CbSpJn. -/
import Derived.Test.YtbedhbpgnfffmaaGreatDoorCobAnswersP11
import Derived.Test.YtbedhbpgnfffmaaGreatDoorCobAnswersP13
import Derived.Test.YtbedhbpgnfffmaaGreatDoorCobAnswersP8
import Derived.Test.YtbedhbpgnfffmaaGreatDoorCobAnswersP4
import Derived.Test.YtbedhbpgnfffmaaGreatDoorCobAnswersP3
import Derived.BigRegion
import Derived.Deep.CutRange
import Derived.Deep.CutBlock
import Derived.Laws.StructEq
import Derived.Lib.QuietBelow
import Derived.Test.YtbedhbpgnfffmaaGreatDoorCobAnswersP12
import Derived.Test.YtbedhbpgnfffmaaGreatDoorCobAnswersP9
namespace Go.Proofs.YtbedhbpgnfffmaaGreatDoor
set_option maxRecDepth 100000
set_option maxHeartbeats 40000000
set_option linter.unusedVariables false
set_option linter.unusedSimpArgs false
section
open Go.RowKit Go.Shelf Go.Sort
theorem nT {P:Program} {w:World} {ops:Array Oper} {rest:List Oper} {o:Oper} {a:Act} {Q:Exit->Act->World->Prop} (t:TypeId) (i:Nat) (x:Operand) (v:Value) (cs:Array Value) (hw:Region.wanted o (yielded ops a.tmps)=true) (ho:o.op= .build t #[(i,x)]) (hx:a.eval x=v)
    (hf:P.built t [(i,v)]=some cs) (h:wpList P ops Q rest (a.put o.dst (.agg cs)) w):wpList P ops Q (o::rest) a w:=by
 refine Go.BigFrame.wpList_want hw fun K hK=> ?_
 have e:P.built t ((#[(i,x)]:Array (Nat×Operand)).map fun (i,x)=>(i,a.eval x)).toList=some cs:=by simpa [hx] using hf
 refine wp_build t _ ho (by rw [e];rfl) ?_;rw [e];exact hK _ _ h
theorem mD (r:bK) (A:dZ):Tryz.prog.built 94 [(0,.agg (bz r A).toArray)]=some (bz r A).toArray:=by kernel_rfl
theorem ZQ (r:bK) (A:dZ) (key:Int) (w:World) (e:Int) (he:e≠0)
    (CK:Hid (∀(W:World),Below w.heap.size w W->Calls Tryz.prog 28 #[eU r A] W (aC W (.int .i64 e)))):
    Calls Tryz.prog 20 #[eU r A,.int .i64 key] w (aC w (.tuple #[.int .i64 0,.int .i64 e])):=by
 have ge:(e != 0)=true:=by simpa using he
 clear he;dsimp only [eU] at *;go_enter Tryz.func20,Tryz.ntmps20
 go_upto_region 1 with (fail)
 generalize hw0:w.alloc _=w0;obtain ⟨hb0,hx⟩:=lg (l1:=bz r A) hw0;have HX:Hid (lm w0 [(w.heap.size,35,bz r A)]):=hid hx;have HB:=hid hb0;have hz0:=hb0.size;clear hw0 hb0 hx;have lD:w.heap.size<w0.heap.size:=aY (HX.out.at 0 rfl);go_wp2_with (first|(refine aJ 35 (.tmp 2) (w.heap.size) (bz r A) xk rfl rfl Tryz.underlying35 rfl xk (aI (HX.out.at 0 rfl)) ?_))
 refine (CK.out _ HB.out).mono ?_;rintro e w1 ⟨rfl,hb⟩;replace HX:=hid (HX.out.below hb);replace HB:=xv hb HB;have hz1:=hb.size;clear hb;go_wp2
 go_ret2
 exact ⟨rfl,HB.out⟩
theorem ZO (r:bK) (A:dZ) (key:Int) (w:World) (p:Int×Int) (n x:Int) (hx:x≠0)
    (CK:Hid (∀(W:World),Below w.heap.size w W->Calls Tryz.prog 28 #[eU r A] W (aC W (.int .i64 0))))
    (FR:Hid (∀(W:World) (bu:Nat),Below w.heap.size w W->BX W bu 94 (bz r A)->Calls Tryz.prog 52 #[.pointer (some ⟨bu,0,none⟩),.int .i64 key] W (aC W (.tuple #[uw p,.int .i64 n,.int .i64 x])))):
    Calls Tryz.prog 20 #[eU r A,.int .i64 key] w (aC w (.tuple #[.int .i64 0,.int .i64 x])):=by
 have gx:(x != 0)=true:=by simpa using hx
 clear hx;dsimp only [eU] at *;go_enter Tryz.func20,Tryz.ntmps20
 go_upto_region 1 with (fail)
 generalize hw0:w.alloc _=w0;obtain ⟨hb0,hx⟩:=lg (l1:=bz r A) hw0;have HX:Hid (lm w0 [(w.heap.size,35,bz r A)]):=hid hx;have HB:=hid hb0;have hz0:=hb0.size;clear hw0 hb0 hx;have lD:w.heap.size<w0.heap.size:=aY (HX.out.at 0 rfl);go_wp2_with (first|(refine aJ 35 (.tmp 2) (w.heap.size) (bz r A) xk rfl rfl Tryz.underlying35 rfl xk (aI (HX.out.at 0 rfl)) ?_))
 refine (CK.out _ HB.out).mono ?_;rintro e w1 ⟨rfl,hb⟩;replace HX:=hid (HX.out.below hb);replace HB:=xv hb HB;have hz1:=hb.size;clear hb;go_upto_region 5 with (first|(refine aJ 35 (.tmp 2) (w.heap.size) (bz r A) xk rfl rfl Tryz.underlying35 rfl xk (aI (HX.out.at 0 rfl)) ?_)|(refine nT 94 0 (.tmp 16) (.agg (bz r A).toArray) (bz r A).toArray xk rfl rfl (mD r A) ?_))
 have hx:=dR w1 (bz r A) 94;have hb:=(Below.refl w1.heap.size w1).alloc (Nat.le_refl _) (.cells (bz r A).toArray 94);generalize w1.alloc _=w2 at *;replace HX:=hid (HX.out.below hb);replace HB:=xv hb HB;have hz2:=hb.size;replace HX:=hid (HX.out.cons' hx);clear hx hb;go_wp2_with (fail)
 refine (FR.out _ _ HB.out (HX.out.at 0 rfl)).mono ?_;rintro e w3 ⟨rfl,hb⟩;replace HX:=hid (HX.out.below hb);replace HB:=xv hb HB;have hz3:=hb.size;clear hb;go_upto_region 6 with (first|(refine bI 60 (.tmp 8) (.tmp 23) (fO (0,0)).toArray (fO p).toArray rfl rfl rfl rfl xk rfl (f_ _) ?_))
 have hx:=dR w3 (fO p) 60;have hb:=(Below.refl w3.heap.size w3).alloc (Nat.le_refl _) (.cells (fO p).toArray 60);generalize w3.alloc _=w4 at *;replace HX:=hid (HX.out.below hb);replace HB:=xv hb HB;have NR:=hb.size;have V8:=aY hx;replace HX:=hid (HX.out.cons' hx);clear hx hb;have y0:=aI (HX.out.at 0 rfl) 0 _ rfl;have y1:=aI (HX.out.at 0 rfl) 1 _ rfl;go_wp2
 go_ret2
 exact ⟨rfl,HB.out⟩
theorem ZP (r:bK) (A:dZ) (key:Int) (w:World) (p:Int×Int) (n:Int) (hk:p.1≠key)
    (CK:Hid (∀(W:World),Below w.heap.size w W->Calls Tryz.prog 28 #[eU r A] W (aC W (.int .i64 0))))
    (FR:Hid (∀(W:World) (bu:Nat),Below w.heap.size w W->BX W bu 94 (bz r A)->Calls Tryz.prog 52 #[.pointer (some ⟨bu,0,none⟩),.int .i64 key] W (aC W (.tuple #[uw p,.int .i64 n,.int .i64 0])))):
    Calls Tryz.prog 20 #[eU r A,.int .i64 key] w (aC w (.tuple #[.int .i64 0,.int .i64 6])):=by
 have gk:(p.1 != key)=true:=by simpa using hk
 clear hk;dsimp only [eU] at *;go_enter Tryz.func20,Tryz.ntmps20
 go_upto_region 1 with (fail)
 generalize hw0:w.alloc _=w0;obtain ⟨hb0,hx⟩:=lg (l1:=bz r A) hw0;have HX:Hid (lm w0 [(w.heap.size,35,bz r A)]):=hid hx;have HB:=hid hb0;have hz0:=hb0.size;clear hw0 hb0 hx;have lD:w.heap.size<w0.heap.size:=aY (HX.out.at 0 rfl);go_wp2_with (first|(refine aJ 35 (.tmp 2) (w.heap.size) (bz r A) xk rfl rfl Tryz.underlying35 rfl xk (aI (HX.out.at 0 rfl)) ?_))
 refine (CK.out _ HB.out).mono ?_;rintro e w1 ⟨rfl,hb⟩;replace HX:=hid (HX.out.below hb);replace HB:=xv hb HB;have hz1:=hb.size;clear hb;go_upto_region 5 with (first|(refine aJ 35 (.tmp 2) (w.heap.size) (bz r A) xk rfl rfl Tryz.underlying35 rfl xk (aI (HX.out.at 0 rfl)) ?_)|(refine nT 94 0 (.tmp 16) (.agg (bz r A).toArray) (bz r A).toArray xk rfl rfl (mD r A) ?_))
 have hx:=dR w1 (bz r A) 94;have hb:=(Below.refl w1.heap.size w1).alloc (Nat.le_refl _) (.cells (bz r A).toArray 94);generalize w1.alloc _=w2 at *;replace HX:=hid (HX.out.below hb);replace HB:=xv hb HB;have hz2:=hb.size;replace HX:=hid (HX.out.cons' hx);clear hx hb;go_wp2_with (fail)
 refine (FR.out _ _ HB.out (HX.out.at 0 rfl)).mono ?_;rintro e w3 ⟨rfl,hb⟩;replace HX:=hid (HX.out.below hb);replace HB:=xv hb HB;have hz3:=hb.size;clear hb;go_upto_region 6 with (first|(refine bI 60 (.tmp 8) (.tmp 23) (fO (0,0)).toArray (fO p).toArray rfl rfl rfl rfl xk rfl (f_ _) ?_))
 have hx:=dR w3 (fO p) 60;have hb:=(Below.refl w3.heap.size w3).alloc (Nat.le_refl _) (.cells (fO p).toArray 60);generalize w3.alloc _=w4 at *;replace HX:=hid (HX.out.below hb);replace HB:=xv hb HB;have NR:=hb.size;have V8:=aY hx;replace HX:=hid (HX.out.cons' hx);clear hx hb;have y0:=aI (HX.out.at 0 rfl) 0 _ rfl;have y1:=aI (HX.out.at 0 rfl) 1 _ rfl;go_wp2
 go_ret2
 exact ⟨rfl,HB.out⟩
theorem ZN (r:bK) (A:dZ) (key:Int) (w:World) (p:Int×Int) (n:Int) (hk:p.1=key)
    (CK:Hid (∀(W:World),Below w.heap.size w W->Calls Tryz.prog 28 #[eU r A] W (aC W (.int .i64 0))))
    (FR:Hid (∀(W:World) (bu:Nat),Below w.heap.size w W->BX W bu 94 (bz r A)->Calls Tryz.prog 52 #[.pointer (some ⟨bu,0,none⟩),.int .i64 key] W (aC W (.tuple #[uw p,.int .i64 n,.int .i64 0])))):
    Calls Tryz.prog 20 #[eU r A,.int .i64 key] w (aC w (.tuple #[.int .i64 p.2,.int .i64 0])):=by
 have gk:(p.1 != key)=false:=by simpa using hk
 clear hk;dsimp only [eU] at *;go_enter Tryz.func20,Tryz.ntmps20
 go_upto_region 1 with (fail)
 generalize hw0:w.alloc _=w0;obtain ⟨hb0,hx⟩:=lg (l1:=bz r A) hw0;have HX:Hid (lm w0 [(w.heap.size,35,bz r A)]):=hid hx;have HB:=hid hb0;have hz0:=hb0.size;clear hw0 hb0 hx;have lD:w.heap.size<w0.heap.size:=aY (HX.out.at 0 rfl);go_wp2_with (first|(refine aJ 35 (.tmp 2) (w.heap.size) (bz r A) xk rfl rfl Tryz.underlying35 rfl xk (aI (HX.out.at 0 rfl)) ?_))
 refine (CK.out _ HB.out).mono ?_;rintro e w1 ⟨rfl,hb⟩;replace HX:=hid (HX.out.below hb);replace HB:=xv hb HB;have hz1:=hb.size;clear hb;go_upto_region 5 with (first|(refine aJ 35 (.tmp 2) (w.heap.size) (bz r A) xk rfl rfl Tryz.underlying35 rfl xk (aI (HX.out.at 0 rfl)) ?_)|(refine nT 94 0 (.tmp 16) (.agg (bz r A).toArray) (bz r A).toArray xk rfl rfl (mD r A) ?_))
 have hx:=dR w1 (bz r A) 94;have hb:=(Below.refl w1.heap.size w1).alloc (Nat.le_refl _) (.cells (bz r A).toArray 94);generalize w1.alloc _=w2 at *;replace HX:=hid (HX.out.below hb);replace HB:=xv hb HB;have hz2:=hb.size;replace HX:=hid (HX.out.cons' hx);clear hx hb;go_wp2_with (fail)
 refine (FR.out _ _ HB.out (HX.out.at 0 rfl)).mono ?_;rintro e w3 ⟨rfl,hb⟩;replace HX:=hid (HX.out.below hb);replace HB:=xv hb HB;have hz3:=hb.size;clear hb;go_upto_region 6 with (first|(refine bI 60 (.tmp 8) (.tmp 23) (fO (0,0)).toArray (fO p).toArray rfl rfl rfl rfl xk rfl (f_ _) ?_))
 have hx:=dR w3 (fO p) 60;have hb:=(Below.refl w3.heap.size w3).alloc (Nat.le_refl _) (.cells (fO p).toArray 60);generalize w3.alloc _=w4 at *;replace HX:=hid (HX.out.below hb);replace HB:=xv hb HB;have NR:=hb.size;have V8:=aY hx;replace HX:=hid (HX.out.cons' hx);clear hx hb;have y0:=aI (HX.out.at 0 rfl) 0 _ rfl;have y1:=aI (HX.out.at 0 rfl) 1 _ rfl;go_wp2
 go_ret2
 exact ⟨rfl,HB.out⟩
theorem WT (r:bK) (A:dZ) (key:Int) (w:World) (e:Int) (he:e≠0)
    (CK:Hid (∀(W:World),Below w.heap.size w W->Calls Tryz.prog 28 #[eU r A] W (aC W (.int .i64 e)))):
    Calls Tryz.prog 22 #[eU r A,.int .i64 key] w (aC w (.tuple #[.int .i64 0,.int .i64 e])):=by
 have ge:(e != 0)=true:=by simpa using he
 clear he;dsimp only [eU] at *;go_enter Tryz.func22,Tryz.ntmps22
 go_upto_region 1 with (fail)
 generalize hw0:w.alloc _=w0;obtain ⟨hb0,hx⟩:=lg (l1:=bz r A) hw0;have HX:Hid (lm w0 [(w.heap.size,35,bz r A)]):=hid hx;have HB:=hid hb0;have hz0:=hb0.size;clear hw0 hb0 hx;have lD:w.heap.size<w0.heap.size:=aY (HX.out.at 0 rfl);go_wp2_with (first|(refine aJ 35 (.tmp 2) (w.heap.size) (bz r A) xk rfl rfl Tryz.underlying35 rfl xk (aI (HX.out.at 0 rfl)) ?_))
 refine (CK.out _ HB.out).mono ?_;rintro e w1 ⟨rfl,hb⟩;replace HX:=hid (HX.out.below hb);replace HB:=xv hb HB;have hz1:=hb.size;clear hb;go_wp2
 go_ret2
 exact ⟨rfl,HB.out⟩
theorem WS (r:bK) (A:dZ) (key:Int) (w:World) (p:Int×Int) (n x:Int)
    (CK:Hid (∀(W:World),Below w.heap.size w W->Calls Tryz.prog 28 #[eU r A] W (aC W (.int .i64 0))))
    (FR:Hid (∀(W:World) (bu:Nat),Below w.heap.size w W->BX W bu 94 (bz r A)->Calls Tryz.prog 52 #[.pointer (some ⟨bu,0,none⟩),.int .i64 key] W (aC W (.tuple #[uw p,.int .i64 n,.int .i64 x])))):
    Calls Tryz.prog 22 #[eU r A,.int .i64 key] w (aC w (.tuple #[.int .i64 n,.int .i64 0])):=by
 dsimp only [eU] at *;go_enter Tryz.func22,Tryz.ntmps22
 go_upto_region 1 with (fail)
 generalize hw0:w.alloc _=w0;obtain ⟨hb0,hx⟩:=lg (l1:=bz r A) hw0;have HX:Hid (lm w0 [(w.heap.size,35,bz r A)]):=hid hx;have HB:=hid hb0;have hz0:=hb0.size;clear hw0 hb0 hx;have lD:w.heap.size<w0.heap.size:=aY (HX.out.at 0 rfl);go_wp2_with (first|(refine aJ 35 (.tmp 2) (w.heap.size) (bz r A) xk rfl rfl Tryz.underlying35 rfl xk (aI (HX.out.at 0 rfl)) ?_))
 refine (CK.out _ HB.out).mono ?_;rintro e w1 ⟨rfl,hb⟩;replace HX:=hid (HX.out.below hb);replace HB:=xv hb HB;have hz1:=hb.size;clear hb;go_upto_region 5 with (first|(refine aJ 35 (.tmp 2) (w.heap.size) (bz r A) xk rfl rfl Tryz.underlying35 rfl xk (aI (HX.out.at 0 rfl)) ?_)|(refine nT 94 0 (.tmp 16) (.agg (bz r A).toArray) (bz r A).toArray xk rfl rfl (mD r A) ?_))
 have hx:=dR w1 (bz r A) 94;have hb:=(Below.refl w1.heap.size w1).alloc (Nat.le_refl _) (.cells (bz r A).toArray 94);generalize w1.alloc _=w2 at *;replace HX:=hid (HX.out.below hb);replace HB:=xv hb HB;have hz2:=hb.size;replace HX:=hid (HX.out.cons' hx);clear hx hb;go_wp2_with (fail)
 refine (FR.out _ _ HB.out (HX.out.at 0 rfl)).mono ?_;rintro e w3 ⟨rfl,hb⟩;replace HX:=hid (HX.out.below hb);replace HB:=xv hb HB;have hz3:=hb.size;clear hb;go_upto_region 6 with (first|(refine bI 60 (.tmp 8) (.tmp 23) (fO (0,0)).toArray (fO p).toArray rfl rfl rfl rfl xk rfl (f_ _) ?_))
 have hx:=dR w3 (fO p) 60;have hb:=(Below.refl w3.heap.size w3).alloc (Nat.le_refl _) (.cells (fO p).toArray 60);generalize w3.alloc _=w4 at *;replace HX:=hid (HX.out.below hb);replace HB:=xv hb HB;have NR:=hb.size;have V8:=aY hx;replace HX:=hid (HX.out.cons' hx);clear hx hb;go_wp2
 go_ret2
 exact ⟨rfl,HB.out⟩
theorem WV (r:bK) (A:dZ) (key:Int) (w:World) (e:Int) (he:e≠0)
    (CK:Hid (∀(W:World),Below w.heap.size w W->Calls Tryz.prog 28 #[eU r A] W (aC W (.int .i64 e)))):
    Calls Tryz.prog 24 #[eU r A,.int .i64 key] w (aC w (.tuple #[uw (0,0),.int .i64 e])):=by
 have ge:(e != 0)=true:=by simpa using he
 clear he;dsimp only [eU] at *;go_enter Tryz.func24,Tryz.ntmps24
 go_upto_region 1 with (fail)
 generalize hw0:(w.alloc _).alloc _=w0;obtain ⟨hb0,hx⟩:=iY (l1:=bz r A) (l2:=fO (0,0)) hw0;have HX:Hid (lm w0 [(w.heap.size+1,60,fO (0,0)),(w.heap.size,35,bz r A)]):=hid hx;have HB:=hid hb0;have hz0:=hb0.size;clear hw0 hb0 hx;have sG:w.heap.size+1<w0.heap.size:=aY (HX.out.at 0 rfl);have lD:w.heap.size<w0.heap.size:=aY (HX.out.at 1 rfl);go_wp2_with (first|(refine aJ 35 (.tmp 2) (w.heap.size) (bz r A) xk rfl rfl Tryz.underlying35 rfl xk (aI (HX.out.at 1 rfl)) ?_))
 refine (CK.out _ HB.out).mono ?_;rintro e w1 ⟨rfl,hb⟩;replace HX:=hid (HX.out.below hb);replace HB:=xv hb HB;have hz1:=hb.size;clear hb;go_wp2_with (first|(refine bH 60 (.tmp 4) (.tmp 15) (w.heap.size+1) (fO (0,0)) (fO (0,0)) rfl rfl rfl rfl xk rfl (f_ _) (HX.out.at 0 rfl) ?_;intro w2 hs hx))
 exact bodyPost_ret (aF rfl rfl (ag _ Tryz.underlying60 rfl xk (aI hx))) rfl ⟨rfl,HB.out.trans (hs.bel _ xo)⟩
theorem WU (r:bK) (A:dZ) (key:Int) (w:World) (p:Int×Int) (n x:Int)
    (CK:Hid (∀(W:World),Below w.heap.size w W->Calls Tryz.prog 28 #[eU r A] W (aC W (.int .i64 0))))
    (FR:Hid (∀(W:World) (bu:Nat),Below w.heap.size w W->BX W bu 94 (bz r A)->Calls Tryz.prog 52 #[.pointer (some ⟨bu,0,none⟩),.int .i64 key] W (aC W (.tuple #[uw p,.int .i64 n,.int .i64 x])))):
    Calls Tryz.prog 24 #[eU r A,.int .i64 key] w (aC w (.tuple #[uw p,.int .i64 x])):=by
 dsimp only [eU] at *;go_enter Tryz.func24,Tryz.ntmps24
 go_upto_region 1 with (fail)
 generalize hw0:(w.alloc _).alloc _=w0;obtain ⟨hb0,hx⟩:=iY (l1:=bz r A) (l2:=fO (0,0)) hw0;have HX:Hid (lm w0 [(w.heap.size+1,60,fO (0,0)),(w.heap.size,35,bz r A)]):=hid hx;have HB:=hid hb0;have hz0:=hb0.size;clear hw0 hb0 hx;have sG:w.heap.size+1<w0.heap.size:=aY (HX.out.at 0 rfl);have lD:w.heap.size<w0.heap.size:=aY (HX.out.at 1 rfl);go_wp2_with (first|(refine aJ 35 (.tmp 2) (w.heap.size) (bz r A) xk rfl rfl Tryz.underlying35 rfl xk (aI (HX.out.at 1 rfl)) ?_))
 refine (CK.out _ HB.out).mono ?_;rintro e w1 ⟨rfl,hb⟩;replace HX:=hid (HX.out.below hb);replace HB:=xv hb HB;have hz1:=hb.size;clear hb;go_upto_region 5 with (first|(refine aJ 35 (.tmp 2) (w.heap.size) (bz r A) xk rfl rfl Tryz.underlying35 rfl xk (aI (HX.out.at 1 rfl)) ?_)|(refine nT 94 0 (.tmp 17) (.agg (bz r A).toArray) (bz r A).toArray xk rfl rfl (mD r A) ?_))
 have hx:=dR w1 (bz r A) 94;have hb:=(Below.refl w1.heap.size w1).alloc (Nat.le_refl _) (.cells (bz r A).toArray 94);generalize w1.alloc _=w2 at *;replace HX:=hid (HX.out.below hb);replace HB:=xv hb HB;have hz2:=hb.size;replace HX:=hid (HX.out.cons' hx);clear hx hb;go_wp2_with (fail)
 refine (FR.out _ _ HB.out (HX.out.at 0 rfl)).mono ?_;rintro e w3 ⟨rfl,hb⟩;replace HX:=hid (HX.out.below hb);replace HB:=xv hb HB;have hz3:=hb.size;clear hb;go_upto_region 6 with (first|(refine bI 60 (.tmp 8) (.tmp 24) (fO (0,0)).toArray (fO p).toArray rfl rfl rfl rfl xk rfl (f_ _) ?_))
 have hx:=dR w3 (fO p) 60;have hb:=(Below.refl w3.heap.size w3).alloc (Nat.le_refl _) (.cells (fO p).toArray 60);generalize w3.alloc _=w4 at *;replace HX:=hid (HX.out.below hb);replace HB:=xv hb HB;have NR:=hb.size;have V8:=aY hx;replace HX:=hid (HX.out.cons' hx);clear hx hb;go_wp2_with (first|(refine aJ 60 (.tmp 8) (w3.heap.size) (fO p) xk rfl rfl Tryz.underlying60 rfl xk (aI (HX.out.at 0 rfl)) ?_)|(refine bH 60 (.tmp 4) (.tmp 27) (w.heap.size+1) (fO (0,0)) (fO p) rfl rfl rfl rfl xk rfl (f_ _) (HX.out.at 2 rfl) ?_;intro w5 hs hx))
 exact bodyPost_ret (aF rfl rfl (ag _ Tryz.underlying60 rfl xk (aI hx))) rfl ⟨rfl,HB.out.trans (hs.bel _ xo)⟩
end
section
open Go.RowKit Go.Shelf Go.Sort
attribute [local go_sem] Oper.semAt_some
theorem ZH (r:bK) (A:dZ) (key:Int) (w:World) (e:Int) (he:e≠0)
    (CK:Hid (∀(W:World),Below w.heap.size w W->Calls Tryz.prog 28 #[eU r A] W (aC W (.int .i64 e)))):
    Calls Tryz.prog 26 #[eU r A,.int .i64 key] w (aC w (.tuple #[uw (0,0),.int .i64 e])):=by
 have ge:(e != 0)=true:=by simpa using he
 clear he;dsimp only [eU] at *;refine dM Tryz.func26 rfl ?_;simp only [Tryz.ntmps26,List.size_toArray,List.length_cons,List.length_nil,Nat.reduceAdd,Nat.reduceSub,Array.replicate_succ,Array.replicate_zero,List.push_toArray,List.append_toArray,List.nil_append,List.cons_append];go_upto_region 1 with (fail)
 generalize hw0:((w.alloc _).alloc _).alloc _=w0;obtain ⟨hb0,hx⟩:=p_ (l1:=bz r A) (l2:=fO (0,0)) (l3:=[.int .i64 0]) hw0;have HX:Hid (lm w0 [(w.heap.size+1+1,38,[.int .i64 0]),(w.heap.size+1,60,fO (0,0)),(w.heap.size,35,bz r A)]):=hid hx;have HB:=hid hb0;have hz0:=hb0.size;clear hw0 hb0 hx;have Y0:w.heap.size+1+1<w0.heap.size:=aY (HX.out.at 0 rfl);have sG:w.heap.size+1<w0.heap.size:=aY (HX.out.at 1 rfl);have lD:w.heap.size<w0.heap.size:=aY (HX.out.at 2 rfl);go_wp2_with (first|(refine aJ 35 (.tmp 2) (w.heap.size) (bz r A) xk rfl rfl Tryz.underlying35 rfl xk (aI (HX.out.at 2 rfl)) ?_))
 refine (CK.out _ HB.out).mono ?_;rintro e w1 ⟨rfl,hb⟩;replace HX:=hid (HX.out.below hb);replace HB:=xv hb HB;have hz1:=hb.size;clear hb;go_wp2_with (first|(refine bH 60 (.tmp 4) (.tmp 17) (w.heap.size+1) (fO (0,0)) (fO (0,0)) rfl rfl rfl rfl xk rfl (f_ _) (HX.out.at 1 rfl) ?_;intro w9 hs hx;have SH:=hs.bx (HX.out.at 0 rfl) xo;have ce:=aI SH 0 _ rfl;have fe:=gK SH (i:=0) (by show (0:Nat)<1;decide);have H9:=hid (And.intro hs (And.intro hx SH));clear hs hx SH))
 obtain ⟨hs,hx,SH⟩:=H9.out;have hr:=iD w9 (w.heap.size+1+1) 0 (.int .i64 e);exact qp (kP rfl rfl rfl (ag _ Tryz.underlying60 rfl xk (aI (hr.bx hx xo))) (bJ Tryz.underlying38 rfl (aI (iI SH 0 _) 0 _ rfl))) ⟨rfl,(HB.out.trans (hs.bel _ xo)).trans (hr.bel _ xo)⟩
theorem ZG (r:bK) (A:dZ) (key:Int) (w:World) (x:Int) (hx0:x≠0)
    (CK:Hid (∀(W:World),Below w.heap.size w W->Calls Tryz.prog 28 #[eU r A] W (aC W (.int .i64 0))))
    (NT:Hid (∀(W:World),Below w.heap.size w W->Calls Tryz.prog 59 #[.agg (vX r A).toArray,.int .i64 key] W (aC W (.tuple #[.int .i64 0,.int .i64 0,.int .i64 x])))):
    Calls Tryz.prog 26 #[eU r A,.int .i64 key] w (aC w (.tuple #[uw (0,0),.int .i64 x])):=by
 have gx:(x != 0)=true:=by simpa using hx0
 clear hx0;dsimp only [eU] at *;refine dM Tryz.func26 rfl ?_;simp only [Tryz.ntmps26,List.size_toArray,List.length_cons,List.length_nil,Nat.reduceAdd,Nat.reduceSub,Array.replicate_succ,Array.replicate_zero,List.push_toArray,List.append_toArray,List.nil_append,List.cons_append];go_upto_region 1 with (fail)
 generalize hw0:((w.alloc _).alloc _).alloc _=w0;obtain ⟨hb0,hx⟩:=p_ (l1:=bz r A) (l2:=fO (0,0)) (l3:=[.int .i64 0]) hw0;have HX:Hid (lm w0 [(w.heap.size+1+1,38,[.int .i64 0]),(w.heap.size+1,60,fO (0,0)),(w.heap.size,35,bz r A)]):=hid hx;have HB:=hid hb0;have hz0:=hb0.size;clear hw0 hb0 hx;have Y0:w.heap.size+1+1<w0.heap.size:=aY (HX.out.at 0 rfl);have sG:w.heap.size+1<w0.heap.size:=aY (HX.out.at 1 rfl);have lD:w.heap.size<w0.heap.size:=aY (HX.out.at 2 rfl);go_wp2_with (first|(refine aJ 35 (.tmp 2) (w.heap.size) (bz r A) xk rfl rfl Tryz.underlying35 rfl xk (aI (HX.out.at 2 rfl)) ?_))
 refine (CK.out _ HB.out).mono ?_;rintro e w1 ⟨rfl,hb⟩;replace HX:=hid (HX.out.below hb);replace HB:=xv hb HB;have hz1:=hb.size;clear hb;go_wp2_with (first|(refine cu 33 (.tmp 20) (w.heap.size) 15 (vX r A) xk rfl rfl Tryz.underlying33 rfl xk (fP (HX.out.at 2 rfl) 15 rfl) ?_))
 refine (NT.out _ HB.out).mono ?_;rintro e w2 ⟨rfl,hb⟩;replace HX:=hid (HX.out.below hb);replace HB:=xv hb HB;have hz2:=hb.size;clear hb;go_upto_region 5 with (fail)
 have hx:=dR w2 [.int .i64 0] 3;have hb:=(Below.refl w2.heap.size w2).alloc (Nat.le_refl _) (.cells [.int .i64 0].toArray 3);generalize w2.alloc _=w3 at *;replace HX:=hid (HX.out.below hb);replace HB:=xv hb HB;have hz3:=hb.size;replace HX:=hid (HX.out.cons' hx);clear hx hb;go_wp2_with (first|(refine bH 60 (.tmp 4) (.tmp 29) (w.heap.size+1) (fO (0,0)) (fO (0,0)) rfl rfl rfl rfl xk rfl (f_ _) (HX.out.at 2 rfl) ?_;intro w9 hs hx;have SH:=hs.bx (HX.out.at 1 rfl) xo;have ce:=aI SH 0 _ rfl;have fe:=gK SH (i:=0) (by show (0:Nat)<1;decide);have H9:=hid (And.intro hs (And.intro hx SH));clear hs hx SH))
 obtain ⟨hs,hx,SH⟩:=H9.out;have hr:=iD w9 (w.heap.size+1+1) 0 (.int .i64 x);exact qp (kP rfl rfl rfl (ag _ Tryz.underlying60 rfl xk (aI (hr.bx hx xo))) (bJ Tryz.underlying38 rfl (aI (iI SH 0 _) 0 _ rfl))) ⟨rfl,(HB.out.trans (hs.bel _ xo)).trans (hr.bel _ xo)⟩
theorem ZF (r:bK) (A:dZ) (key:Int) (w:World) (i s:Nat) (L:List (Int×Int)) (hL:L.length<=65536) (hsl:s<L.length) (p:Int×Int) (hp:L.getD s (0,0)=p)
    (CK:Hid (∀(W:World),Below w.heap.size w W->Calls Tryz.prog 28 #[eU r A] W (aC W (.int .i64 0))))
    (NT:Hid (∀(W:World),Below w.heap.size w W->Calls Tryz.prog 59 #[.agg (vX r A).toArray,.int .i64 key] W (aC W (.tuple #[.int .i64 i,.int .i64 s,.int .i64 0]))))
    (IT:Hid (∀(W:World) (b1 b2 bu:Nat),Below w.heap.size w W->W.cell? ⟨b1,0,none⟩=some (.pointer (some ⟨bu,0,none⟩))->W.cell? ⟨b2,0,none⟩=some (.int .i64 i)->BX W bu 94 (bz r A)->Iter Tryz.prog 109 #[.pointer (some ⟨b1,0,none⟩),.pointer (some ⟨b2,0,none⟩)] (sD L) F6 W)):
    Calls Tryz.prog 26 #[eU r A,.int .i64 key] w (aC w (.tuple #[uw p,.int .i64 0])):=by
 have HP:=hid hp;clear hp;dsimp only [eU] at *;refine dM Tryz.func26 rfl ?_;simp only [Tryz.ntmps26,List.size_toArray,List.length_cons,List.length_nil,Nat.reduceAdd,Nat.reduceSub,Array.replicate_succ,Array.replicate_zero,List.push_toArray,List.append_toArray,List.nil_append,List.cons_append];go_upto_region 1 with (fail)
 generalize hw0:((w.alloc _).alloc _).alloc _=w0;obtain ⟨hb0,hx⟩:=p_ (l1:=bz r A) (l2:=fO (0,0)) (l3:=[.int .i64 0]) hw0;have HX:Hid (lm w0 [(w.heap.size+1+1,38,[.int .i64 0]),(w.heap.size+1,60,fO (0,0)),(w.heap.size,35,bz r A)]):=hid hx;have HB:=hid hb0;have hz0:=hb0.size;clear hw0 hb0 hx;have Y0:w.heap.size+1+1<w0.heap.size:=aY (HX.out.at 0 rfl);have sG:w.heap.size+1<w0.heap.size:=aY (HX.out.at 1 rfl);have lD:w.heap.size<w0.heap.size:=aY (HX.out.at 2 rfl);go_wp2_with (first|(refine aJ 35 (.tmp 2) (w.heap.size) (bz r A) xk rfl rfl Tryz.underlying35 rfl xk (aI (HX.out.at 2 rfl)) ?_))
 refine (CK.out _ HB.out).mono ?_;rintro e w1 ⟨rfl,hb⟩;replace HX:=hid (HX.out.below hb);replace HB:=xv hb HB;have hz1:=hb.size;clear hb;go_wp2_with (first|(refine cu 33 (.tmp 20) (w.heap.size) 15 (vX r A) xk rfl rfl Tryz.underlying33 rfl xk (fP (HX.out.at 2 rfl) 15 rfl) ?_))
 refine (NT.out _ HB.out).mono ?_;rintro e w2 ⟨rfl,hb⟩;replace HX:=hid (HX.out.below hb);replace HB:=xv hb HB;have hz2:=hb.size;clear hb;go_upto_region 5 with (fail)
 have hx:=dR w2 [.int .i64 s] 3;have hb:=(Below.refl w2.heap.size w2).alloc (Nat.le_refl _) (.cells [.int .i64 s].toArray 3);generalize w2.alloc _=w3 at *;replace HX:=hid (HX.out.below hb);replace HB:=xv hb HB;have hz3:=hb.size;replace HX:=hid (HX.out.cons' hx);clear hx hb;go_upto_region 8 with (first|(refine aJ 35 (.tmp 2) (w.heap.size) (bz r A) xk rfl rfl Tryz.underlying35 rfl xk (aI (HX.out.at 3 rfl)) ?_)|(refine nT 94 0 (.tmp 31) (.agg (bz r A).toArray) (bz r A).toArray xk rfl rfl (mD r A) ?_))
 have hx:=dR w3 (bz r A) 94;have hb:=(Below.refl w3.heap.size w3).alloc (Nat.le_refl _) (.cells (bz r A).toArray 94);generalize w3.alloc _=w4 at *;replace HX:=hid (HX.out.below hb);replace HB:=xv hb HB;have NR:=hb.size;replace HX:=hid (HX.out.cons' hx);clear hx hb;go_wp2_with (fail)
 refine (FO _ _ _).mono ?_;rintro e w5 ⟨rfl,hw5⟩;obtain ⟨hb5,hx5⟩:=iY (l1:=[.pointer (some ⟨w3.heap.size,0,none⟩)]) (l2:=[.int .i64 i]) hw5;have q1:=aI (hx5.at 1 rfl) 0 _ rfl;have q2:=aI (hx5.at 0 rfl) 0 _ rfl;have HL5:=hid (HX.out.below hb5);have IT5:=hid (IT.out w5 _ _ _ (aj hb5 HB.out HB.out.size) q1 q2 (HL5.out.at 0 rfl));have xB:=xv hb5 HB;have Um:=hb5.size;clear hw5 hx5 q1 q2 hb5 HX HB;go_wp2
 refine qj (xs:=sD L) (Kp:=F6) rfl (enters_of Tryz.func109 xk rfl) IT5.out br (fun h k=>h.trans k) ?kb ?ps
   (fun k W=>lm W [(w3.heap.size,94,bz r A),(w2.heap.size,3,[.int .i64 s]),(w.heap.size+1+1,38,[.int .i64 0]),(w.heap.size+1,60,fO (0,0)),(w.heap.size,35,bz r A)]/\Below w.heap.size w W/\w5.heap.size<=W.heap.size/\k<=s)
   (fun c W=>c= .ret/\BX W (w.heap.size+1) 60 (fO p)/\BX W (w.heap.size+1+1) 38 [.int .i64 0]/\Below w.heap.size w W) ?hI ?hX ?h0 ?round ?done ?stop
 case kb=>
  intro W q o o' hl hq ho k o2 hk ho2;exact (Calm.putObj (B:=0) o' (Nat.zero_le _) hq ho).cells k o2 hk ho2
 case ps=>
  intro x hx;simp only [sD,List.mem_map] at hx;obtain ⟨k,_,rfl⟩:=hx;rfl
 case hI=>
  rintro k W W' ⟨h1,h2,h3,h4⟩ hc;exact ⟨h1.calm hc,hc.below xB.out.size h2,Nat.le_trans h3 hc.size,h4⟩
 case hX=>
  rintro c W W' ⟨h0,h1,h3,h4⟩ hc;exact ⟨h0,hc.cells _ _ h1 rfl,hc.cells _ _ h3 rfl,hc.below xB.out.size h4⟩
 case h0=>exact ⟨HL5.out,xB.out,Nat.le_refl _,Nat.zero_le _⟩
 case done=>
  intro D W hD hi hK;have h1:=hi.2.2.2;rw [ny] at h1;omega
 case stop=>
  intro D c W hD hX hK;obtain ⟨rfl,hp,he,hbel⟩:=hX;have hcalm:Calm w5.heap.size W (W.putObj D (.deferred none)):=Calm.putObj _ hD hK rfl;have H4:=hid (And.intro hp (And.intro he hbel));clear hp he hbel HL5 IT5;go_wp2
  exact jo hK (kP rfl rfl rfl (ag _ Tryz.underlying60 rfl xk (aI (hcalm.cells _ _ H4.out.1 rfl))) (bJ Tryz.underlying38 rfl (aI (hcalm.cells _ _ H4.out.2.1 rfl) 0 _ rfl))) ⟨rfl,hcalm.below xB.out.size H4.out.2.2⟩
 case round=>
  intro q k W hq hk hi;rw [ny] at hk;rw [yU L hk];obtain ⟨hbx,hbel,hzW,hks⟩:=hi;have HV:Hid (k=s->fO p=[.int .i64 (L.getD k (0,0)).1,.int .i64 (L.getD k (0,0)).2]):=hid fun h=>by
   subst h;rw [<-HP.out];rfl
  generalize (L.getD k (0,0)).1=x at *;generalize (L.getD k (0,0)).2=y at *;have F7:=hid hbx;have ru:=hid hbel;have HKS:=hid hks;have XG:=hid hk;have HSL:=hid hsl;clear hbx hbel HL5 IT5 hks hk hsl;gi_wp2
  have hab:Below W.heap.size W (W.alloc (.cells #[.int .i64 x,.int .i64 y] 60)):=br.alloc (Nat.le_refl _) _;refine ⟨jC hab,F6.below hab,?_⟩;intro W2 hc;have hks:=HKS.out;have hk:=XG.out;have BB:Hid (lm W2 ((W.heap.size,60,[.int .i64 x,.int .i64 y])::[(w3.heap.size,94,bz r A),(w2.heap.size,3,[.int .i64 s]),(w.heap.size+1+1,38,[.int .i64 0]),(w.heap.size+1,60,fO (0,0)),(w.heap.size,35,bz r A)])):=hid ((oU F7.out [.int .i64 x,.int .i64 y] _).calm hc);have HB2:=hid (hc.below (by first|exact xB.out.size|omega) (aj hab ru.out ru.out.size));have hz6:W.heap.size<W2.heap.size:=aY (BB.out.at 0 rfl);have c8:=aI (BB.out.at 2 rfl) 0 _ rfl;clear hab hc F7 ru;by_cases hkey:k=s
  . have he:((k:Int)==(s:Int))=true:=by simp;omega
    have HPP:=hid (HV.out hkey);have q0:=aI (BB.out.at 0 rfl) 0 _ rfl;have q1:=aI (BB.out.at 0 rfl) 1 _ rfl;have o0:=aI (BB.out.at 4 rfl) 0 _ rfl;have o1:=aI (BB.out.at 4 rfl) 1 _ rfl;have f0:=gK (BB.out.at 4 rfl) (i:=0) (by show (0:Nat)<2;decide);have f1:=gK (BB.out.at 4 rfl) (i:=1) (by show (1:Nat)<2;decide);have ce:=aI (BB.out.at 3 rfl) 0 _ rfl;have fe:=gK (BB.out.at 3 rfl) (i:=0) (by show (0:Nat)<1;decide);clear hkey HV;gi_wp2
    have r4:=iD W2 (w.heap.size+1) 0 (.int .i64 x);have r5:=iD (W2.setCell ⟨w.heap.size+1,0,none⟩ (.int .i64 x)) (w.heap.size+1) 1 (.int .i64 y);have r6:=iD ((W2.setCell ⟨w.heap.size+1,0,none⟩ (.int .i64 x)).setCell ⟨w.heap.size+1,1,none⟩ (.int .i64 y)) (w.heap.size+1+1) 0 (.int .i64 0);refine ⟨((KeepsOthers.setCell _ _ _).trans (KeepsOthers.setCell _ _ _)).trans (KeepsOthers.setCell _ _ _),rfl,?_,iI (r5.bx (r4.bx (BB.out.at 3 rfl) xo) xo) 0 _,((HB2.out.trans (r4.bel _ xo)).trans (r5.bel _ xo)).trans (r6.bel _ xo)⟩;rw [HPP.out];exact r6.bx (iI (iI (BB.out.at 4 rfl) 0 _) 1 _) xo
  . have he:((k:Int)==(s:Int))=false:=by simp;omega
    clear HV;gi_wp2
    exact ⟨⟨Nat.le_refl _,fun _ _ h _=>h⟩,fun _ _ h _=>h,BB.out.2,HB2.out,by omega,by have:=HKS.out;omega⟩
end
section
open Go.RowKit
theorem Xx (m c s key:Int) (b:Nat) (w:World) (hb:w.cell? ⟨b,0,none⟩=some (.int .i64 key)):
    Calls Tryz.prog 175 #[.int .i64 m,.int .i64 c,.int .i64 s,.pointer (some ⟨b,0,none⟩)] w fun e w'=>e= .returned (.bool (decide (srv key m c)))/\w=w':=by
 by_cases h:0<c
 . have e:decide (srv key m c)=decide (key<=m):=by simp [srv,h]
   rw [e];go_enter Tryz.func175,Tryz.ntmps175
   go_wp2
   go_ret
   exact ⟨by simp,rfl⟩
 . have e:decide (srv key m c)=false:=by simp [srv,h]
   rw [e];go_enter Tryz.func175,Tryz.ntmps175
   go_wp2
   go_ret
   exact ⟨by simp,rfl⟩
theorem aac (m c s k:Int) (b:Nat) (w:World) (hb:w.cell? ⟨b,0,none⟩=some (.int .i64 k)) (h0:0<=k-s) (h1:k-s<=9223372036854775807):
    Calls Tryz.prog 108 #[.int .i64 m,.int .i64 c,.int .i64 s,.pointer (some ⟨b,0,none⟩)] w fun e w'=>e= .returned (.bool (decide (k-s<c)))/\w=w':=by
 go_enter Tryz.func108,Tryz.ntmps108
 go_wp2
 go_ret
 exact ⟨rfl,rfl⟩
def ZZ (l:Int) (ma ca:Option Addr) (mc cc N bk F D:Nat) (P:Nat->Nat->Int->Prop) (w:World) (d:Nat) (a':Act) (w':World):Prop:=
  ∃(nn:Nat) (s:Int),(∃u:Nat->Value,a'= {tmps:= #[um l ma N mc ca N cc,(.func (.func 175) #[] #[.pointer (some ⟨bk,0,none⟩)]),.pointer (some ⟨w.heap.size,0,none⟩),u 3,u 4,.int .i64 s,.int .i64 nn,.int .i64 F,u 8,u 9,u 10,u 11,u 12,u 13,u 14,u 15,u 16,u 17,u 18,u 19,u 20,u 21,u 22,u 23,u 24,u 25,u 26,u 27,u 28,u 29,u 30,u 31,u 32,u 33,u 34,u 35,u 36,u 37,u 38,u 39,u 40,u 41,u 42,u 43,u 44,u 45,u 46,u 47,u 48,u 49,u 50,u 51,u 52,u 53,u 54,u 55,u 56],defers:=[]})/\w'.cell? ⟨w.heap.size,0,none⟩=some (.int .i64 l)/\w'.cell? ⟨w.heap.size,1,none⟩=some (.slice ma N mc)/\w'.cell? ⟨w.heap.size,2,none⟩=some (.slice ca N cc)/\w.heap.size<w'.heap.size/\Hid (Below w.heap.size w w')/\d<=D/\2^D<=nn*2^d/\(nn+1)*2^d<=2*2^D/\Hid (P d nn s)
theorem MH (L N D F:Nat) (l:Int) (hl:l=L) (h1:1<=L) (h2:L<=14) (hN:N+1=2^L) (hD:D+1=L) (hF:2^D=F) (ma ca:Option Addr) (mc cc:Nat) (ms cs:List Int) (hlm:ms.length=N) (hlc:cs.length=N) (w:World)
    (hm:aQ .i64 w ma ms) (hc:aQ .i64 w ca cs) (key:Int) (bk:Nat) (hk:w.cell? ⟨bk,0,none⟩=some (.int .i64 key)) (P:Nat->Nat->Int->Prop) (T:Int->Int->Int->Bool) (hP:P D 1 0)
    (hst:∀d n s,P (d+1) n s->(0<=s/\s<=65536/\0<=s+fU L cs (2*n)/\s+fU L cs (2*n)<=65536)/\if T (fU L ms (2*n)) (fU L cs (2*n)) s=true then P d (2*n) s else P d (2*n+1) (s+fU L cs (2*n)))
    (hcl:∀d n s W,P (d+1) n s->W.cell? ⟨bk,0,none⟩=some (.int .i64 key)->Calls Tryz.prog 175 #[.int .i64 (fU L ms (2*n)),.int .i64 (fU L cs (2*n)),.int .i64 s,.pointer (some ⟨bk,0,none⟩)] W fun e w'=>e= .returned (.bool (T (fU L ms (2*n)) (fU L cs (2*n)) s))/\W=w'):
    Calls Tryz.prog 107 #[um l ma N mc ca N cc,.func (.func 175) #[] #[.pointer (some ⟨bk,0,none⟩)]] w fun e w'=>∃(n:Nat) (s:Int),e= .returned (.tuple #[.int .i64 ((n:Int)-F),.int .i64 s])/\P 0 n s/\F<=n/\n<2*F/\Below w.heap.size w w':=by
 have e0:Si l 0=0:=by
  have hp:=wZ (l.toNat-1) xo;have h:1<=l/\l<=14:=xo;unfold Si;rw [if_pos ⟨h,Int.le_refl 0,by omega⟩]
 have e1:R_ l 0=F:=by
  unfold R_;rw [if_pos e0,show l.toNat-1=D by omega,<-hF];push_cast
  omega
 have hFb:F<=8192:=by rw [<-hF];exact Nat.pow_le_pow_right xo (by omega:D<=13)
 have hF0:0<F:=by rw [<-hF];exact Nat.two_pow_pos D
 have LF:=hid (DY l 0);rw [e0,e1] at LF;have PL:=hid (qf l);have HL:=hid hl;have HST:=hid hst;have HCL:=hid hcl;have HP:=hid hP;have HM:=hid hm;have HC:=hid hc;have HLM:=hid hlm;have XF:=hid hlc;clear e0 e1 hl hst hcl hP hm hc hlm hlc;go_enter Tryz.func107,Tryz.ntmps107
 go_wp2
 refine bZ 0 (ZZ l ma ca mc cc N bk F D P w) rfl ?_ ?_
 . rintro d a wo ⟨nn,s,⟨u,rfl⟩,c0,c1,c2,hz,HB,hd,hb1,hb2,HPd⟩ H hH;rw [hF] at hb1 hb2;cases d with
   | zero=>
    rw [Nat.pow_zero,Nat.mul_one] at hb1 hb2;have hwn:IntKind.i64.wrap ((nn:Int)-(F:Int))=(nn:Int)-(F:Int):=IntWalk.i64_in _ xo;go_wp2
    simp only [Exit.jump];go_ret2
    exact ⟨nn,s,rfl,HPd.out,by omega,by omega,HB.out⟩
   | succ d=>
    have hR:=Nat.two_pow_pos d;have hnF:nn<F:=by
     have h9:(nn+1)*2^(d+1)=(nn+1)*2^d*2:=by rw [Nat.pow_succ,Nat.mul_assoc]
     have h8:(nn+1)*1<=(nn+1)*2^d:=Nat.mul_le_mul_left _ hR;omega
    have hn1:1<=nn:=by
     rcases Nat.eq_zero_or_pos nn with e|e
     . rw [e,Nat.zero_mul] at hb1;omega
     . exact e
    have hll:=HL.out;have hnd:yE l (2*(nn:Int))=0:=by
     refine VF xo xo xo ?_;have:(2:Int)^l.toNat=((2^L:Nat):Int):=by rw [show l.toNat=L by omega];push_cast;rfl
     have h8:2^L=2*F:=by rw [<-hD,Nat.pow_succ,hF];omega
     rw [this];omega
    obtain ⟨p,hp⟩:∃p:Nat,oJ L (2*nn)=p:=⟨_,rfl⟩
    have h2n:2*nn<2^L:=by rw [<-hD,Nat.pow_succ,hF];omega
    have hpN:p<N:=by have:=(kK h1 (by omega:1<=2*nn) h2n).1;omega
    have hvp:QR l (2*(nn:Int))=(p:Int):=by
     unfold QR;rw [if_pos hnd,<-hp,show l.toNat=L by omega,show (2*(nn:Int)).toNat=2*nn by omega]
    have P2:=hid (qf l (2*(nn:Int)));rw [hvp,hnd] at P2;have hpc:(n_ L (2*nn)).toNat=p:=by rw [n_,if_neg xo,vP h1 xo h2n,hp];rfl
    obtain ⟨b1,o1,x1,rfl,hx1,d1,-⟩:=(HM.out.below HB.out).get (i:=p) (by have:=HLM.out;omega);obtain ⟨b2,o2,x2,rfl,hx2,d2,-⟩:=(HC.out.below HB.out).get (i:=p) (by have:=XF.out;omega);have hf1:fU L ms (2*nn)=x1:=by rw [fU,if_neg xo,hpc];exact hx1.out
    have hf2:fU L cs (2*nn)=x2:=by rw [fU,if_neg xo,hpc];exact hx2.out
    have hs:=HST.out d nn s HPd.out;have hc1:=fun W=>HCL.out d nn s W HPd.out
    rw [hf1,hf2] at hs hc1;obtain ⟨⟨hs0,hs1,hs2,hs3⟩,hs⟩:=hs;have HS:=hid hs;have HC1:=hid hc1;have e1:nn*2^(d+1)=2*nn*2^d:=by rw [Nat.pow_succ,Nat.mul_comm 2 nn,Nat.mul_assoc,Nat.mul_comm 2]
    have e2:(nn+1)*2^(d+1)=(2*nn+1+1)*2^d:=by rw [Nat.pow_succ,show 2*nn+1+1=(nn+1)*2 by omega,Nat.mul_assoc,Nat.mul_comm 2]
    have e3:(2*nn+1)*2^d=2*nn*2^d+2^d:=by rw [Nat.add_mul,Nat.one_mul]
    have e4:(2*nn+1+1)*2^d=2*nn*2^d+2^d+2^d:=by rw [Nat.add_mul,Nat.one_mul,e3]
    have hR2:0<2^d:=hR;rw [e1] at hb1;rw [e2,e4] at hb2;have HE:Hid ((2^D<=2*nn*2^d/\(2*nn+1)*2^d<=2*2^D)/\2^D<=(2*nn+1)*2^d/\(2*nn+1+1)*2^d<=2*2^D):=by
     refine hid ?_;rw [e3,e4,hF];generalize 2*nn*2^d=A at *;generalize 2^d=R at *;omega
    clear hR2;clear hll hvp hnd hp h2n hpc hf1 hf2 hx1 hx2 hs hc1 e1 e2 e3 e4 hb1 hb2 hR;go_wp2_with (go_at_call 180;refine (P2.out _).mono ?_;rintro e w2 ⟨rfl,hb2⟩)
    have hz2:=hb2.size;replace c0:=(hb2.cell (p:=⟨w.heap.size,0,none⟩) hz).trans c0;replace c1:=(hb2.cell (p:=⟨w.heap.size,1,none⟩) hz).trans c1;replace c2:=(hb2.cell (p:=⟨w.heap.size,2,none⟩) hz).trans c2;replace d1:=(hb2.cell (World.block_lt_of_cell? _ _ d1)).trans d1;replace d2:=(hb2.cell (World.block_lt_of_cell? _ _ d2)).trans d2;have HB2:=hid (aj hb2 HB.out xo);have ck:w2.cell? ⟨bk,0,none⟩=some (.int .i64 key):=(HB2.out.cell (World.block_lt_of_cell? _ _ hk)).trans hk;have H1:=hid (fun q=>Calls.quiet_of_same ((HC1.out (w2.drewN q) ck).mono fun _ _ h=>⟨h.1,h.2.symm⟩));obtain ⟨tv,htv⟩:∃tv:Bool,T x1 x2 s=tv:=⟨_,rfl⟩
    rw [htv] at H1;have HTV:=hid htv;clear hb2 htv HC1;go_quiet (exact H1.out _)
    have hz3:w.heap.size<(w2.drewN nq).heap.size:=by simp;omega
    cases tv with
    | true=>
     go_wp2
     refine wp_goto ?_;obtain ⟨⟨hb1,hb2⟩,hb3,hb4⟩:=HE.out;refine show (0=0/\H _ _) from ⟨rfl,hH d _ _ xo ⟨2*nn,s,jq _ _ _ ?_,by (exact dC),by (exact dC),by (exact dC),hz3,hid (below_drewN HB2.out _),by omega,hb1,hb2,hid ?_⟩⟩
     . rw [show ((2*nn:Nat):Int)=(nn:Int)*2 by omega];rfl
     . have:=HS.out;rw [HTV.out,if_pos rfl] at this;exact this
    | false=>
     go_wp2
     refine wp_goto ?_;obtain ⟨⟨hb1,hb2⟩,hb3,hb4⟩:=HE.out;refine show (0=0/\H _ _) from ⟨rfl,hH d _ _ xo ⟨2*nn+1,s+x2,jq _ _ _ ?_,by (exact dC),by (exact dC),by (exact dC),hz3,hid (below_drewN HB2.out _),by omega,hb3,hb4,hid ?_⟩⟩
     . rw [show ((2*nn+1:Nat):Int)=(nn:Int)*2+1 by omega];rfl
     . have:=HS.out;rw [HTV.out,if_neg au] at this;exact this
 . intro H hH nS;go_wp2_with (go_at_call 179;refine (LF.out _).mono ?_;rintro e w' ⟨rfl,rfl⟩)
   refine wp_label ?_;go_step
   go_step
   refine nS D _ _ ?_;refine ⟨1,0,jq _ _ _ rfl,by (exact dC),by (exact dC),by (exact dC),by simp,hid (br.alloc (Nat.le_refl _) _),Nat.le_refl _,by omega,by omega,HP⟩
def acv (l:Int) (ma ca:Option Addr) (mc cc N bk F D:Nat) (P:Nat->Nat->Int->Prop) (w:World) (d:Nat) (a':Act) (w':World):Prop:=
  ∃(nn:Nat) (s:Int),(∃u:Nat->Value,a'= {tmps:= #[um l ma N mc ca N cc,(.func (.func 108) #[] #[.pointer (some ⟨bk,0,none⟩)]),.pointer (some ⟨w.heap.size,0,none⟩),u 3,u 4,.int .i64 s,.int .i64 nn,.int .i64 F,u 8,u 9,u 10,u 11,u 12,u 13,u 14,u 15,u 16,u 17,u 18,u 19,u 20,u 21,u 22,u 23,u 24,u 25,u 26,u 27,u 28,u 29,u 30,u 31,u 32,u 33,u 34,u 35,u 36,u 37,u 38,u 39,u 40,u 41,u 42,u 43,u 44,u 45,u 46,u 47,u 48,u 49,u 50,u 51,u 52,u 53,u 54,u 55,u 56],defers:=[]})/\w'.cell? ⟨w.heap.size,0,none⟩=some (.int .i64 l)/\w'.cell? ⟨w.heap.size,1,none⟩=some (.slice ma N mc)/\w'.cell? ⟨w.heap.size,2,none⟩=some (.slice ca N cc)/\w.heap.size<w'.heap.size/\Hid (Below w.heap.size w w')/\d<=D/\2^D<=nn*2^d/\(nn+1)*2^d<=2*2^D/\Hid (P d nn s)
theorem QP (L N D F:Nat) (l:Int) (hl:l=L) (h1:1<=L) (h2:L<=14) (hN:N+1=2^L) (hD:D+1=L) (hF:2^D=F) (ma ca:Option Addr) (mc cc:Nat) (ms cs:List Int) (hlm:ms.length=N) (hlc:cs.length=N) (w:World)
    (hm:aQ .i64 w ma ms) (hc:aQ .i64 w ca cs) (key:Int) (bk:Nat) (hk:w.cell? ⟨bk,0,none⟩=some (.int .i64 key)) (P:Nat->Nat->Int->Prop) (T:Int->Int->Int->Bool) (hP:P D 1 0)
    (hst:∀d n s,P (d+1) n s->(0<=s/\s<=65536/\0<=s+fU L cs (2*n)/\s+fU L cs (2*n)<=65536)/\if T (fU L ms (2*n)) (fU L cs (2*n)) s=true then P d (2*n) s else P d (2*n+1) (s+fU L cs (2*n)))
    (hcl:∀d n s W,P (d+1) n s->W.cell? ⟨bk,0,none⟩=some (.int .i64 key)->Calls Tryz.prog 108 #[.int .i64 (fU L ms (2*n)),.int .i64 (fU L cs (2*n)),.int .i64 s,.pointer (some ⟨bk,0,none⟩)] W fun e w'=>e= .returned (.bool (T (fU L ms (2*n)) (fU L cs (2*n)) s))/\W=w'):
    Calls Tryz.prog 107 #[um l ma N mc ca N cc,.func (.func 108) #[] #[.pointer (some ⟨bk,0,none⟩)]] w fun e w'=>∃(n:Nat) (s:Int),e= .returned (.tuple #[.int .i64 ((n:Int)-F),.int .i64 s])/\P 0 n s/\F<=n/\n<2*F/\Below w.heap.size w w':=by
 have e0:Si l 0=0:=by
  have hp:=wZ (l.toNat-1) xo;have h:1<=l/\l<=14:=xo;unfold Si;rw [if_pos ⟨h,Int.le_refl 0,by omega⟩]
 have e1:R_ l 0=F:=by
  unfold R_;rw [if_pos e0,show l.toNat-1=D by omega,<-hF];push_cast
  omega
 have hFb:F<=8192:=by rw [<-hF];exact Nat.pow_le_pow_right xo (by omega:D<=13)
 have hF0:0<F:=by rw [<-hF];exact Nat.two_pow_pos D
 have LF:=hid (DY l 0);rw [e0,e1] at LF;have PL:=hid (qf l);have HL:=hid hl;have HST:=hid hst;have HCL:=hid hcl;have HP:=hid hP;have HM:=hid hm;have HC:=hid hc;have HLM:=hid hlm;have XF:=hid hlc;clear e0 e1 hl hst hcl hP hm hc hlm hlc;go_enter Tryz.func107,Tryz.ntmps107
 go_wp2
 refine bZ 0 (acv l ma ca mc cc N bk F D P w) rfl ?_ ?_
 . rintro d a wo ⟨nn,s,⟨u,rfl⟩,c0,c1,c2,hz,HB,hd,hb1,hb2,HPd⟩ H hH;rw [hF] at hb1 hb2;cases d with
   | zero=>
    rw [Nat.pow_zero,Nat.mul_one] at hb1 hb2;have hwn:IntKind.i64.wrap ((nn:Int)-(F:Int))=(nn:Int)-(F:Int):=IntWalk.i64_in _ xo;go_wp2
    simp only [Exit.jump];go_ret2
    exact ⟨nn,s,rfl,HPd.out,by omega,by omega,HB.out⟩
   | succ d=>
    have hR:=Nat.two_pow_pos d;have hnF:nn<F:=by
     have h9:(nn+1)*2^(d+1)=(nn+1)*2^d*2:=by rw [Nat.pow_succ,Nat.mul_assoc]
     have h8:(nn+1)*1<=(nn+1)*2^d:=Nat.mul_le_mul_left _ hR;omega
    have hn1:1<=nn:=by
     rcases Nat.eq_zero_or_pos nn with e|e
     . rw [e,Nat.zero_mul] at hb1;omega
     . exact e
    have hll:=HL.out;have hnd:yE l (2*(nn:Int))=0:=by
     refine VF xo xo xo ?_;have:(2:Int)^l.toNat=((2^L:Nat):Int):=by rw [show l.toNat=L by omega];push_cast;rfl
     have h8:2^L=2*F:=by rw [<-hD,Nat.pow_succ,hF];omega
     rw [this];omega
    obtain ⟨p,hp⟩:∃p:Nat,oJ L (2*nn)=p:=⟨_,rfl⟩
    have h2n:2*nn<2^L:=by rw [<-hD,Nat.pow_succ,hF];omega
    have hpN:p<N:=by have:=(kK h1 (by omega:1<=2*nn) h2n).1;omega
    have hvp:QR l (2*(nn:Int))=(p:Int):=by
     unfold QR;rw [if_pos hnd,<-hp,show l.toNat=L by omega,show (2*(nn:Int)).toNat=2*nn by omega]
    have P2:=hid (qf l (2*(nn:Int)));rw [hvp,hnd] at P2;have hpc:(n_ L (2*nn)).toNat=p:=by rw [n_,if_neg xo,vP h1 xo h2n,hp];rfl
    obtain ⟨b1,o1,x1,rfl,hx1,d1,-⟩:=(HM.out.below HB.out).get (i:=p) (by have:=HLM.out;omega);obtain ⟨b2,o2,x2,rfl,hx2,d2,-⟩:=(HC.out.below HB.out).get (i:=p) (by have:=XF.out;omega);have hf1:fU L ms (2*nn)=x1:=by rw [fU,if_neg xo,hpc];exact hx1.out
    have hf2:fU L cs (2*nn)=x2:=by rw [fU,if_neg xo,hpc];exact hx2.out
    have hs:=HST.out d nn s HPd.out;have hc1:=fun W=>HCL.out d nn s W HPd.out
    rw [hf1,hf2] at hs hc1;obtain ⟨⟨hs0,hs1,hs2,hs3⟩,hs⟩:=hs;have HS:=hid hs;have HC1:=hid hc1;have e1:nn*2^(d+1)=2*nn*2^d:=by rw [Nat.pow_succ,Nat.mul_comm 2 nn,Nat.mul_assoc,Nat.mul_comm 2]
    have e2:(nn+1)*2^(d+1)=(2*nn+1+1)*2^d:=by rw [Nat.pow_succ,show 2*nn+1+1=(nn+1)*2 by omega,Nat.mul_assoc,Nat.mul_comm 2]
    have e3:(2*nn+1)*2^d=2*nn*2^d+2^d:=by rw [Nat.add_mul,Nat.one_mul]
    have e4:(2*nn+1+1)*2^d=2*nn*2^d+2^d+2^d:=by rw [Nat.add_mul,Nat.one_mul,e3]
    have hR2:0<2^d:=hR;rw [e1] at hb1;rw [e2,e4] at hb2;have HE:Hid ((2^D<=2*nn*2^d/\(2*nn+1)*2^d<=2*2^D)/\2^D<=(2*nn+1)*2^d/\(2*nn+1+1)*2^d<=2*2^D):=by
     refine hid ?_;rw [e3,e4,hF];generalize 2*nn*2^d=A at *;generalize 2^d=R at *;omega
    clear hR2;clear hll hvp hnd hp h2n hpc hf1 hf2 hx1 hx2 hs hc1 e1 e2 e3 e4 hb1 hb2 hR;go_wp2_with (go_at_call 180;refine (P2.out _).mono ?_;rintro e w2 ⟨rfl,hb2⟩)
    have hz2:=hb2.size;replace c0:=(hb2.cell (p:=⟨w.heap.size,0,none⟩) hz).trans c0;replace c1:=(hb2.cell (p:=⟨w.heap.size,1,none⟩) hz).trans c1;replace c2:=(hb2.cell (p:=⟨w.heap.size,2,none⟩) hz).trans c2;replace d1:=(hb2.cell (World.block_lt_of_cell? _ _ d1)).trans d1;replace d2:=(hb2.cell (World.block_lt_of_cell? _ _ d2)).trans d2;have HB2:=hid (aj hb2 HB.out xo);have ck:w2.cell? ⟨bk,0,none⟩=some (.int .i64 key):=(HB2.out.cell (World.block_lt_of_cell? _ _ hk)).trans hk;have H1:=hid (fun q=>Calls.quiet_of_same ((HC1.out (w2.drewN q) ck).mono fun _ _ h=>⟨h.1,h.2.symm⟩));obtain ⟨tv,htv⟩:∃tv:Bool,T x1 x2 s=tv:=⟨_,rfl⟩
    rw [htv] at H1;have HTV:=hid htv;clear hb2 htv HC1;go_quiet (exact H1.out _)
    have hz3:w.heap.size<(w2.drewN nq).heap.size:=by simp;omega
    cases tv with
    | true=>
     go_wp2
     refine wp_goto ?_;obtain ⟨⟨hb1,hb2⟩,hb3,hb4⟩:=HE.out;refine show (0=0/\H _ _) from ⟨rfl,hH d _ _ xo ⟨2*nn,s,jq _ _ _ ?_,by (exact dC),by (exact dC),by (exact dC),hz3,hid (below_drewN HB2.out _),by omega,hb1,hb2,hid ?_⟩⟩
     . rw [show ((2*nn:Nat):Int)=(nn:Int)*2 by omega];rfl
     . have:=HS.out;rw [HTV.out,if_pos rfl] at this;exact this
    | false=>
     go_wp2
     refine wp_goto ?_;obtain ⟨⟨hb1,hb2⟩,hb3,hb4⟩:=HE.out;refine show (0=0/\H _ _) from ⟨rfl,hH d _ _ xo ⟨2*nn+1,s+x2,jq _ _ _ ?_,by (exact dC),by (exact dC),by (exact dC),hz3,hid (below_drewN HB2.out _),by omega,hb3,hb4,hid ?_⟩⟩
     . rw [show ((2*nn+1:Nat):Int)=(nn:Int)*2+1 by omega];rfl
     . have:=HS.out;rw [HTV.out,if_neg au] at this;exact this
 . intro H hH nS;go_wp2_with (go_at_call 179;refine (LF.out _).mono ?_;rintro e w' ⟨rfl,rfl⟩)
   refine wp_label ?_;go_step
   go_step
   refine nS D _ _ ?_;refine ⟨1,0,jq _ _ _ rfl,by (exact dC),by (exact dC),by (exact dC),by simp,hid (br.alloc (Nat.le_refl _) _),Nat.le_refl _,by omega,by omega,HP⟩
theorem aaf (l key:Int) (ma ca:Option Addr) (mc cc:Nat) (ms cs:List Int) (w:World) (hm:aQ .i64 w ma ms) (hc:aQ .i64 w ca cs):
    Calls Tryz.prog 101 #[um l ma ms.length mc ca cs.length cc,.int .i64 key] w (Ans w (.tuple #[.int .i64 (yY l ms cs key).1,.int .i64 (yY l ms cs key).2.1,.int .i64 (yY l ms cs key).2.2])):=by
 have CK:=hid (fun (W:World) (hb:Below w.heap.size w W)=>yD l ma ca mc cc ms cs W (hm.below hb) (hc.below hb));by_cases hmay:oO l ms cs=true
 . have e0:P9 l ms cs=0:=if_pos hmay;obtain ⟨L,D,N,F,hl,h1,h2,hN,hD,hF,hNF,hFb,hF0,hL,XP,hlm,hlc,hg⟩:=uP hmay;have et:yY l ms cs key=kE key (nK (fU L ms) (fU L cs) D 1) 0 0:=by rw [yY,if_pos hmay,wE,XP,hL]
   rw [et];rw [hlm,hlc,e0] at CK;rw [hlm,hlc];obtain ⟨b1,o1,x1,rfl,hx1,d1,-⟩:=hm.get (i:=0) xo;obtain ⟨b2,o2,x2,rfl,hx2,d2,-⟩:=hc.get (i:=0) xo;have r1:fU L ms 1=x1:=(xC h1 ms).trans hx1.out;have r2:fU L cs 1=x2:=(xC h1 cs).trans hx2.out;obtain ⟨q1,q2,-⟩:=fM hg.own;rw [r2] at q1 q2;rw [Nat.add_zero] at d1 d2;have hN0:0<N:=xo;by_cases hs:srv key x1 x2
   . have WY:=hid (fun (W:World) (hb:Below w.heap.size w W) (bk:Nat) (hk:W.cell? ⟨bk,0,none⟩=some (.int .i64 key))=>
       MH L N D F l hl h1 h2 hN hD hF (some ⟨b1,o1,none⟩) (some ⟨b2,o2,none⟩) mc cc ms cs hlm hlc W (hm.below hb) (hc.below hb) key bk hk (wR key (fU L ms) (fU L cs) D) (fun m c s=>decide (srv key m c)) (wR.root hg (by rw [r1,r2];exact hs))
         (fun d n s h=>h.step) (fun d n s W' h hk'=>Xx _ _ s key bk W' hk'))
     obtain ⟨hs1,hs2⟩:=hs;have g1:(x2==0)=false:=by simp;omega
     have HF:=hid hF;clear hmay hN hD hF hL XP hlm hlc hg et r1 r2 hx1 hx2 e0 hl h1 h2 hNF;go_enter Tryz.func101,Tryz.ntmps101
     go_wp2_with fail
     refine (CK.out _ aH).mono ?_;rintro e w1 ⟨rfl,hb1⟩;have aA:=hb1.size;try simp only [World.size_alloc,World.size_setCell] at aA
     have hh:=bc3 hb1 (rU (uu (b:=w.heap.size) ax));obtain ⟨aO,aN,aK⟩:=hh;have bF:=aP hb1 (dB (bV (b:=w.heap.size) ax));have WZ:=bc1 hb1 (Xl (b:=w.heap.size+1) ax);have z_k:=aP hb1 (bV (b:=w.heap.size+1) ax);have hB1:Below w.heap.size w w1:=aH;replace d1:=(hB1.cell (World.block_lt_of_cell? _ _ d1)).trans d1;replace d2:=(hB1.cell (World.block_lt_of_cell? _ _ d2)).trans d2;have HB1:=hid hB1;clear hm hc hB1 hb1;go_wp2
     go_big_quiet (fail)
     go_wp2_with (go_at_call 107;refine (WY.out _ (below_drewN HB1.out _) _ dC).mono ?_;rintro e w2 ⟨n,s,rfl,hP,hn1,hn2,hb2⟩)
     have HP:=hid hP;have HB2:=hid (aj hb2 (below_drewN HB1.out _) (by simp;omega));clear hP hb2;go_wp2
     go_ret3
     rw [HP.out.last HF.out];exact ⟨rfl,HB2.out⟩
   . have ef:=NY hg (key:=key) (by rw [r1,r2];exact hs) 0 0;rw [ef];have hsp:x2=0\/(0<x2/\x1<key):=by
      unfold srv at hs;by_cases h0:x2=0
      . exact .inl h0
      . exact .inr ⟨by omega,by omega⟩
     clear hmay hN hD hF hL XP hlm hlc hg et r1 r2 hx1 hx2 e0 hl h1 h2 hNF hs ef;rcases hsp with rfl | ⟨h0,h1⟩
     . go_enter Tryz.func101,Tryz.ntmps101
       go_wp2_with fail
       refine (CK.out _ aH).mono ?_;rintro e w1 ⟨rfl,hb1⟩;have aA:=hb1.size;try simp only [World.size_alloc,World.size_setCell] at aA
       have hh:=bc3 hb1 (rU (uu (b:=w.heap.size) ax));obtain ⟨aO,aN,aK⟩:=hh;have bF:=aP hb1 (dB (bV (b:=w.heap.size) ax));have WZ:=bc1 hb1 (Xl (b:=w.heap.size+1) ax);have z_k:=aP hb1 (bV (b:=w.heap.size+1) ax);have hB1:Below w.heap.size w w1:=aH;replace d1:=(hB1.cell (World.block_lt_of_cell? _ _ d1)).trans d1;replace d2:=(hB1.cell (World.block_lt_of_cell? _ _ d2)).trans d2;have HB1:=hid hB1;clear hm hc hB1 hb1;go_wp2
       go_big_quiet (fail)
       go_wp2
       go_ret3
       exact ⟨rfl,below_drewN HB1.out _⟩
     . have g1:(x2==0)=false:=by simp;omega
       go_enter Tryz.func101,Tryz.ntmps101
       go_wp2_with fail
       refine (CK.out _ aH).mono ?_;rintro e w1 ⟨rfl,hb1⟩;have aA:=hb1.size;try simp only [World.size_alloc,World.size_setCell] at aA
       have hh:=bc3 hb1 (rU (uu (b:=w.heap.size) ax));obtain ⟨aO,aN,aK⟩:=hh;have bF:=aP hb1 (dB (bV (b:=w.heap.size) ax));have WZ:=bc1 hb1 (Xl (b:=w.heap.size+1) ax);have z_k:=aP hb1 (bV (b:=w.heap.size+1) ax);have hB1:Below w.heap.size w w1:=aH;replace d1:=(hB1.cell (World.block_lt_of_cell? _ _ d1)).trans d1;replace d2:=(hB1.cell (World.block_lt_of_cell? _ _ d2)).trans d2;have HB1:=hid hB1;clear hm hc hB1 hb1;go_wp2
       go_big_quiet (fail)
       go_wp2
       go_ret3
       exact ⟨rfl,below_drewN HB1.out _⟩
 . have e0:P9 l ms cs=8:=if_neg hmay;have et:yY l ms cs key=(0,0,8):=if_neg hmay;rw [e0] at CK;rw [et];clear e0 et hmay hm hc;go_enter Tryz.func101,Tryz.ntmps101
   go_wp2_with fail
   refine (CK.out _ aH).mono ?_;rintro e w1 ⟨rfl,hb1⟩;go_wp2
   go_ret3
   exact ⟨rfl,by (exact aH)⟩
theorem acC (l k:Int) (hk1: -9223372036854775808<=k) (hk2:k<=9223372036854775807) (ma ca:Option Addr) (mc cc:Nat) (ms cs:List Int) (w:World) (hm:aQ .i64 w ma ms) (hc:aQ .i64 w ca cs):
    Calls Tryz.prog 59 #[um l ma ms.length mc ca cs.length cc,.int .i64 k] w (Ans w (.tuple #[.int .i64 (CW l ms cs k).1,.int .i64 (CW l ms cs k).2.1,.int .i64 (CW l ms cs k).2.2])):=by
 have CK:=hid (fun (W:World) (hb:Below w.heap.size w W)=>yD l ma ca mc cc ms cs W (hm.below hb) (hc.below hb));by_cases hmay:oO l ms cs=true
 . have e0:P9 l ms cs=0:=if_pos hmay;obtain ⟨L,D,N,F,hl,h1,h2,hN,hD,hF,hNF,hFb,hF0,hL,XP,hlm,hlc,hg⟩:=uP hmay;have et:CW l ms cs k=if k<0 then (0,0,290) else oh (nK (fU L ms) (fU L cs) D 1) 0 k:=by rw [CW,if_pos hmay,wE,XP,hL]
   rw [et];rw [hlm,hlc,e0] at CK;rw [hlm,hlc];obtain ⟨b2,o2,x2,rfl,hx2,d2,-⟩:=hc.get (i:=0) xo;have r2:fU L cs 1=x2:=(xC h1 cs).trans hx2.out;obtain ⟨q1,q2,-⟩:=fM hg.own;rw [r2] at q1 q2;rw [Nat.add_zero] at d2;have hN0:0<N:=xo;by_cases hs:0<=k/\k<x2
   . obtain ⟨hs1,hs2⟩:=hs;have WY:=hid (fun (W:World) (hb:Below w.heap.size w W) (bk:Nat) (hk:W.cell? ⟨bk,0,none⟩=some (.int .i64 k))=>
      QP L N D F l hl h1 h2 hN hD hF ma (some ⟨b2,o2,none⟩) mc cc ms cs hlm hlc W (hm.below hb) (hc.below hb) k bk hk (EE k (fU L ms) (fU L cs) D) (fun m c s=>decide (k-s<c)) (EE.root hg hs1 (by rw [r2];exact hs2))
        (fun d n s h=>h.step) (fun d n s W' h hk'=>aac _ _ s k bk W' hk' (by have:=h.2.1;omega) (by have:=h.2.2.2.1;omega)))
     rw [if_neg xo];have HF:=hid hF;clear hmay hN hD hF hL XP hlm hlc hg et r2 hx2 e0 hl h1 h2 hNF;have g1:decide (k<0)=false:=by simp;omega
     go_enter Tryz.func59,Tryz.ntmps59
     go_wp2_with fail
     refine (CK.out _ aH).mono ?_;rintro e w1 ⟨rfl,hb1⟩;have aA:=hb1.size;try simp only [World.size_alloc,World.size_setCell] at aA
     have hh:=bc3 hb1 (rU (uu (b:=w.heap.size) ax));obtain ⟨aO,aN,aK⟩:=hh;have bF:=aP hb1 (dB (bV (b:=w.heap.size) ax));have WZ:=bc1 hb1 (Xl (b:=w.heap.size+1) ax);have z_k:=aP hb1 (bV (b:=w.heap.size+1) ax);have hB1:Below w.heap.size w w1:=aH;replace d2:=(hB1.cell (World.block_lt_of_cell? _ _ d2)).trans d2;have HB1:=hid hB1;clear hm hc hB1 hb1;go_wp2
     go_big_quiet (fail)
     go_wp2_with (go_at_call 107;refine (WY.out _ (below_drewN HB1.out _) _ dC).mono ?_;rintro e w2 ⟨n,s,rfl,hP,hn1,hn2,hb2⟩)
     have ck:w2.cell? ⟨w.heap.size+1,0,none⟩=some (.int .i64 k):=(hb2.cell (p:=⟨w.heap.size+1,0,none⟩) (by simp;omega)).trans dC;have hps:=hP.2.1;have hp0:=hP.2.2.2.1;have HP:=hid hP;have HB2:=hid (aj hb2 (below_drewN HB1.out _) (by simp;omega));have hwr:IntKind.i64.wrap (k-s)=k-s:=IntWalk.i64_in _ xo;clear hP hb2;go_wp2
     go_big_quiet (fail)
     go_wp2
     go_ret3
     rw [HP.out.last HF.out];exact ⟨rfl,below_drewN HB2.out _⟩
   . have ef:(if k<0 then ((0,0,290):Int×Int×Int) else oh (nK (fU L ms) (fU L cs) D 1) 0 k)=(0,0,290):=by
       split
       . rfl
       . exact RP hg (by rw [r2];omega) 0
     rw [ef];have hsp:k<0\/(0<=k/\x2<=k):=xo;clear hmay hN hD hF hL XP hlm hlc hg et r2 hx2 e0 hl h1 h2 hNF hs ef;rcases hsp with h0 | ⟨h0,h1⟩
     . have g1:decide (k<0)=true:=by simp [h0]
       go_enter Tryz.func59,Tryz.ntmps59
       go_wp2_with fail
       refine (CK.out _ aH).mono ?_;rintro e w1 ⟨rfl,hb1⟩;have aA:=hb1.size;try simp only [World.size_alloc,World.size_setCell] at aA
       have hh:=bc3 hb1 (rU (uu (b:=w.heap.size) ax));obtain ⟨aO,aN,aK⟩:=hh;have bF:=aP hb1 (dB (bV (b:=w.heap.size) ax));have WZ:=bc1 hb1 (Xl (b:=w.heap.size+1) ax);have z_k:=aP hb1 (bV (b:=w.heap.size+1) ax);have hB1:Below w.heap.size w w1:=aH;replace d2:=(hB1.cell (World.block_lt_of_cell? _ _ d2)).trans d2;have HB1:=hid hB1;clear hm hc hB1 hb1;go_wp2
       go_big_quiet (fail)
       go_wp2
       go_ret3
       exact ⟨rfl,below_drewN HB1.out _⟩
     . have g1:decide (k<0)=false:=by simp;omega
       go_enter Tryz.func59,Tryz.ntmps59
       go_wp2_with fail
       refine (CK.out _ aH).mono ?_;rintro e w1 ⟨rfl,hb1⟩;have aA:=hb1.size;try simp only [World.size_alloc,World.size_setCell] at aA
       have hh:=bc3 hb1 (rU (uu (b:=w.heap.size) ax));obtain ⟨aO,aN,aK⟩:=hh;have bF:=aP hb1 (dB (bV (b:=w.heap.size) ax));have WZ:=bc1 hb1 (Xl (b:=w.heap.size+1) ax);have z_k:=aP hb1 (bV (b:=w.heap.size+1) ax);have hB1:Below w.heap.size w w1:=aH;replace d2:=(hB1.cell (World.block_lt_of_cell? _ _ d2)).trans d2;have HB1:=hid hB1;clear hm hc hB1 hb1;go_wp2
       go_big_quiet (fail)
       go_wp2
       go_ret3
       exact ⟨rfl,below_drewN HB1.out _⟩
 . have e0:P9 l ms cs=8:=if_neg hmay;have et:CW l ms cs k=(0,0,8):=if_neg hmay;rw [e0] at CK;rw [et];clear e0 et hmay hm hc;go_enter Tryz.func59,Tryz.ntmps59
   go_wp2_with fail
   refine (CK.out _ aH).mono ?_;rintro e w1 ⟨rfl,hb1⟩;go_wp2
   go_ret3
   exact ⟨rfl,by (exact aH)⟩
end
section
open Go.RowKit Go.Shelf
theorem vO {s:aW} (h:fV s=true) {a b:Nat} (hb:b<=s.ks.length):(b_ s a b).length<=65536:=by
 obtain ⟨S,M,hS,h4,h64,hk,hv,hc,hM,hSM,hM2,hw,-⟩:=dW (c:=s) (by unfold fV at h;simp only [Bool.and_eq_true] at h;exact h.1.1);have:=Gu (c:=s) (a:=a) (b:=b);omega
theorem Q_ {s:aW} (h:fV s=true):∃S:Nat,s.ai=(S:Int)/\s.ai.toNat=S/\S<=64/\s.ks.length<=65536:=by
 obtain ⟨S,M,hS,h4,h64,hk,hv,hc,hM,hSM,hM2,hw,-⟩:=dW (c:=s) (by unfold fV at h;simp only [Bool.and_eq_true] at h;exact h.1.1);exact ⟨S,hS,by omega,h64,by omega⟩
theorem Jj {r:bK} {A:dZ} {w:World} (h:AX w r A) (hE:r.E=0) (i:Nat) (hle:(i+1)*r.s.ai.toNat<=r.s.ks.length) (b1 b2 bu:Nat) (W:World) (hb:Below w.heap.size w W)
    (c1:W.cell? ⟨b1,0,none⟩=some (.pointer (some ⟨bu,0,none⟩))) (c2:W.cell? ⟨b2,0,none⟩=some (.int .i64 i)) (hx:BX W bu 94 (bz r A)):
    Iter Tryz.prog 109 #[.pointer (some ⟨b1,0,none⟩),.pointer (some ⟨b2,0,none⟩)] (sD (b_ r.s (i*r.s.ai.toNat) ((i+1)*r.s.ai.toNat))) F6 W:=by
 have hp:=(bK.ok hE).1;have hm:=xG hp;obtain ⟨S,hS,hS2,h64,hk⟩:=Q_ hm;have h4:4<=S:=by
  obtain ⟨S',M,hS',h4',-⟩:=dW (c:=r.s) (by unfold fV at hm;simp only [Bool.and_eq_true] at hm;exact hm.1.1);omega
 rw [hS2] at hle ⊢;have h1:(i+1)*S=i*S+S:=Nat.succ_mul _ _;have h2:i<=i*S:=Nat.le_mul_of_pos_right _ xo;refine NJ r A i (S:Int) ((i*S:Nat):Int) (((i+1)*S:Nat):Int) _ (Nat.le_trans (vO hm hle) au) hS (by push_cast;rfl) (by push_cast;rfl) xo xo xo xo xo b1 b2 bu W c1 c2 hx (hid fun W' hB=> ?_);have:=sW r.s A.sa (Nat.le_trans h.sz.w au) (Nat.le_trans h.sz.k au) ((i*S:Nat):Int) (((i+1)*S:Nat):Int) W' ((h.sl.below hb).below hB);have e:iR r.s ((i*S:Nat):Int) (((i+1)*S:Nat):Int)=0:=by rw [iR,if_pos hm,if_pos ⟨by omega,by omega,by omega⟩]
 rw [Gv,if_pos e,e,Int.toNat_natCast,Int.toNat_natCast] at this;exact this
theorem W9 {r:bK} {A:dZ} {w:World} (key:Int) (h:AX w r A) (hE:r.E=0) (bu:Nat) (hx:BX w bu 94 (bz r A)):
    Calls Tryz.prog 52 #[.pointer (some ⟨bu,0,none⟩),.int .i64 key] w (aC w (.tuple #[uw (LV r.L key),.int .i64 (qM r.L key),.int .i64 (IP r.L key)])):=by
 obtain ⟨hp,hl,hm,hc⟩:=bK.ok hE;have hb:=CG hp h.sz.c;obtain ⟨t1,t2,t3,t4⟩:=Xb hb;have HM:=fun W (hB:Below w.heap.size w W)=>aaf r.l key A.ma A.ca A.mc A.cc r.ms r.cs W (h.m.below hB) (h.n.below hB)
 have eh:yY r.l r.ms r.cs key=yY (iE r.s) (gy r.s) (fZ r.s) key:=by rw [hl,hm,hc]
 rw [eh] at HM;rcases ZE hb key with ⟨h1,h2,h3⟩ | ⟨i,A',M,B,h1,e,hM,ha,hex,hle⟩
 . have e1:LV r.L key=(0,0):=by rw [LV,bK.L,h2];rfl
   have e2:qM r.L key=r.L.length:=h3;have e3:IP r.L key=6:=by rw [IP,bK.L,h2];rfl
   rw [e1,e2,e3];rw [h1] at HM;exact S9 r A key w bu hx 6 _ au h.n (by rw [hc];exact t2) (by rw [hc];exact t1) (hid HM)
 . have hr:=oK (lS hp).2;rw [h1] at HM;have hA:A'.length<=65536:=by
    have:=vO (xG hp) (a:=0) (Nat.le_refl r.s.ks.length);rw [e,List.length_append] at this;omega
   have hce:IP r.L key=0:=by
    obtain ⟨p,hpM,hkp⟩:=hex;cases q:Kv r.L key with
    | some x=>rw [IP,q];rfl
    | none=>
     have:=List.find?_eq_none.1 q p (by show p ∈ r.L;rw [bK.L,e];exact List.mem_append.2 (.inr (List.mem_append.2 (.inl hpM))));exact absurd hkp (by simpa using this)
   rw [hce];refine Zg r A key w bu hx i (A'.length:Int) M (LV r.L key) (qM r.L key) (by rw [hM];exact vO (xG hp) hle) xo xo (fun k hk hlow hp'=> ?_) (fun hall=> ?_) (hid HM) (hid fun W b1 b2 hB c1 c2 hx'=> ?_)
   . obtain ⟨g1,g2⟩:=acg hr e ha hk hlow hp';refine ⟨?_,?_⟩
     . rw [LV,bK.L,g1];rfl
     . rw [bK.L,g2];push_cast;rfl
   . obtain ⟨p,hpM,hkp⟩:=hex;obtain ⟨j,hj,rfl⟩:=List.getElem_of_mem hpM;have:=hall j hj;rw [List.getD_eq_getElem?_getD,List.getElem?_eq_getElem hj,Option.getD_some] at this;omega
   . rw [hM];exact Jj h hE i hle b1 b2 bu W hB c1 c2 hx'
theorem agG (r:bK) (A:dZ) (key:Int) (w:World) (h:AX w r A):Calls Tryz.prog 20 #[eU r A,.int .i64 key] w (aC w (.tuple #[.int .i64 (r.gV key).1,.int .i64 (r.gV key).2])):=by
 have CK:=fun W (hB:Below w.heap.size w W)=>DL r A W (h.below hB)
 by_cases hE:r.E=0
 . rw [hE] at CK;have FR:=fun W bu (hB:Below w.heap.size w W) hx=>W9 (w:=W) key (h.below hB) hE bu hx
   have hr:=oK (lS (bK.ok hE).1).2;have hf:=ab7 hr key;cases q:Kv r.L key with
   | none=>
    have e3:IP r.L key=6:=by rw [IP,q];rfl
    have hg:r.gV key=(0,6):=by rw [bK.gV,if_pos hE,bK.L,hf];rw [bK.L] at q;rw [q];rfl
    rw [hg];rw [e3] at FR;exact ZO r A key w _ _ 6 au (hid CK) (hid FR)
   | some p=>
    have e3:IP r.L key=0:=by rw [IP,q];rfl
    have e1:LV r.L key=p:=by rw [LV,q];rfl
    rw [e3,e1] at FR;by_cases hk:p.1=key
    . have hg:r.gV key=(p.2,0):=by rw [bK.gV,if_pos hE,bK.L,hf];rw [bK.L] at q;rw [q];simp [hk]
      rw [hg];exact ZN r A key w p _ hk (hid CK) (hid FR)
    . have hg:r.gV key=(0,6):=by rw [bK.gV,if_pos hE,bK.L,hf];rw [bK.L] at q;rw [q];simp [hk]
      rw [hg];exact ZP r A key w p _ hk (hid CK) (hid FR)
 . have hg:r.gV key=(0,r.E):=if_neg hE;rw [hg];exact ZQ r A key w r.E hE (hid CK)
theorem aaH (r:bK) (A:dZ) (key:Int) (w:World) (h:AX w r A):Calls Tryz.prog 22 #[eU r A,.int .i64 key] w (aC w (.tuple #[.int .i64 (r.rV key).1,.int .i64 (r.rV key).2])):=by
 have CK:=fun W (hB:Below w.heap.size w W)=>DL r A W (h.below hB)
 by_cases hE:r.E=0
 . have hg:r.rV key=((qM r.L key:Int),0):=if_pos hE;rw [hE] at CK;rw [hg];exact WS r A key w _ _ _ (hid CK) (hid fun W bu hB hx=>W9 (w:=W) key (h.below hB) hE bu hx)
 . have hg:r.rV key=(0,r.E):=if_neg hE;rw [hg];exact WT r A key w r.E hE (hid CK)
theorem aaI (r:bK) (A:dZ) (key:Int) (w:World) (h:AX w r A):Calls Tryz.prog 24 #[eU r A,.int .i64 key] w (aC w (.tuple #[uw (r.nV key).1,.int .i64 (r.nV key).2])):=by
 have CK:=fun W (hB:Below w.heap.size w W)=>DL r A W (h.below hB)
 by_cases hE:r.E=0
 . have hg:r.nV key=(LV r.L key,IP r.L key):=if_pos hE;rw [hE] at CK;rw [hg];exact WU r A key w _ _ _ (hid CK) (hid fun W bu hB hx=>W9 (w:=W) key (h.below hB) hE bu hx)
 . have hg:r.nV key=((0,0),r.E):=if_neg hE;rw [hg];exact WV r A key w r.E hE (hid CK)
theorem Ie (r:bK) (A:dZ) (k:Int) (hk1: -9223372036854775808<=k) (hk2:k<=9223372036854775807) (w:World) (h:AX w r A):Calls Tryz.prog 26 #[eU r A,.int .i64 k] w (aC w (.tuple #[uw (r.sV k).1,.int .i64 (r.sV k).2])):=by
 have CK:=fun W (hB:Below w.heap.size w W)=>DL r A W (h.below hB)
 by_cases hE:r.E=0
 . obtain ⟨hp,hl,hm,hc⟩:=bK.ok hE;have hb:=CG hp h.sz.c;rw [hE] at CK;have NT:=fun W (hB:Below w.heap.size w W)=>acC r.l k hk1 hk2 A.ma A.ca A.mc A.cc r.ms r.cs W (h.m.below hB) (h.n.below hB)
   have eh:CW r.l r.ms r.cs k=CW (iE r.s) (gy r.s) (fZ r.s) k:=by rw [hl,hm,hc]
   rw [eh] at NT;rcases acj hb k with ⟨h1,h2⟩ | ⟨i,q,A',M,B,h1,e,hM,hq,hk,hle⟩
   . have hg:r.sV k=((0,0),290):=by rw [bK.sV,if_pos hE];exact if_pos h1
     rw [hg];rw [h2] at NT;exact ZG r A k w 290 au (hid CK) (hid NT)
   . have hlen:r.L.length=A'.length+(M.length+B.length):=by rw [bK.L,e,List.length_append,List.length_append]
     have hg:r.sV k=(M.getD q (0,0),0):=by
      rw [bK.sV,if_pos hE,if_neg xo,hk,Int.toNat_natCast,bK.L,e];congr 1
      rw [List.getD_eq_getElem?_getD,List.getElem?_append_right xo,Nat.add_sub_cancel_left,List.getElem?_append_left hq,List.getD_eq_getElem?_getD]
     rw [hg];rw [h1] at NT;refine ZF r A k w i q M (by rw [hM];exact vO (xG hp) hle) hq _ rfl (hid CK) (hid NT) (hid fun W b1 b2 bu hB c1 c2 hx=> ?_);rw [hM];exact Jj h hE i hle b1 b2 bu W hB c1 c2 hx
 . have hg:r.sV k=((0,0),r.E):=if_neg hE;rw [hg];exact ZH r A k w r.E hE (hid CK)
end
section
open Go.RowKit Go.Shelf Go.Sort
open Go.Lib
theorem Gw (p:Int×Int) (w:World):(binOp .eql 60 (.agg (fO p).toArray) (.agg (fO p).toArray)).run Tryz.prog w= .ok (.bool true) w:=by
 have u3:=Tryz.underlying2;have a3:=Tryz.isAgg2;have z3:=Tryz.sizeOf2;have hS:Tryz.prog.underlying 60=some (.struct (Tryz.prog.fieldsOf 60)):=by kernel_rfl
 have hp:Tryz.prog.stoodInHeld 60=false:=by kernel_rfl
 simp only [fO];rw [run_eql_struct,show (10000:Nat)=9999+1 from rfl,run_equalIn_agg w 9999 60 _ _ hS hp];simp only [Program.fieldsOf,Tryz.underlying60];go_simp
theorem Yp (a b:Int) (w:World):(binOp .eql 60 (.agg (fO (a,b)).toArray) (.agg #[.int .i64 a,.int .i64 b])).run Tryz.prog w= .ok (.bool true) w:=Gw (a,b) w
section
attribute [local go_sem high] Gw Yp
theorem Ik (c:bY) (r0 r1 r2:bK) (w:World)
    (CH:Hid (∀(W:World),Calls Tryz.prog 33 #[] W (aC W (.agg (LU c).toArray))))
    (NW:Hid (∀(W:World),Calls Tryz.prog 32 #[.agg (LU c).toArray] W (LZ W r0 0)))
    (P1:Hid (∀(W:World) (A:dZ),Below w.heap.size w W->AX W r0 A->XR r0 A->Calls Tryz.prog 9 #[eU r0 A,.int .i64 5,.int .i64 50] W (LZ W r1 0)))
    (P2:Hid (∀(W:World) (A:dZ),Below w.heap.size w W->AX W r1 A->XR r1 A->Calls Tryz.prog 9 #[eU r1 A,.int .i64 9,.int .i64 90] W (LZ W r2 0)))
    (RK:Hid (∀(W:World) (A:dZ),Below w.heap.size w W->AX W r2 A->XR r2 A->Calls Tryz.prog 22 #[eU r2 A,.int .i64 9] W (aC W (.tuple #[.int .i64 1,.int .i64 0]))))
    (NX:Hid (∀(W:World) (A:dZ),Below w.heap.size w W->AX W r2 A->XR r2 A->Calls Tryz.prog 24 #[eU r2 A,.int .i64 6] W (aC W (.tuple #[uw (9,90),.int .i64 0]))))
    (S0:Hid (∀(W:World) (A:dZ),Below w.heap.size w W->AX W r2 A->XR r2 A->Calls Tryz.prog 26 #[eU r2 A,.int .i64 0] W (aC W (.tuple #[uw (5,50),.int .i64 0]))))
    (S2:Hid (∀(W:World) (A:dZ),Below w.heap.size w W->AX W r2 A->XR r2 A->Calls Tryz.prog 26 #[eU r2 A,.int .i64 2] W (aC W (.tuple #[uw (0,0),.int .i64 290]))))
    (AT:Hid (∀(W:World) (A:dZ),Below w.heap.size w W->AX W r2 A->XR r2 A->Calls Tryz.prog 49 #[.agg (vX r2 A).toArray,.int .i64 1] W (aC W (.tuple #[.int .i64 9,.int .i64 2,.int .i64 0])))):
    Calls Tryz.prog 18 #[] w (aC w (.bool true)):=by
 go_enter Tryz.func18,Tryz.ntmps18
 go_wp2_with (fail)
 refine (CH.out _).mono ?_;rintro e w1 ⟨rfl,hb⟩;have HB:=hid hb;have hz1:=hb.size;have HX:Hid (lm w1 []):=hid trivial;clear hb;go_wp2_with (fail)
 refine (NW.out _).mono ?_;rintro e w2 ⟨A,rfl,ho,hb⟩;replace HX:=hid (HX.out.below hb);replace HB:=xv hb HB;have hz2:=hb.size;have HO:=hid ho;clear ho hb;go_upto_region 2 with (first|(refine bI 35 (.tmp 1) (.tmp 19) (iJ).toArray (bz r0 A).toArray rfl rfl rfl rfl xk rfl (iW _ _) ?_))
 have hx:=dR w2 (bz r0 A) 35;have hb:=(Below.refl w2.heap.size w2).alloc (Nat.le_refl _) (.cells (bz r0 A).toArray 35);generalize w2.alloc _=w3 at *;replace HX:=hid (HX.out.below hb);replace HB:=xv hb HB;have hz3:=hb.size;replace HO:=hid (HO.out.below hb);have lD:=aY hx;replace HX:=hid (HX.out.cons' hx);clear hx hb;go_wp2_with (first|(refine aJ 35 (.tmp 1) (w2.heap.size) (bz r0 A) xk rfl rfl Tryz.underlying35 rfl xk (aI (HX.out.at 0 rfl)) ?_))
 refine (P1.out _ _ HB.out HO.out.Ul HO.out.rm).mono ?_;rintro e w4 ⟨A1,rfl,ho,hb⟩;replace HX:=hid (HX.out.below hb);replace HB:=xv hb HB;have NR:=hb.size;replace HO:=hid (HO.out.below hb);replace HO:=hid ho;clear ho hb;go_upto_region 3 with (first|(refine bH 35 (.tmp 1) (.tmp 24) (w2.heap.size) (bz r0 A) (bz r1 A1) rfl rfl rfl rfl xk rfl (iW _ _) (HX.out.at 0 rfl) ?_;intro w5 hs hx))
 replace HX:Hid (lm w5 [(w2.heap.size,35,bz r1 A1)]):=hid ⟨hx,trivial⟩;replace HO:=hid (HO.out.row hs xo);replace HB:=hid (HB.out.trans (hs.bel _ xo));have Um:w4.heap.size<=w5.heap.size:=Nat.le_of_eq hs.size.symm;have hy5:w5.heap.size<=w4.heap.size:=Nat.le_of_eq hs.size;clear hs hx;go_wp2_with (first|(refine aJ 35 (.tmp 1) (w2.heap.size) (bz r1 A1) xk rfl rfl Tryz.underlying35 rfl xk (aI (HX.out.at 0 rfl)) ?_))
 refine (P2.out _ _ HB.out HO.out.Ul HO.out.rm).mono ?_;rintro e w6 ⟨A2,rfl,ho,hb⟩;replace HX:=hid (HX.out.below hb);replace HB:=xv hb HB;have hz6:=hb.size;replace HO:=hid (HO.out.below hb);replace HO:=hid ho;clear ho hb;go_upto_region 4 with (first|(refine bH 35 (.tmp 1) (.tmp 29) (w2.heap.size) (bz r1 A1) (bz r2 A2) rfl rfl rfl rfl xk rfl (iW _ _) (HX.out.at 0 rfl) ?_;intro w7 hs hx))
 replace HX:Hid (lm w7 [(w2.heap.size,35,bz r2 A2)]):=hid ⟨hx,trivial⟩;replace HO:=hid (HO.out.row hs xo);replace HB:=hid (HB.out.trans (hs.bel _ xo));have hz7:w6.heap.size<=w7.heap.size:=Nat.le_of_eq hs.size.symm;have hy7:w7.heap.size<=w6.heap.size:=Nat.le_of_eq hs.size;clear hs hx;go_wp2_with (first|(refine aJ 35 (.tmp 1) (w2.heap.size) (bz r2 A2) xk rfl rfl Tryz.underlying35 rfl xk (aI (HX.out.at 0 rfl)) ?_))
 refine (RK.out _ _ HB.out HO.out.Ul HO.out.rm).mono ?_;rintro e w8 ⟨rfl,hb⟩;replace HX:=hid (HX.out.below hb);replace HB:=xv hb HB;have hz8:=hb.size;replace HO:=hid (HO.out.below hb);clear hb;go_wp2_with (first|(refine aJ 35 (.tmp 1) (w2.heap.size) (bz r2 A2) xk rfl rfl Tryz.underlying35 rfl xk (aI (HX.out.at 0 rfl)) ?_))
 refine (NX.out _ _ HB.out HO.out.Ul HO.out.rm).mono ?_;rintro e w9 ⟨rfl,hb⟩;replace HX:=hid (HX.out.below hb);replace HB:=xv hb HB;have hz9:=hb.size;replace HO:=hid (HO.out.below hb);clear hb;go_upto_region 6 with (first|(refine bI 60 (.tmp 7) (.tmp 39) (fO (0,0)).toArray (fO (9,90)).toArray rfl rfl rfl rfl xk rfl (f_ _) ?_))
 have hx:=dR w9 (fO (9,90)) 60;have hb:=(Below.refl w9.heap.size w9).alloc (Nat.le_refl _) (.cells (fO (9,90)).toArray 60);generalize w9.alloc _=w10 at *;replace HX:=hid (HX.out.below hb);replace HB:=xv hb HB;have afE:=hb.size;replace HO:=hid (HO.out.below hb);have Ef:=aY hx;replace HX:=hid (HX.out.cons' hx);clear hx hb;go_wp2_with (first|(refine aJ 35 (.tmp 1) (w2.heap.size) (bz r2 A2) xk rfl rfl Tryz.underlying35 rfl xk (aI (HX.out.at 1 rfl)) ?_))
 refine (S0.out _ _ HB.out HO.out.Ul HO.out.rm).mono ?_;rintro e w11 ⟨rfl,hb⟩;replace HX:=hid (HX.out.below hb);replace HB:=xv hb HB;have afD:=hb.size;replace HO:=hid (HO.out.below hb);clear hb;go_upto_region 7 with (first|(refine bI 60 (.tmp 9) (.tmp 44) (fO (0,0)).toArray (fO (5,50)).toArray rfl rfl rfl rfl xk rfl (f_ _) ?_))
 have hx:=dR w11 (fO (5,50)) 60;have hb:=(Below.refl w11.heap.size w11).alloc (Nat.le_refl _) (.cells (fO (5,50)).toArray 60);generalize w11.alloc _=w12 at *;replace HX:=hid (HX.out.below hb);replace HB:=xv hb HB;have afC:=hb.size;replace HO:=hid (HO.out.below hb);have V8:=aY hx;replace HX:=hid (HX.out.cons' hx);clear hx hb;go_wp2_with (first|(refine aJ 35 (.tmp 1) (w2.heap.size) (bz r2 A2) xk rfl rfl Tryz.underlying35 rfl xk (aI (HX.out.at 2 rfl)) ?_))
 refine (S2.out _ _ HB.out HO.out.Ul HO.out.rm).mono ?_;rintro e w13 ⟨rfl,hb⟩;replace HX:=hid (HX.out.below hb);replace HB:=xv hb HB;have afB:=hb.size;replace HO:=hid (HO.out.below hb);clear hb;go_upto_region 8 with (first|(refine bI 60 (.tmp 11) (.tmp 49) (fO (0,0)).toArray (fO (0,0)).toArray rfl rfl rfl rfl xk rfl (f_ _) ?_))
 have hx:=dR w13 (fO (0,0)) 60;have hb:=(Below.refl w13.heap.size w13).alloc (Nat.le_refl _) (.cells (fO (0,0)).toArray 60);generalize w13.alloc _=w14 at *;replace HX:=hid (HX.out.below hb);replace HB:=xv hb HB;have abB:=hb.size;replace HO:=hid (HO.out.below hb);have ajl:=aY hx;replace HX:=hid (HX.out.cons' hx);clear hx hb;go_wp2_with (first|(refine cu 33 (.tmp 52) (w2.heap.size) 15 (vX r2 A2) xk rfl rfl Tryz.underlying33 rfl xk (fP (HX.out.at 3 rfl) 15 rfl) ?_))
 refine (AT.out _ _ HB.out HO.out.Ul HO.out.rm).mono ?_;rintro e w15 ⟨rfl,hb⟩;replace HX:=hid (HX.out.below hb);replace HB:=xv hb HB;have afA:=hb.size;replace HO:=hid (HO.out.below hb);clear hb;go_wp2_with (first|(refine aJ 60 (.tmp 7) (w9.heap.size) (fO (9,90)) xk rfl rfl Tryz.underlying60 rfl xk (aI (HX.out.at 2 rfl)) ?_)|(refine aJ 60 (.tmp 9) (w11.heap.size) (fO (5,50)) xk rfl rfl Tryz.underlying60 rfl xk (aI (HX.out.at 1 rfl)) ?_))
 go_ret
 exact ⟨rfl,HB.out⟩
end
def aaU:List Value:=[.int .u8 0,.int .i64 0,.int .i64 0,.int .i64 0,.int .i64 0,.int .i64 0,.int .i64 0,.int .i64 0,.int .i64 0]
def WR:bY:=⟨2,8,4,16,8,0,1,4,8⟩
theorem Tq (w:World):
    Calls Tryz.prog 33 #[] w (aC w (.agg (LU WR).toArray)):=by
 go_enter Tryz.func33,Tryz.ntmps33
 go_upto_region 1 with (fail)
 generalize hw0:w.alloc _=w0;obtain ⟨hb0,hx⟩:=lg (l1:=aaU) hw0;have HX:Hid (lm w0 [(w.heap.size,23,aaU)]):=hid hx;have HB:=hid hb0;have hz0:=hb0.size;clear hw0 hb0 hx;have sG:w.heap.size<w0.heap.size:=aY (HX.out.at 0 rfl);go_wp2_with (first|(refine bH 23 (.tmp 0) (.tmp 1) (w.heap.size) aaU (LU WR) rfl rfl rfl rfl xk rfl (by simp [LU,Value.oneCell']) (HX.out.at 0 rfl) ?_;intro w1 hs hx))
 exact bodyPost_ret (iO rfl rfl (ag _ Tryz.underlying23 rfl xk (aI hx))) rfl ⟨rfl,HB.out.trans (hs.bel _ xo)⟩
def cb0:bK:=NC WR
def cb1:bK:=cb0.pR 5 50
def cb2:bK:=cb1.pR 9 90
theorem I_ {c:bY} {s:aW} (h:s.ws.length<=100000/\s.ks.length<=100000/\s.vs.length<=100000/\s.cs.length<=8192) (hu:fB s.ws):Qu (xU c s):=UO c s h.1 h.2.1 h.2.2.1 h.2.2.2 hu
theorem OG (w:World) (hT:TabAt w):Calls Tryz.prog 18 #[] w (aC w (.bool true)):=by
 have h00:Ey WR=0/\gQ WR=true:=by decide +kernel
 have h1:cb0.pE 5=0/\cb1.pE 9=0/\cb0.E=0/\cb1.E=0:=by decide +kernel
 have h2:cb2.rV 9=(1,0)/\cb2.nV 6=((9,90),0)/\cb2.sV 0=((5,50),0)/\cb2.sV 2=((0,0),290):=by decide +kernel
 have h3:atM cb2.l cb2.ms cb2.cs 1=9/\atC cb2.l cb2.ms cb2.cs 1=2/\ZU cb2.l cb2.ms cb2.cs 1=0:=by decide +kernel
 have h4:qR (qV cb0.c cb0.s 5) (iK cb0.c cb0.s 5 50)=0/\qR (qV cb1.c cb1.s 9) (iK cb1.c cb1.s 9 90)=0:=by decide +kernel
 have h5:(cb1.s.ws.length<=100000/\cb1.s.ks.length<=100000/\cb1.s.vs.length<=100000/\cb1.s.cs.length<=8192)/\(cb2.s.ws.length<=100000/\cb2.s.ks.length<=100000/\cb2.s.vs.length<=100000/\cb2.s.cs.length<=8192):=by decide +kernel
 have e1:cb1=xU (qV cb0.c cb0.s 5) (iK cb0.c cb0.s 5 50):=if_pos h1.1;have e2:cb2=xU (qV cb1.c cb1.s 9) (iK cb1.c cb1.s 9 90):=if_pos h1.2.1;have u0:fB cb0.s.ws:=by
  have:NC WR=xU WR (lW WR):=by unfold NC;rw [if_pos h00.2]
  show fB (NC WR).s.ws;rw [this];exact (VC h00.2).u
 have u1:fB cb1.s.ws:=by rw [e1];exact (yP cb0.c cb0.s u0 5 50).2.2.2.2
 have u2:fB cb2.s.ws:=by rw [e2];exact (yP cb1.c cb1.s u1 9 90).2.2.2.2
 have z1:Qu cb1:=by
  have:=h5.1;rw [e1] at this u1 ⊢;exact I_ this u1
 have z2:Qu cb2:=by
  have:=h5.2;rw [e2] at this u2 ⊢;exact I_ this u2
 refine Ik WR cb0 cb1 cb2 w (hid fun W=>Tq W) (hid fun W=> ?_) (hid fun W A hB hi hr=> ?_) (hid fun W A hB hi hr=> ?_) (hid fun W A hB hi hr=> ?_) (hid fun W A hB hi hr=> ?_) (hid fun W A hB hi hr=> ?_) (hid fun W A hB hi hr=> ?_) (hid fun W A hB hi hr=> ?_)
 . have:=agF WR W;rw [h00.1] at this;exact this
 . have:=aen cb0 A 5 50 W hi hr (hT.below hB) fun _=>⟨h4.1,z1⟩
   rw [h1.1] at this;exact this
 . have:=aen cb1 A 9 90 W hi hr (hT.below hB) fun _=>⟨h4.2,z2⟩
   rw [h1.2.1] at this;exact this
 . have:=aaH cb2 A 9 W hi;rw [h2.1] at this;exact this
 . have:=aaI cb2 A 6 W hi;rw [h2.2.1] at this;exact this
 . have:=Ie cb2 A 0 au au W hi;rw [h2.2.2.1] at this;exact this
 . have:=Ie cb2 A 2 au au W hi;rw [h2.2.2.2] at this;exact this
 . have:=aeR cb2.l 1 A.ma A.ca A.mc A.cc cb2.ms cb2.cs W hi.m hi.n;rw [h3.1,h3.2.1,h3.2.2] at this;exact this
end
section
open Go.RowKit Go.Shelf Go.Sort
attribute [local go_sem] Oper.semAt_some
theorem YD {s:aW} (h:fE s=0) (key:Int):(kC s key=(0,6)/\Kv (b_ s 0 s.ks.length) key=none) \/
    ∃r:Nat,kC s key=((r:Int),0)/\r<s.ks.length/\Kv (b_ s 0 s.ks.length) key=some (s.ks.getD r 0,s.vs.getD r 0):=by
 have hF:=qF s.ws s.ks s.ks.length key;have hr:=oK h;unfold kC;rw [if_pos h];generalize xA s.ws s.ks s.ks.length key=r at *;have hlow:∀p ∈ b_ s 0 r,p.1<key:=fun p hp=>by
  obtain ⟨j,⟨-,h2,h3⟩,rfl⟩:=tK.1 hp;exact hF.low j h2 h3
 by_cases hn:r=s.ks.length
 . refine .inl ⟨if_pos hn,?_⟩;rw [<-hn];exact (Ib hlow).1
 . have hrn:r<s.ks.length:=by have:=hF.le;omega
   obtain ⟨f1,f2⟩:=hF.hit hrn;refine .inr ⟨r,if_neg hn,hrn,?_⟩;have e1:b_ s r (r+1)=[(s.ks.getD r 0,s.vs.getD r 0)]:=by
    have:=CE (c:=s) (Nat.le_refl r);rw [if_pos f1] at this;rw [this,b_,Ju];rfl
   have e:b_ s 0 s.ks.length=b_ s 0 r++((s.ks.getD r 0,s.vs.getD r 0)::b_ s (r+1) s.ks.length):=by
    rw [<-gZ s (Nat.zero_le r) (by omega:r<=s.ks.length),<-gZ s (Nat.le_succ r) (by omega:r+1<=s.ks.length),e1];rfl
   rw [e,(Qn hlow).1];unfold Kv;rw [List.find?_cons_of_pos (by simpa using f2)]
theorem Yy {s:aW} {t:Nat}:(Nz s.ws s.ks.length t=6/\(b_ s 0 s.ks.length).length<=t) \/
    ∃r:Nat,Ny s.ws s.ks.length t=(r:Int)/\Nz s.ws s.ks.length t=0/\r<s.ks.length/\t<(b_ s 0 s.ks.length).length/\(b_ s 0 s.ks.length).getD t (0,0)=(s.ks.getD r 0,s.vs.getD r 0):=by
 have hl:(b_ s 0 s.ks.length).length=(eQ s.ws 0 s.ks.length).length:=by rw [b_,List.length_map]
 by_cases h:t<(eQ s.ws 0 s.ks.length).length
 . refine .inr ⟨(eQ s.ws 0 s.ks.length).getD t 0,if_pos h,if_pos h,?_,by omega,?_⟩
   . have hm:(eQ s.ws 0 s.ks.length).getD t 0 ∈ eQ s.ws 0 s.ks.length:=by
       rw [List.getD_eq_getElem?_getD,List.getElem?_eq_getElem h];exact List.getElem_mem h
     exact (CJ hm).2
   . have e:(eQ s.ws 0 s.ks.length).getD t 0=(eQ s.ws 0 s.ks.length)[t]:=by rw [List.getD_eq_getElem?_getD,List.getElem?_eq_getElem h];rfl
     rw [b_,e,List.getD_eq_getElem?_getD,List.getElem?_map,List.getElem?_eq_getElem h];rfl
 . exact .inl ⟨if_neg h,by omega⟩
def plL (s:aW) (a:jJ) (i:Int):List Value:=[.int .i64 s.ai,.slice a.wa s.ws.length a.wc,.slice a.ka s.ks.length a.kc,.slice a.va s.vs.length a.vc,.slice a.ca s.cs.length a.cc,.int .u64 s.laid,.int .i64 i]
theorem KQ (s:aW) (a:jJ) (i:Int):Tryz.prog.built 103 [(0,.agg (oz s a).toArray),(1,.int .i64 i)]=some (plL s a i).toArray:=by kernel_rfl
theorem Vk (s:aW) (sa:jJ) (i:Nat) (hk:i<s.ks.length) (hv:i<s.vs.length) (w:World) (hin:iy w s sa):
    Calls Tryz.prog 58 #[.agg (plL s sa i).toArray] w (aC w (uw (s.ks.getD i 0,s.vs.getD i 0))):=by
 obtain ⟨bk,ok,x,hka,hx,cx,zx⟩:=hin.k.get (i:=i) hk;obtain ⟨bv,ov,y,hva,hy,cy,zy⟩:=hin.v.get (i:=i) hv;rw [hx.out,hy.out];have g1:decide ((i:Int)<(s.ks.length:Int))=true:=by simp;omega
 have g2:decide ((i:Int)<(s.vs.length:Int))=true:=by simp;omega
 clear hin hx hy;go_enter Tryz.func58,Tryz.ntmps58
 go_upto_region 1 with (fail)
 generalize hw0:(w.alloc _).alloc _=w0;obtain ⟨hb0,hx⟩:=iY (l1:=plL s sa i) (l2:=fO (0,0)) hw0;have HX:Hid (lm w0 [(w.heap.size+1,60,fO (0,0)),(w.heap.size,103,plL s sa i)]):=hid hx;have HB:=hid hb0;have hz0:=hb0.size;clear hw0 hb0 hx;have sG:w.heap.size+1<w0.heap.size:=aY (HX.out.at 0 rfl);have lD:w.heap.size<w0.heap.size:=aY (HX.out.at 1 rfl);have c2:w0.cell? ⟨w.heap.size,2,none⟩=some (.slice (some ⟨bk,ok,none⟩) s.ks.length sa.kc):=hka ▸ aI (HX.out.at 1 rfl) 2 _ rfl;have c3:w0.cell? ⟨w.heap.size,3,none⟩=some (.slice (some ⟨bv,ov,none⟩) s.vs.length sa.vc):=hva ▸ aI (HX.out.at 1 rfl) 3 _ rfl;have c6:=aI (HX.out.at 1 rfl) 6 _ rfl;have cx0:=(HB.out.cell (p:=⟨bk,ok+i,none⟩) zx).trans cx;have cy0:=(HB.out.cell (p:=⟨bv,ov+i,none⟩) zy).trans cy;have zx0:=World.block_lt_of_cell? _ _ cx0;have zy0:=World.block_lt_of_cell? _ _ cy0;clear cx cy hka hva;refine di 14 xk (N:=18) rfl xk xk au (fun w'=>Below w0.heap.size w0 w') RB (gU [.is (.pointer (some ⟨w.heap.size,0,none⟩)),.is (.pointer (some ⟨w.heap.size,2,none⟩)),.is (.slice (some ⟨bk,ok,none⟩) s.ks.length sa.kc),.is (.pointer (some ⟨w.heap.size,6,none⟩)),.is (.int .i64 i),.is (.pointer (some ⟨bk,ok+i,none⟩)),.is (.int .i64 x),.is (.pointer (some ⟨w.heap.size,0,none⟩)),.is (.pointer (some ⟨w.heap.size,3,none⟩)),.is (.slice (some ⟨bv,ov,none⟩) s.vs.length sa.vc),.is (.pointer (some ⟨w.heap.size,6,none⟩)),.is (.int .i64 i),.is (.pointer (some ⟨bv,ov+i,none⟩)),.is (.int .i64 y)]) (dA _) br.drew ?steps ?fin
 case steps=>
  refine ⟨?o0,?o1,?o2,?o3,?o4,?o5,?o6,?o7,?o8,?o9,?o10,?o11,?o12,?o13,trivial⟩<;>intro u a w' ev hJ hd K hK
  case o0=>
   have e1:tg a 1= .pointer (some ⟨w.heap.size,0,none⟩):=ev 1 au;have HK:=hid hK;clear hK ev hd;go_simp;exact HK.out _ _ aS hJ rfl br
  case o1=>
   have e3:tg a 3= .pointer (some ⟨w.heap.size,0,none⟩):=(ev 3 au).trans (hd 0 _ xk rfl);have HK:=hid hK;clear hK ev hd;go_simp;exact HK.out _ _ aS hJ rfl br
  case o2=>
   have e4:tg a 4= .pointer (some ⟨w.heap.size,2,none⟩):=(ev 4 au).trans (hd 1 _ xk rfl);have g0:=(hJ.cell (p:=⟨w.heap.size,2,none⟩) lD).trans c2;have HK:=hid hK;clear hK ev hd;go_simp;exact HK.out _ _ aS hJ rfl br
  case o3=>
   have e1:tg a 1= .pointer (some ⟨w.heap.size,0,none⟩):=ev 1 au;have HK:=hid hK;clear hK ev hd;go_simp;exact HK.out _ _ aS hJ rfl br
  case o4=>
   have e6:tg a 6= .pointer (some ⟨w.heap.size,6,none⟩):=(ev 6 au).trans (hd 3 _ xk rfl);have g0:=(hJ.cell (p:=⟨w.heap.size,6,none⟩) lD).trans c6;have HK:=hid hK;clear hK ev hd;go_simp;exact HK.out _ _ aS hJ rfl br
  case o5=>
   have e5:tg a 5= .slice (some ⟨bk,ok,none⟩) s.ks.length sa.kc:=(ev 5 au).trans (hd 2 _ xk rfl);have e7:tg a 7= .int .i64 i:=(ev 7 au).trans (hd 4 _ xk rfl);have HK:=hid hK;clear hK ev hd;go_simp;exact HK.out _ _ aS hJ rfl br
  case o6=>
   have e8:tg a 8= .pointer (some ⟨bk,ok+i,none⟩):=(ev 8 au).trans (hd 5 _ xk rfl);have g0:=(hJ.cell (p:=⟨bk,ok+i,none⟩) zx0).trans cx0;have HK:=hid hK;clear hK ev hd;go_simp;exact HK.out _ _ aS hJ rfl br
  case o7=>
   have e1:tg a 1= .pointer (some ⟨w.heap.size,0,none⟩):=ev 1 au;have HK:=hid hK;clear hK ev hd;go_simp;exact HK.out _ _ aS hJ rfl br
  case o8=>
   have e10:tg a 10= .pointer (some ⟨w.heap.size,0,none⟩):=(ev 10 au).trans (hd 7 _ xk rfl);have HK:=hid hK;clear hK ev hd;go_simp;exact HK.out _ _ aS hJ rfl br
  case o9=>
   have e11:tg a 11= .pointer (some ⟨w.heap.size,3,none⟩):=(ev 11 au).trans (hd 8 _ xk rfl);have g0:=(hJ.cell (p:=⟨w.heap.size,3,none⟩) lD).trans c3;have HK:=hid hK;clear hK ev hd;go_simp;exact HK.out _ _ aS hJ rfl br
  case o10=>
   have e1:tg a 1= .pointer (some ⟨w.heap.size,0,none⟩):=ev 1 au;have HK:=hid hK;clear hK ev hd;go_simp;exact HK.out _ _ aS hJ rfl br
  case o11=>
   have e13:tg a 13= .pointer (some ⟨w.heap.size,6,none⟩):=(ev 13 au).trans (hd 10 _ xk rfl);have g0:=(hJ.cell (p:=⟨w.heap.size,6,none⟩) lD).trans c6;have HK:=hid hK;clear hK ev hd;go_simp;exact HK.out _ _ aS hJ rfl br
  case o12=>
   have e12:tg a 12= .slice (some ⟨bv,ov,none⟩) s.vs.length sa.vc:=(ev 12 au).trans (hd 9 _ xk rfl);have e14:tg a 14= .int .i64 i:=(ev 14 au).trans (hd 11 _ xk rfl);have HK:=hid hK;clear hK ev hd;go_simp;exact HK.out _ _ aS hJ rfl br
  case o13=>
   have e15:tg a 15= .pointer (some ⟨bv,ov+i,none⟩):=(ev 15 au).trans (hd 12 _ xk rfl);have g0:=(hJ.cell (p:=⟨bv,ov+i,none⟩) zy0).trans cy0;have HK:=hid hK;clear hK ev hd;go_simp;exact HK.out _ _ aS hJ rfl br
 case fin=>
  intro u w2 hJ hG;have h9:u 9= .int .i64 x:=hG 6 _ rfl;have h16:u 16= .int .i64 y:=hG 13 _ rfl;replace HX:=hid (HX.out.below hJ);replace HB:=xv hJ HB;have hz2:=hJ.size;clear hG hJ c2 c3 c6 cx0 cy0;simp only [aX,kR,dstsOf,List.take_succ_cons,List.take_zero,List.filterMap_cons,List.filterMap_nil,List.contains_cons,List.contains_nil,Nat.reduceBEq,Bool.or_false,Bool.false_or,Bool.or_true,Bool.true_or,if_true,if_false,Bool.false_eq_true,Nat.reduceAdd,Nat.zero_add,List.drop_succ_cons,List.drop_zero,h9,h16];go_wp2_with (first|(refine bH 60 (.tmp 2) (.tmp 17) (w.heap.size+1) (fO (0,0)) (fO (x,y)) rfl rfl rfl rfl xk rfl (f_ _) (HX.out.at 0 rfl) ?_;intro w3 hs hx))
  exact bodyPost_ret (iO rfl rfl (ag _ Tryz.underlying60 rfl xk (aI hx))) rfl ⟨rfl,HB.out.trans (hs.bel _ xo)⟩
theorem aa8 (s:aW) (a:jJ) (i e:Int) (he:e≠0) (w:World):
    Calls Tryz.prog 57 #[.agg (oz s a).toArray,.int .i64 i,.int .i64 e,.func (.func 58) #[] #[]] w (aC w (.tuple #[uw (0,0),.int .i64 e])):=by
 have ge:(e != 0)=true:=by simpa using he
 clear he;go_enter Tryz.func57,Tryz.ntmps57
 go_upto_region 1 with (fail)
 generalize hw0:(w.alloc _).alloc _=w0;obtain ⟨hb0,hx⟩:=iY (l1:=oz s a) (l2:=fO (0,0)) hw0;have HX:Hid (lm w0 [(w.heap.size+1,60,fO (0,0)),(w.heap.size,29,oz s a)]):=hid hx;have HB:=hid hb0;have hz0:=hb0.size;clear hw0 hb0 hx;have sG:w.heap.size+1<w0.heap.size:=aY (HX.out.at 0 rfl);have lD:w.heap.size<w0.heap.size:=aY (HX.out.at 1 rfl);go_wp2_with (first|(refine bH 60 (.tmp 8) (.tmp 12) (w.heap.size+1) (fO (0,0)) (fO (0,0)) rfl rfl rfl rfl xk rfl (f_ _) (HX.out.at 0 rfl) ?_;intro w1 hs hx))
 exact bodyPost_ret (aF rfl rfl (ag _ Tryz.underlying60 rfl xk (aI hx))) rfl ⟨rfl,HB.out.trans (hs.bel _ xo)⟩
theorem aa7 (s:aW) (a:jJ) (i:Int) (p:Int×Int) (w:World)
    (PL:Hid (∀(W:World),Below w.heap.size w W->Calls Tryz.prog 58 #[.agg (plL s a i).toArray] W (aC W (uw p)))):
    Calls Tryz.prog 57 #[.agg (oz s a).toArray,.int .i64 i,.int .i64 0,.func (.func 58) #[] #[]] w (aC w (.tuple #[uw p,.int .i64 0])):=by
 go_enter Tryz.func57,Tryz.ntmps57
 go_upto_region 1 with (fail)
 generalize hw0:(w.alloc _).alloc _=w0;obtain ⟨hb0,hx⟩:=iY (l1:=oz s a) (l2:=fO (0,0)) hw0;have HX:Hid (lm w0 [(w.heap.size+1,60,fO (0,0)),(w.heap.size,29,oz s a)]):=hid hx;have HB:=hid hb0;have hz0:=hb0.size;clear hw0 hb0 hx;have sG:w.heap.size+1<w0.heap.size:=aY (HX.out.at 0 rfl);have lD:w.heap.size<w0.heap.size:=aY (HX.out.at 1 rfl);go_wp2_with (first|(refine aJ 29 (.tmp 4) (w.heap.size) (oz s a) xk rfl rfl Tryz.underlying29 rfl xk (aI (HX.out.at 1 rfl)) ?_)|(refine wS 103 0 1 (.tmp 15) (.tmp 16) (.agg (oz s a).toArray) (.int .i64 i) (plL s a i).toArray xk rfl rfl rfl (KQ s a i) ?_))
 refine (PL.out _ HB.out).mono ?_;rintro e w1 ⟨rfl,hb⟩;replace HX:=hid (HX.out.below hb);replace HB:=xv hb HB;have hz1:=hb.size;clear hb;go_wp2_with (first|(refine bH 60 (.tmp 8) (.tmp 18) (w.heap.size+1) (fO (0,0)) (fO p) rfl rfl rfl rfl xk rfl (f_ _) (HX.out.at 0 rfl) ?_;intro w2 hs hx))
 exact bodyPost_ret (aF rfl rfl (ag _ Tryz.underlying60 rfl xk (aI hx))) rfl ⟨rfl,HB.out.trans (hs.bel _ xo)⟩
theorem Jc (s:aW) (a:jJ) (key i e x:Int) (p:Int×Int) (w:World)
    (NX:Hid (∀(W:World),Below w.heap.size w W->Calls Tryz.prog 56 #[.agg (oz s a).toArray,.int .i64 key] W (aC W (.tuple #[.int .i64 i,.int .i64 e]))))
    (TE:Hid (∀(W:World),Below w.heap.size w W->Calls Tryz.prog 57 #[.agg (oz s a).toArray,.int .i64 i,.int .i64 e,.func (.func 58) #[] #[]] W (aC W (.tuple #[uw p,.int .i64 x])))):
    Calls Tryz.prog 25 #[.agg (oz s a).toArray,.int .i64 key] w (aC w (.tuple #[uw p,.int .i64 x])):=by
 go_enter Tryz.func25,Tryz.ntmps25
 go_upto_region 1 with (fail)
 generalize hw0:(w.alloc _).alloc _=w0;obtain ⟨hb0,hx⟩:=iY (l1:=oz s a) (l2:=fO (0,0)) hw0;have HX:Hid (lm w0 [(w.heap.size+1,60,fO (0,0)),(w.heap.size,29,oz s a)]):=hid hx;have HB:=hid hb0;have hz0:=hb0.size;clear hw0 hb0 hx;have sG:w.heap.size+1<w0.heap.size:=aY (HX.out.at 0 rfl);have lD:w.heap.size<w0.heap.size:=aY (HX.out.at 1 rfl);go_wp2_with (first|(refine aJ 29 (.tmp 2) (w.heap.size) (oz s a) xk rfl rfl Tryz.underlying29 rfl xk (aI (HX.out.at 1 rfl)) ?_))
 refine (NX.out _ HB.out).mono ?_;rintro e w1 ⟨rfl,hb⟩;replace HX:=hid (HX.out.below hb);replace HB:=xv hb HB;have hz1:=hb.size;clear hb;go_wp2_with (first|(refine aJ 29 (.tmp 2) (w.heap.size) (oz s a) xk rfl rfl Tryz.underlying29 rfl xk (aI (HX.out.at 1 rfl)) ?_))
 refine (TE.out _ HB.out).mono ?_;rintro e w2 ⟨rfl,hb⟩;replace HX:=hid (HX.out.below hb);replace HB:=xv hb HB;have hz2:=hb.size;clear hb;go_wp2_with (first|(refine bH 60 (.tmp 4) (.tmp 18) (w.heap.size+1) (fO (0,0)) (fO p) rfl rfl rfl rfl xk rfl (f_ _) (HX.out.at 0 rfl) ?_;intro w3 hs hx))
 exact bodyPost_ret (aF rfl rfl (ag _ Tryz.underlying60 rfl xk (aI hx))) rfl ⟨rfl,HB.out.trans (hs.bel _ xo)⟩
theorem Pg (s:aW) (a:jJ) (key i e:Int) (he:e≠0) (w:World)
    (CK:Hid (∀(W:World),Below w.heap.size w W->Calls Tryz.prog 51 #[.agg (oz s a).toArray] W (aC W (.int .i64 0))))
    (NT:Hid (∀(W:World),Below w.heap.size w W->Calls Tryz.prog 61 #[.slice a.wa s.ws.length a.wc,.int .i64 s.ks.length,.int .i64 key] W (aC W (.tuple #[.int .i64 i,.int .i64 e])))):
    Calls Tryz.prog 27 #[.agg (oz s a).toArray,.int .i64 key] w (aC w (.tuple #[uw (0,0),.int .i64 290])):=by
 have ge:(e != 0)=true:=by simpa using he
 clear he;go_enter Tryz.func27,Tryz.ntmps27
 go_upto_region 1 with (fail)
 generalize hw0:(w.alloc _).alloc _=w0;obtain ⟨hb0,hx⟩:=iY (l1:=oz s a) (l2:=fO (0,0)) hw0;have HX:Hid (lm w0 [(w.heap.size+1,60,fO (0,0)),(w.heap.size,29,oz s a)]):=hid hx;have HB:=hid hb0;have hz0:=hb0.size;clear hw0 hb0 hx;have sG:w.heap.size+1<w0.heap.size:=aY (HX.out.at 0 rfl);have lD:w.heap.size<w0.heap.size:=aY (HX.out.at 1 rfl);go_wp2_with (first|(refine aJ 29 (.tmp 2) (w.heap.size) (oz s a) xk rfl rfl Tryz.underlying29 rfl xk (aI (HX.out.at 1 rfl)) ?_))
 refine (CK.out _ HB.out).mono ?_;rintro e w1 ⟨rfl,hb⟩;replace HX:=hid (HX.out.below hb);replace HB:=xv hb HB;have hz1:=hb.size;clear hb;have c1:=aI (HX.out.at 1 rfl) 1 _ rfl;have c2:=aI (HX.out.at 1 rfl) 2 _ rfl;go_wp2_with (fail)
 refine (NT.out _ HB.out).mono ?_;rintro e w2 ⟨rfl,hb⟩;replace HX:=hid (HX.out.below hb);replace HB:=xv hb HB;have hz2:=hb.size;clear hb c1 c2;go_wp2_with (first|(refine bH 60 (.tmp 4) (.tmp 27) (w.heap.size+1) (fO (0,0)) (fO (0,0)) rfl rfl rfl rfl xk rfl (f_ _) (HX.out.at 0 rfl) ?_;intro w3 hs hx))
 exact bodyPost_ret (aF rfl rfl (ag _ Tryz.underlying60 rfl xk (aI hx))) rfl ⟨rfl,HB.out.trans (hs.bel _ xo)⟩
theorem X_ (s:aW) (a:jJ) (key i x:Int) (p:Int×Int) (w:World)
    (CK:Hid (∀(W:World),Below w.heap.size w W->Calls Tryz.prog 51 #[.agg (oz s a).toArray] W (aC W (.int .i64 0))))
    (NT:Hid (∀(W:World),Below w.heap.size w W->Calls Tryz.prog 61 #[.slice a.wa s.ws.length a.wc,.int .i64 s.ks.length,.int .i64 key] W (aC W (.tuple #[.int .i64 i,.int .i64 0]))))
    (TE:Hid (∀(W:World),Below w.heap.size w W->Calls Tryz.prog 57 #[.agg (oz s a).toArray,.int .i64 i,.int .i64 0,.func (.func 58) #[] #[]] W (aC W (.tuple #[uw p,.int .i64 x])))):
    Calls Tryz.prog 27 #[.agg (oz s a).toArray,.int .i64 key] w (aC w (.tuple #[uw p,.int .i64 x])):=by
 go_enter Tryz.func27,Tryz.ntmps27
 go_upto_region 1 with (fail)
 generalize hw0:(w.alloc _).alloc _=w0;obtain ⟨hb0,hx⟩:=iY (l1:=oz s a) (l2:=fO (0,0)) hw0;have HX:Hid (lm w0 [(w.heap.size+1,60,fO (0,0)),(w.heap.size,29,oz s a)]):=hid hx;have HB:=hid hb0;have hz0:=hb0.size;clear hw0 hb0 hx;have sG:w.heap.size+1<w0.heap.size:=aY (HX.out.at 0 rfl);have lD:w.heap.size<w0.heap.size:=aY (HX.out.at 1 rfl);go_wp2_with (first|(refine aJ 29 (.tmp 2) (w.heap.size) (oz s a) xk rfl rfl Tryz.underlying29 rfl xk (aI (HX.out.at 1 rfl)) ?_))
 refine (CK.out _ HB.out).mono ?_;rintro e w1 ⟨rfl,hb⟩;replace HX:=hid (HX.out.below hb);replace HB:=xv hb HB;have hz1:=hb.size;clear hb;have c1:=aI (HX.out.at 1 rfl) 1 _ rfl;have c2:=aI (HX.out.at 1 rfl) 2 _ rfl;go_wp2_with (fail)
 refine (NT.out _ HB.out).mono ?_;rintro e w2 ⟨rfl,hb⟩;replace HX:=hid (HX.out.below hb);replace HB:=xv hb HB;have hz2:=hb.size;clear hb c1 c2;go_wp2_with (first|(refine aJ 29 (.tmp 2) (w.heap.size) (oz s a) xk rfl rfl Tryz.underlying29 rfl xk (aI (HX.out.at 1 rfl)) ?_))
 refine (TE.out _ HB.out).mono ?_;rintro e w3 ⟨rfl,hb⟩;replace HX:=hid (HX.out.below hb);replace HB:=xv hb HB;have hz3:=hb.size;clear hb;go_wp2_with (first|(refine bH 60 (.tmp 4) (.tmp 32) (w.heap.size+1) (fO (0,0)) (fO p) rfl rfl rfl rfl xk rfl (f_ _) (HX.out.at 0 rfl) ?_;intro w4 hs hx))
 exact bodyPost_ret (aF rfl rfl (ag _ Tryz.underlying60 rfl xk (aI hx))) rfl ⟨rfl,HB.out.trans (hs.bel _ xo)⟩
theorem TS (wa:Option Addr) (wc:Nat) (ws:List Int) (hu:fB ws) (n:Nat) (t:Int) (ht:t<0) (hn:n<=65536) (hl:ws.length<=9223372036854775807) (hmay:j_ ws n=true) (w:World) (hw:aQ .u64 w wa ws):
    Calls Tryz.prog 61 #[.slice wa ws.length wc,.int .i64 n,.int .i64 t] w (aC w (.tuple #[.int .i64 0,.int .i64 6])):=by
 have AK:=hid (fun w hw=>(by have:=oL wa wc ws hu n hn hl w hw;rwa [if_pos hmay] at this:Calls Tryz.prog 110 #[.slice wa ws.length wc,.int .i64 n] w fun e w'=>e= .returned (.int .i64 0)/\w=w'));have HW:=hid hw;have g1:decide (t<0)=true:=by simpa using ht
 clear hw hmay hu ht;refine dM Tryz.func61 rfl ?_;simp only [Tryz.ntmps61,List.size_toArray,List.length_cons,List.length_nil,Nat.reduceAdd,Nat.reduceSub,Array.replicate_succ,Array.replicate_zero,List.push_toArray,List.append_toArray,List.nil_append,List.cons_append];go_wp2
 generalize hw0:((w.alloc _).alloc _).alloc _=w0;obtain ⟨hb0,hx⟩:=p_ (l1:=[.int .i64 t]) (l2:=[.int .i64 0]) (l3:=[.int .i64 0]) hw0;have ct:=aI (hx.at 2 rfl) 0 _ rfl;have cv:=aI (hx.at 1 rfl) 0 _ rfl;have ce:=aI (hx.at 0 rfl) 0 _ rfl;have fv:=gK (hx.at 1 rfl) (i:=0) (by show (0:Nat)<1;decide);have fe:=gK (hx.at 0 rfl) (i:=0) (by show (0:Nat)<1;decide);have HX:=hid hx;have HB:=hid hb0;clear hw0 hb0 hx;refine bZ 0 (fun _ _ _=>False) rfl (fun _ _ _ h=>h.elim) ?_;intro H hH nS;clear hH nS;go_wp2_with fail
 refine (AK.out _ (HW.out.below HB.out)).mono ?_;rintro e w' ⟨rfl,rfl⟩;go_wp2
 try simp only [Exit.jump]
 have r1:=iD w0 (w.heap.size+1) 0 (.int .i64 0);have r2:=iD (w0.setCell ⟨w.heap.size+1,0,none⟩ (.int .i64 0)) (w.heap.size+1+1) 0 (.int .i64 6);exact qp (kP rfl rfl rfl (bJ Tryz.underlying3 rfl (aI (r2.bx (iI (HX.out.at 1 rfl) 0 _) xo) 0 _ rfl)) (bJ Tryz.underlying38 rfl (aI (iI (r1.bx (HX.out.at 0 rfl) xo) 0 _) 0 _ rfl))) ⟨rfl,(HB.out.trans (r1.bel _ xo)).trans (r2.bel _ xo)⟩
end
section
open Go.RowKit Go.Shelf
theorem O6 {s:aW} {a:jJ} {r:Nat} (hk:r<s.ks.length) (hv:r<s.vs.length) (w:World) (h:iy w s a):
    Calls Tryz.prog 57 #[.agg (oz s a).toArray,.int .i64 r,.int .i64 0,.func (.func 58) #[] #[]] w (aC w (.tuple #[uw (s.ks.getD r 0,s.vs.getD r 0),.int .i64 0])):=
  aa7 s a r _ w (hid fun W hB=>Vk s a r hk hv W (h.below hB))
theorem Q5 {s:aW} (a:jJ) (key:Int) (hs:fE s=0) (hv:s.vs.length=s.ks.length) (hl:s.ws.length<=9223372036854775807) (hl2:s.ks.length<=1000000000000) (w:World) (h:iy w s a) (hT:TabAt w):
    Calls Tryz.prog 25 #[.agg (oz s a).toArray,.int .i64 key] w (aC w (.tuple #[uw (LV (b_ s 0 s.ks.length) key),.int .i64 (IP (b_ s 0 s.ks.length) key)])):=by
 have NX:=fun W (hB:Below w.heap.size w W)=>zQ s a key hl hl2 W (h.below hB) (hT.below hB)
 rcases YD hs key with ⟨h1,h2⟩ | ⟨r,h1,h2,h3⟩
 . have e1:LV (b_ s 0 s.ks.length) key=(0,0):=by rw [LV,h2];rfl
   have e2:IP (b_ s 0 s.ks.length) key=6:=by rw [IP,h2];rfl
   rw [e1,e2];rw [h1] at NX;exact Jc s a key 0 6 6 (0,0) w (hid NX) (hid fun W hB=>aa8 s a 0 6 au W)
 . have e1:LV (b_ s 0 s.ks.length) key=(s.ks.getD r 0,s.vs.getD r 0):=by rw [LV,h3];rfl
   have e2:IP (b_ s 0 s.ks.length) key=0:=by rw [IP,h3];rfl
   rw [e1,e2];rw [h1] at NX;exact Jc s a key r 0 0 _ w (hid NX) (hid fun W hB=>O6 h2 xo W (h.below hB))
theorem UW {s:aW} (a:jJ) (k:Int) (hk2:k<=9223372036854775807) (hs:fE s=0) (hv:s.vs.length=s.ks.length) (hl:s.ws.length<=9223372036854775807) (hl2:s.ks.length<=1000000000000) (w:World) (h:iy w s a) (hT:TabAt w):
    Calls Tryz.prog 27 #[.agg (oz s a).toArray,.int .i64 k] w (aC w (.tuple #[uw (if k<0\/((b_ s 0 s.ks.length).length:Int)<=k then (0,0) else (b_ s 0 s.ks.length).getD k.toNat (0,0)),.int .i64 (if k<0\/((b_ s 0 s.ks.length).length:Int)<=k then 290 else 0)])):=by
 have CK:=fun W (hB:Below w.heap.size w W)=>mX s a hl hl2 W (h.below hB)
 rw [hs] at CK;obtain ⟨n1,n2,n3⟩:=MX hs;by_cases h0:k<0
 . rw [if_pos (.inl h0),if_pos (.inl h0)];exact Pg s a k 0 6 au w (hid CK) (hid fun W hB=>TS a.wa a.wc s.ws h.u s.ks.length k h0 n1 xo n3 W (h.below hB).w)
 . obtain ⟨t,rfl⟩:∃t:Nat,k=t:=⟨k.toNat,by omega⟩
   have NT:=fun W (hB:Below w.heap.size w W)=>Xv a.wa a.wc s.ws h.u s.ks.length t n1 xo xo n3 W (h.below hB).w (hT.below hB)
   rcases Yy (s:=s) (t:=t) with ⟨e1,e2⟩ | ⟨r,e1,e2,e3,e4,e5⟩
   . rw [if_pos (.inr xo),if_pos (.inr xo)];rw [e1] at NT;exact Pg s a t _ 6 au w (hid CK) (hid NT)
   . rw [if_neg xo,if_neg xo,Int.toNat_natCast,e5];rw [e1,e2] at NT;exact X_ s a t r 0 _ w (hid CK) (hid NT) (hid fun W hB=>O6 e3 xo W (h.below hB))
end
end Go.Proofs.YtbedhbpgnfffmaaGreatDoor

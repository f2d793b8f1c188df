/- Merged: CobAnswers, CbAnWk, Open, OpenIx, OpenSl, OpenCf, OpenSlc, OpenPm, OpenPmw. -/
import Derived.Test.YtbedhbpgnfffmaaGreatDoorCobAnswersP14
import Derived.Laws.StructEq
import Derived.Test.YtbedhbpgnfffmaaGreatDoorCobAnswersP1
import Derived.ProofKit
import Derived.OpenShut
import Derived.ShutString
import Derived.ChangeOld
import Derived.Below
import Derived.Lib.SmallJoins
import Derived.Test.YtbedhbpgnfffmaaGreatDoorCobAnswersP3
import Derived.Test.YtbedhbpgnfffmaaGreatDoorCobAnswersP6
import Derived.Deep.SlicePairs
import Derived.Test.YtbedhbpgnfffmaaGreatDoorCobAnswersP8
namespace Go.Proofs.YtbedhbpgnfffmaaGreatDoor
set_option maxRecDepth 100000
set_option maxHeartbeats 40000000
set_option linter.unusedVariables false
set_option linter.unusedSimpArgs false
section
open Go.RowKit Go.Shelf Go.Sort
def Xu (w:World):List (Nat×Nat×bK×dZ)->Prop
  | []=>True
  | x::l=>AV w x.1 x.2.1 x.2.2.1 x.2.2.2/\Xu w l
theorem Xu.cons' {w:World} {B M:Nat} {r:bK} {A:dZ} {l:List (Nat×Nat×bK×dZ)} (k:Xu w l) (h:AV w B M r A):Xu w ((B,M,r,A)::l):=⟨h,k⟩
theorem Xu.at {w:World} {l:List (Nat×Nat×bK×dZ)} (h:Xu w l) (i:Nat) {x:Nat×Nat×bK×dZ} (hx:l[i]? =some x):AV w x.1 x.2.1 x.2.2.1 x.2.2.2:=by
 induction l generalizing i with
 | nil=>simp at hx
 | cons y l ih=>
  cases i with
  | zero=>simp at hx;subst hx;exact h.1
  | succ i=>exact ih h.2 i (by simpa using hx)
theorem Xu.below {w w':World} {l:List (Nat×Nat×bK×dZ)} (h:Xu w l) (hb:Below w.heap.size w w'):Xu w' l:=by
 induction l with
 | nil=>trivial
 | cons y l ih=>exact ⟨h.1.below hb,ih h.2⟩
theorem Yo (p:Int×Int) (w:World):(binOp .eql 60 (uw p) (uw p)).run Tryz.prog w= .ok (.bool true) w:=Gw p w
attribute [local go_sem high] Gw Yo
theorem acV (c:bY) (s:aW) (a:jJ) (key k:Int) (w:World) (hb:600<s.ks.length)
    (AL:Hid (∀(W:World),Below w.heap.size w W->Calls Tryz.prog 18 #[] W (aC W (.bool true)))):
    Calls Tryz.prog 4 #[.agg (ku c s a).toArray,.int .i64 key,.int .i64 k] w (aC w (.bool true)):=by
 go_enter Tryz.func4,Tryz.ntmps4
 go_upto_region 1 with (fail)
 generalize hw0:w.alloc _=w0;obtain ⟨hb0,hx⟩:=lg (l1:=ku c s a) hw0;have HX:Hid (lm w0 [(w.heap.size,31,ku c s a)]):=hid hx;have HB:=hid hb0;have hz0:=hb0.size;clear hw0 hb0 hx;have lD:w.heap.size<w0.heap.size:=aY (HX.out.at 0 rfl);go_wp2_with (fail)
 refine (AL.out _ HB.out).mono ?_;rintro e w1 ⟨rfl,hb⟩;replace HX:=hid (HX.out.below hb);replace HB:=xv hb HB;have hz1:=hb.size;clear hb;have c11:=aI (HX.out.at 0 rfl) 11 _ rfl;have g0:decide ((600:Int)<(s.ks.length:Int))=true:=by simp;omega
 go_wp2
 go_ret
 exact ⟨rfl,HB.out⟩
theorem acU (c:bY) (s:aW) (a:jJ) (key k:Int) (w:World) (e:Int) (he:e≠0) (hb:s.ks.length<=600)
    (AL:Hid (∀(W:World),Below w.heap.size w W->Calls Tryz.prog 18 #[] W (aC W (.bool true))))
    (OF:Hid (∀(W:World),Below w.heap.size w W->Calls Tryz.prog 13 #[.agg (ku c s a).toArray] W (LZ W qJ e)))
    (PK:Hid (∀(W:World),Below w.heap.size w W->Calls Tryz.prog 19 #[.agg (ku c s a).toArray] W (aC W (.int .i64 e)))):
    Calls Tryz.prog 4 #[.agg (ku c s a).toArray,.int .i64 key,.int .i64 k] w (aC w (.bool true)):=by
 have ge:(e != 0)=true:=by simpa using he
 clear he;go_enter Tryz.func4,Tryz.ntmps4
 go_upto_region 1 with (fail)
 generalize hw0:w.alloc _=w0;obtain ⟨hb0,hx⟩:=lg (l1:=ku c s a) hw0;have HX:Hid (lm w0 [(w.heap.size,31,ku c s a)]):=hid hx;have HB:=hid hb0;have hz0:=hb0.size;clear hw0 hb0 hx;have lD:w.heap.size<w0.heap.size:=aY (HX.out.at 0 rfl);go_wp2_with (fail)
 refine (AL.out _ HB.out).mono ?_;rintro e w1 ⟨rfl,hb⟩;replace HX:=hid (HX.out.below hb);replace HB:=xv hb HB;have hz1:=hb.size;clear hb;have c11:=aI (HX.out.at 0 rfl) 11 _ rfl;have g0:decide ((600:Int)<(s.ks.length:Int))=false:=by simp;omega
 have HO:Hid (Xu w1 []):=hid trivial;go_wp2_with (first|(refine aJ 31 (.tmp 3) (w.heap.size) (ku c s a) xk rfl rfl Tryz.underlying31 rfl xk (aI (HX.out.at 0 rfl)) ?_))
 refine (OF.out _ HB.out).mono ?_;rintro e w2 ⟨A2,rfl,ho,hb⟩;replace HX:=hid (HX.out.below hb);replace HB:=xv hb HB;have hz2:=hb.size;replace HO:=hid (HO.out.below hb);replace HO:=hid (HO.out.cons' ho);clear hb ho;go_upto_region 5 with (first|(refine bI 35 (.tmp 8) (.tmp 40) (iJ).toArray (bz qJ A2).toArray rfl rfl rfl rfl xk rfl (iW _ _) ?_))
 have hx:=dR w2 (bz qJ A2) 35;have hb:=(Below.refl w2.heap.size w2).alloc (Nat.le_refl _) (.cells (bz qJ A2).toArray 35);generalize w2.alloc _=w3 at *;replace HX:=hid (HX.out.below hb);replace HB:=xv hb HB;have hz3:=hb.size;replace HO:=hid (HO.out.below hb);have YZ:=aY hx;replace HX:=hid (HX.out.cons' hx);clear hx hb;have c16:w3.cell? ⟨w2.heap.size,16,none⟩=some (.slice A2.ma 0 A2.mc):=aI (HX.out.at 0 rfl) 16 _ rfl;have g1:(e==e)=true:=by simp
 go_wp2_with (first|(refine aJ 31 (.tmp 3) (w.heap.size) (ku c s a) xk rfl rfl Tryz.underlying31 rfl xk (aI (HX.out.at 1 rfl)) ?_))
 refine (PK.out _ HB.out).mono ?_;rintro e w4 ⟨rfl,hb⟩;replace HX:=hid (HX.out.below hb);replace HB:=xv hb HB;have NR:=hb.size;replace HO:=hid (HO.out.below hb);clear hb;replace c16:w4.cell? ⟨w2.heap.size,16,none⟩=some (.slice A2.ma 0 A2.mc):=aI (HX.out.at 0 rfl) 16 _ rfl;go_wp2
 go_ret
 exact ⟨rfl,HB.out⟩
theorem aar (c:bY) (s:aW) (a:jJ) (q:bK) (key k v ev n en2 ep eq:Int) (p z:Int×Int) (w:World) (hb:s.ks.length<=600)
    (AL:Hid (∀(W:World),Below w.heap.size w W->Calls Tryz.prog 18 #[] W (aC W (.bool true))))
    (OF:Hid (∀(W:World),Below w.heap.size w W->Calls Tryz.prog 13 #[.agg (ku c s a).toArray] W (LZ W q 0)))
    (KG:Hid (∀(W:World) (B:dZ),Below w.heap.size w W->AX W q B->Calls Tryz.prog 20 #[eU q B,.int .i64 key] W (aC W (.tuple #[.int .i64 v,.int .i64 ev]))))
    (RG:Hid (∀(W:World),Below w.heap.size w W->Calls Tryz.prog 21 #[.agg (ku c s a).toArray,.int .i64 key] W (aC W (.tuple #[.int .i64 v,.int .i64 ev]))))
    (KR:Hid (∀(W:World) (B:dZ),Below w.heap.size w W->AX W q B->Calls Tryz.prog 22 #[eU q B,.int .i64 key] W (aC W (.tuple #[.int .i64 n,.int .i64 en2]))))
    (RR:Hid (∀(W:World),Below w.heap.size w W->Calls Tryz.prog 23 #[.agg (oz s a).toArray,.int .i64 key] W (aC W (.tuple #[.int .i64 n,.int .i64 en2]))))
    (KX:Hid (∀(W:World) (B:dZ),Below w.heap.size w W->AX W q B->Calls Tryz.prog 24 #[eU q B,.int .i64 key] W (aC W (.tuple #[uw p,.int .i64 ep]))))
    (RX:Hid (∀(W:World),Below w.heap.size w W->Calls Tryz.prog 25 #[.agg (oz s a).toArray,.int .i64 key] W (aC W (.tuple #[uw p,.int .i64 ep]))))
    (KS:Hid (∀(W:World) (B:dZ),Below w.heap.size w W->AX W q B->Calls Tryz.prog 26 #[eU q B,.int .i64 k] W (aC W (.tuple #[uw z,.int .i64 eq]))))
    (RS:Hid (∀(W:World),Below w.heap.size w W->Calls Tryz.prog 27 #[.agg (oz s a).toArray,.int .i64 k] W (aC W (.tuple #[uw z,.int .i64 eq])))):
    Calls Tryz.prog 4 #[.agg (ku c s a).toArray,.int .i64 key,.int .i64 k] w (aC w (.bool true)):=by
 go_enter Tryz.func4,Tryz.ntmps4
 go_upto_region 1 with (fail)
 generalize hw0:w.alloc _=w0;obtain ⟨hb0,hx⟩:=lg (l1:=ku c s a) hw0;have HX:Hid (lm w0 [(w.heap.size,31,ku c s a)]):=hid hx;have HB:=hid hb0;have hz0:=hb0.size;clear hw0 hb0 hx;have lD:w.heap.size<w0.heap.size:=aY (HX.out.at 0 rfl);go_wp2_with (fail)
 refine (AL.out _ HB.out).mono ?_;rintro e w1 ⟨rfl,hb⟩;replace HX:=hid (HX.out.below hb);replace HB:=xv hb HB;have hz1:=hb.size;clear hb;have c11:=aI (HX.out.at 0 rfl) 11 _ rfl;have g0:decide ((600:Int)<(s.ks.length:Int))=false:=by simp;omega
 have HO:Hid (Xu w1 []):=hid trivial;go_wp2_with (first|(refine aJ 31 (.tmp 3) (w.heap.size) (ku c s a) xk rfl rfl Tryz.underlying31 rfl xk (aI (HX.out.at 0 rfl)) ?_))
 refine (OF.out _ HB.out).mono ?_;rintro e w2 ⟨A2,rfl,ho,hb⟩;replace HX:=hid (HX.out.below hb);replace HB:=xv hb HB;have hz2:=hb.size;replace HO:=hid (HO.out.below hb);replace HO:=hid (HO.out.cons' ho);clear hb ho;go_upto_region 5 with (first|(refine bI 35 (.tmp 8) (.tmp 40) (iJ).toArray (bz q A2).toArray rfl rfl rfl rfl xk rfl (iW _ _) ?_))
 have hx:=dR w2 (bz q A2) 35;have hb:=(Below.refl w2.heap.size w2).alloc (Nat.le_refl _) (.cells (bz q A2).toArray 35);generalize w2.alloc _=w3 at *;replace HX:=hid (HX.out.below hb);replace HB:=xv hb HB;have hz3:=hb.size;replace HO:=hid (HO.out.below hb);have YZ:=aY hx;replace HX:=hid (HX.out.cons' hx);clear hx hb;clear c11 g0;go_wp2_with (first|(refine aJ 35 (.tmp 8) (w2.heap.size) (bz q A2) xk rfl rfl Tryz.underlying35 rfl xk (aI (HX.out.at 0 rfl)) ?_))
 refine (KG.out _ _ HB.out (HO.out.at 0 rfl).Ul).mono ?_;rintro e w4 ⟨rfl,hb⟩;replace HX:=hid (HX.out.below hb);replace HB:=xv hb HB;have NR:=hb.size;replace HO:=hid (HO.out.below hb);clear hb;go_wp2_with (first|(refine aJ 31 (.tmp 3) (w.heap.size) (ku c s a) xk rfl rfl Tryz.underlying31 rfl xk (aI (HX.out.at 1 rfl)) ?_))
 refine (RG.out _ HB.out).mono ?_;rintro e w5 ⟨rfl,hb⟩;replace HX:=hid (HX.out.below hb);replace HB:=xv hb HB;have Um:=hb.size;replace HO:=hid (HO.out.below hb);clear hb;go_wp2_with (first|(refine aJ 35 (.tmp 8) (w2.heap.size) (bz q A2) xk rfl rfl Tryz.underlying35 rfl xk (aI (HX.out.at 0 rfl)) ?_))
 refine (KR.out _ _ HB.out (HO.out.at 0 rfl).Ul).mono ?_;rintro e w6 ⟨rfl,hb⟩;replace HX:=hid (HX.out.below hb);replace HB:=xv hb HB;have hz6:=hb.size;replace HO:=hid (HO.out.below hb);clear hb;go_wp2_with (first|(refine cu 29 (.tmp 77) (w.heap.size) 9 (oz s a) xk rfl rfl Tryz.underlying29 rfl xk (fP (HX.out.at 1 rfl) 9 rfl) ?_))
 refine (RR.out _ HB.out).mono ?_;rintro e w7 ⟨rfl,hb⟩;replace HX:=hid (HX.out.below hb);replace HB:=xv hb HB;have hz7:=hb.size;replace HO:=hid (HO.out.below hb);clear hb;go_wp2_with (first|(refine aJ 35 (.tmp 8) (w2.heap.size) (bz q A2) xk rfl rfl Tryz.underlying35 rfl xk (aI (HX.out.at 0 rfl)) ?_))
 refine (KX.out _ _ HB.out (HO.out.at 0 rfl).Ul).mono ?_;rintro e w8 ⟨rfl,hb⟩;replace HX:=hid (HX.out.below hb);replace HB:=xv hb HB;have hz8:=hb.size;replace HO:=hid (HO.out.below hb);clear hb;go_upto_region 12 with (first|(refine bI 60 (.tmp 18) (.tmp 87) (fO (0,0)).toArray (fO p).toArray rfl rfl rfl rfl xk rfl (f_ _) ?_))
 have hx:=dR w8 (fO p) 60;have hb:=(Below.refl w8.heap.size w8).alloc (Nat.le_refl _) (.cells (fO p).toArray 60);generalize w8.alloc _=w9 at *;replace HX:=hid (HX.out.below hb);replace HB:=xv hb HB;have hz9:=hb.size;replace HO:=hid (HO.out.below hb);have ahs:=aY hx;replace HX:=hid (HX.out.cons' hx);clear hx hb;go_wp2_with (first|(refine cu 29 (.tmp 90) (w.heap.size) 9 (oz s a) xk rfl rfl Tryz.underlying29 rfl xk (fP (HX.out.at 2 rfl) 9 rfl) ?_))
 refine (RX.out _ HB.out).mono ?_;rintro e w10 ⟨rfl,hb⟩;replace HX:=hid (HX.out.below hb);replace HB:=xv hb HB;have afE:=hb.size;replace HO:=hid (HO.out.below hb);clear hb;go_upto_region 13 with (first|(refine bI 60 (.tmp 20) (.tmp 94) (fO (0,0)).toArray (fO p).toArray rfl rfl rfl rfl xk rfl (f_ _) ?_))
 have hx:=dR w10 (fO p) 60;have hb:=(Below.refl w10.heap.size w10).alloc (Nat.le_refl _) (.cells (fO p).toArray 60);generalize w10.alloc _=w11 at *;replace HX:=hid (HX.out.below hb);replace HB:=xv hb HB;have afD:=hb.size;replace HO:=hid (HO.out.below hb);have ahr:=aY hx;replace HX:=hid (HX.out.cons' hx);clear hx hb;go_wp2_with (first|(refine aJ 35 (.tmp 8) (w2.heap.size) (bz q A2) xk rfl rfl Tryz.underlying35 rfl xk (aI (HX.out.at 2 rfl)) ?_))
 refine (KS.out _ _ HB.out (HO.out.at 0 rfl).Ul).mono ?_;rintro e w12 ⟨rfl,hb⟩;replace HX:=hid (HX.out.below hb);replace HB:=xv hb HB;have afC:=hb.size;replace HO:=hid (HO.out.below hb);clear hb;go_upto_region 14 with (first|(refine bI 60 (.tmp 22) (.tmp 100) (fO (0,0)).toArray (fO z).toArray rfl rfl rfl rfl xk rfl (f_ _) ?_))
 have hx:=dR w12 (fO z) 60;have hb:=(Below.refl w12.heap.size w12).alloc (Nat.le_refl _) (.cells (fO z).toArray 60);generalize w12.alloc _=w13 at *;replace HX:=hid (HX.out.below hb);replace HB:=xv hb HB;have afB:=hb.size;replace HO:=hid (HO.out.below hb);have ahq:=aY hx;replace HX:=hid (HX.out.cons' hx);clear hx hb;go_wp2_with (first|(refine cu 29 (.tmp 103) (w.heap.size) 9 (oz s a) xk rfl rfl Tryz.underlying29 rfl xk (fP (HX.out.at 4 rfl) 9 rfl) ?_))
 refine (RS.out _ HB.out).mono ?_;rintro e w14 ⟨rfl,hb⟩;replace HX:=hid (HX.out.below hb);replace HB:=xv hb HB;have abB:=hb.size;replace HO:=hid (HO.out.below hb);clear hb;go_upto_region 15 with (first|(refine bI 60 (.tmp 24) (.tmp 107) (fO (0,0)).toArray (fO z).toArray rfl rfl rfl rfl xk rfl (f_ _) ?_))
 have hx:=dR w14 (fO z) 60;have hb:=(Below.refl w14.heap.size w14).alloc (Nat.le_refl _) (.cells (fO z).toArray 60);generalize w14.alloc _=w15 at *;replace HX:=hid (HX.out.below hb);replace HB:=xv hb HB;have afA:=hb.size;replace HO:=hid (HO.out.below hb);have ahp:=aY hx;replace HX:=hid (HX.out.cons' hx);clear hx hb;have g4:(v==v)=true:=by simp
 have g5:(ev==ev)=true:=by simp
 have g6:(n==n)=true:=by simp
 have g7:(en2==en2)=true:=by simp
 have g8:(ep==ep)=true:=by simp
 have g9:(eq==eq)=true:=by simp
 go_wp2_with (first|(refine aJ 60 (.tmp 18) (w8.heap.size) (fO p) xk rfl rfl Tryz.underlying60 rfl xk (aI (HX.out.at 3 rfl)) ?_)|(refine aJ 60 (.tmp 20) (w10.heap.size) (fO p) xk rfl rfl Tryz.underlying60 rfl xk (aI (HX.out.at 2 rfl)) ?_)|(refine aJ 60 (.tmp 22) (w12.heap.size) (fO z) xk rfl rfl Tryz.underlying60 rfl xk (aI (HX.out.at 1 rfl)) ?_)|(refine aJ 60 (.tmp 24) (w14.heap.size) (fO z) xk rfl rfl Tryz.underlying60 rfl xk (aI (HX.out.at 0 rfl)) ?_))
 go_ret
 exact ⟨rfl,HB.out⟩
end
section
open Go.RowKit Go.Shelf
theorem YR {n:Int} (h:(Lit.int .i64 n).wf=true): -9223372036854775808<=n/\n<9223372036854775808:=by
 simp [Lit.wf,IntKind.min,IntKind.max,IntKind.signed,IntKind.bits] at h;omega
theorem adA {c:bY} {s:aW} (h:qR c s=0):(xU c s).E=0:=by
 unfold bK.E xU;rw [if_pos h,if_pos (by simp [yX])]
theorem CobAnswers_walk (w:World) (c:bY) (s:aW) (a:jJ) (hin:iy w s a) (z1:a.wa=none->a.wc=0) (z2:a.ka=none->a.kc=0) (z3:a.va=none->a.vc=0) (z4:a.ca=none->a.cc=0) (hcc:s.cs.length<=a.cc) (hwl:s.ws.length<=maxLen) (key k:Int) (hkw:(Lit.int .i64 k).wf=true) (hT:TabAt w):
    Calls Tryz.prog 4 #[IM c s a,.int .i64 key,.int .i64 k] w (aC w (.bool true)):=by
 have hk:=YR hkw;have hl:s.ws.length<=9223372036854775807:=hwl;have AL:=fun W (hB:Below w.heap.size w W)=>OG W (hT.below hB)
 by_cases hb:600<s.ks.length
 . exact acV c s a key k w hb (hid AL)
 . have PK:=fun W (hB:Below w.heap.size w W)=>l9 c s a hl xo hcc W (hin.below hB)
   by_cases hp:qR c s=0
   . obtain ⟨a',H,kn,g,h1,h2,h3,h4,h5,h6⟩:=PI hp hin.u;have wF:s.ws.length=(s.ks.length+63)/64:=g.AO;have hlc:s.ks.length=2^a'*2^H:=g.cn;have hS4:=g.s4;have hmul:4*2^H<=2^a'*2^H:=Nat.mul_le_mul_right _ hS4;have sz:=UO c s xo xo xo xo hin.u;have hE:=adA hp;have hs:=(lS hp).2;have GV:(xU c s).gV key=uS c s key:=by rw [bK.gV,if_pos hE,uS,if_pos hp];rfl
     have RV:(xU c s).rV key=qQ s key:=by
      rw [bK.rV,if_pos hE,qQ,if_pos hs];show ((qM (b_ s 0 s.ks.length) key:Int),(0:Int))=_;rw [K_ hs];rfl
     have NV:(xU c s).nV key=(LV (b_ s 0 s.ks.length) key,IP (b_ s 0 s.ks.length) key):=if_pos hE;have SV:(xU c s).sV k=(if k<0\/((b_ s 0 s.ks.length).length:Int)<=k then (0,0) else (b_ s 0 s.ks.length).getD k.toNat (0,0),if k<0\/((b_ s 0 s.ks.length).length:Int)<=k then 290 else 0):=by
      rw [bK.sV,if_pos hE];show (if k<0\/((b_ s 0 s.ks.length).length:Int)<=k then _ else _)=_;split<;>rfl
     refine aar c s a (xU c s) key k (uS c s key).1 (uS c s key).2 (qQ s key).1 (qQ s key).2 (IP (b_ s 0 s.ks.length) key) _ (LV (b_ s 0 s.ks.length) key) _ w xo (hid AL) (hid fun W hB=>cOf hp a W (hin.below hB) hcc sz)
       (hid fun W B hB hi=>GV ▸ agG (xU c s) B key W hi) (hid fun W hB=>Ry c s a key hl xo hcc W (hin.below hB) (hT.below hB))
       (hid fun W B hB hi=>RV ▸ aaH (xU c s) B key W hi) (hid fun W hB=>zO s a key hl xo W (hin.below hB) (hT.below hB))
       (hid fun W B hB hi=>by have:=aaI (xU c s) B key W hi;rw [NV] at this;exact this) (hid fun W hB=>Q5 a key hs h4 hl xo W (hin.below hB) (hT.below hB))
       (hid fun W B hB hi=>by have:=Ie (xU c s) B k hk.1 xo W hi;rw [SV] at this;exact this) (hid fun W hB=>UW a k xo hs h4 hl xo W (hin.below hB) (hT.below hB))
   . exact acU c s a key k w (qR c s) hp xo (hid AL) (hid fun W hB=>ack ⟨c,s,0,[],[]⟩ a W (qR c s) hp (hid fun W' hB'=>PK W' (aj hB' hB hB.size))) (hid PK)
end
section
open Go.ChangeShapes Go.WideShapes Go.ChangeAt Go.RowKit Go.Joins
theorem vT {H:Type} {enc:TypeId×Value->H} {w:World} {fuel:Nat} {base:Nat} {spare:Nat->Bool} {held:Bool} {t e:TypeId} {k:IntKind} {cs:List Value} {x:DataW H×List MemPlace}
    (ht:Tryz.prog.underlying t=some (.slice e)) (he:Tryz.prog.underlying e=some (.int k)) (hc:Tryz.prog.cellsOf e=1) (h:DataW.trod enc Tryz.prog w base spare held fuel t cs=some x):
    ∃(ao:Option Addr) (xs:List Int) (cap:Nat),cs=[.slice ao xs.length cap]/\aQ k w ao xs/\(ao=none->cap=0)/\xs.length<=maxLen/\(∀n ∈ xs,(Lit.int k n).wf=true):=by
 rcases open_ints ht he hc h with ⟨rfl,rfl⟩ | ⟨a,len,cap,zs,rfl,hb,hl,hm,hz,rfl,hc,hw⟩
 . exact ⟨none,[],0,rfl,fun i hi=>by simp at hi,fun _=>rfl,by simp,by simp⟩
 . have hlen:len<=zs.length:=by rw [hz];split<;>omega
   refine ⟨some a,zs.take len,cap,by simp [hlen],?_,fun h=>(by cases h),by simp;omega,fun n hn=>hw n (List.mem_of_mem_take hn)⟩;intro i hi;have hi':i<len:=by simp at hi;omega
   obtain ⟨b,off,sp⟩:=a;have h0:=hc 0 xo;obtain rfl:sp=none:=by simpa [Addr.add] using World.cell?_spot h0
   refine ⟨b,off,rfl,?_,fun j hj=> ?_⟩
   . have:=World.block_lt_of_cell? w _ h0;simpa [Addr.add] using this
   . have hj':j<len:=by simp at hj;omega
     have:=hc j xo;rw [Addr.add_lit] at this;rw [this];simp [List.getD_eq_getElem?_getD,List.getElem?_take,hj']
end
section
open Go.ChangeShapes Go.WideShapes Go.ChangeAt Go.RowKit Go.Joins Go.Deep Go.WideElems
theorem Aw {P:Program} {H:Type} {enc:TypeId×Value->H} {w:World} {base:Nat} {spare:Nat->Bool} {held:Bool} {t:TypeId} {f0 f1 f2 f3 f4 f5:Field} {fuel:Nat} {cs:List Value} {x:DataW H×List MemPlace} (ht:P.underlying t=some (.struct #[f0,f1,f2,f3,f4,f5])) (h:DataW.trod enc P w base spare held fuel t cs=some x):
    ∃ y0 y1 y2 y3 y4 y5 n,DataW.trod enc P w base spare held n f0.type ((cs.drop f0.offset).take (P.cellsOf f0.type))=some y0/\DataW.trod enc P w base spare held n f1.type ((cs.drop f1.offset).take (P.cellsOf f1.type))=some y1/\DataW.trod enc P w base spare held n f2.type ((cs.drop f2.offset).take (P.cellsOf f2.type))=some y2/\
      DataW.trod enc P w base spare held n f3.type ((cs.drop f3.offset).take (P.cellsOf f3.type))=some y3/\DataW.trod enc P w base spare held n f4.type ((cs.drop f4.offset).take (P.cellsOf f4.type))=some y4/\DataW.trod enc P w base spare held n f5.type ((cs.drop f5.offset).take (P.cellsOf f5.type))=some y5:=by
 obtain ⟨xs,n,_,rfl,hl,hlen,hf⟩:=DataW.trod_struct ht h;match xs,hlen with
 | [y0,y1,y2,y3,y4,y5],_=>exact ⟨y0,y1,y2,y3,y4,y5,n,by simpa using hf 0 f0 rfl,by simpa using hf 1 f1 rfl,by simpa using hf 2 f2 rfl,by simpa using hf 3 f3 rfl,by simpa using hf 4 f4 rfl,by simpa using hf 5 f5 rfl⟩
theorem aa1 {n:Int} (h:(Lit.int .u64 n).wf=true):0<=n/\n<18446744073709551616:=by
 simp [Lit.wf,IntKind.min,IntKind.max,IntKind.signed,IntKind.bits] at h;omega
theorem yH {P:Program} {H:Type} {enc:TypeId×Value->H} {w:World} {base:Nat} {spare:Nat->Bool} {held:Bool} {t:TypeId} {f0 f1 f2 f3 f4 f5 f6 f7 f8:Field} {fuel:Nat} {cs:List Value} {x:DataW H×List MemPlace} (ht:P.underlying t=some (.struct #[f0,f1,f2,f3,f4,f5,f6,f7,f8])) (h:DataW.trod enc P w base spare held fuel t cs=some x):
    ∃y0 y1 y2 y3 y4 y5 y6 y7 y8 n,DataW.trod enc P w base spare held n f0.type ((cs.drop f0.offset).take (P.cellsOf f0.type))=some y0/\DataW.trod enc P w base spare held n f1.type ((cs.drop f1.offset).take (P.cellsOf f1.type))=some y1/\DataW.trod enc P w base spare held n f2.type ((cs.drop f2.offset).take (P.cellsOf f2.type))=some y2/\DataW.trod enc P w base spare held n f3.type ((cs.drop f3.offset).take (P.cellsOf f3.type))=some y3/\DataW.trod enc P w base spare held n f4.type ((cs.drop f4.offset).take (P.cellsOf f4.type))=some y4/\DataW.trod enc P w base spare held n f5.type ((cs.drop f5.offset).take (P.cellsOf f5.type))=some y5/\DataW.trod enc P w base spare held n f6.type ((cs.drop f6.offset).take (P.cellsOf f6.type))=some y6/\DataW.trod enc P w base spare held n f7.type ((cs.drop f7.offset).take (P.cellsOf f7.type))=some y7/\DataW.trod enc P w base spare held n f8.type ((cs.drop f8.offset).take (P.cellsOf f8.type))=some y8:=by
 obtain ⟨xs,n,_,rfl,hl,hlen,hf⟩:=DataW.trod_struct ht h;match xs,hlen with
 | [y0,y1,y2,y3,y4,y5,y6,y7,y8],_=>exact ⟨y0,y1,y2,y3,y4,y5,y6,y7,y8,n,by simpa using hf 0 f0 rfl,by simpa using hf 1 f1 rfl,by simpa using hf 2 f2 rfl,by simpa using hf 3 f3 rfl,by simpa using hf 4 f4 rfl,by simpa using hf 5 f5 rfl,by simpa using hf 6 f6 rfl,by simpa using hf 7 f7 rfl,by simpa using hf 8 f8 rfl⟩
theorem RJ {H:Type} {enc:TypeId×Value->H} {w:World} {fuel:Nat} {base:Nat} {spare:Nat->Bool} {held:Bool} {t e:TypeId} {k:IntKind} {cs:List Value} {x:DataW H×List MemPlace} {ao:Option Addr} {n cap:Nat}
    (ht:Tryz.prog.underlying t=some (.slice e)) (he:Tryz.prog.underlying e=some (.int k)) (hc:Tryz.prog.cellsOf e=1) (h:DataW.trod enc Tryz.prog w base spare held fuel t cs=some x) (hcs:cs=[.slice ao n cap]):n<=cap:=by
 rcases open_ints ht he hc h with ⟨rfl,rfl⟩ | ⟨a,len,cap,zs,rfl,hb,hl,hm,hz,rfl,hc,hw⟩
 . cases hcs;exact Nat.le_refl _
 . cases hcs;exact hl
theorem EC {α : Type} {cs:Array α} (h:cs.size=15):∃c0 c1 c2 c3 c4 c5 c6 c7 c8 c9 c10 c11 c12 c13 c14,cs= #[c0,c1,c2,c3,c4,c5,c6,c7,c8,c9,c10,c11,c12,c13,c14]:=by
 obtain ⟨l⟩:=cs;match l,h with
 | [c0,c1,c2,c3,c4,c5,c6,c7,c8,c9,c10,c11,c12,c13,c14],_=>exact ⟨c0,c1,c2,c3,c4,c5,c6,c7,c8,c9,c10,c11,c12,c13,c14,rfl⟩
theorem Au {P:Program} {H:Type} {enc:TypeId×Value->H} {w:World} {base:Nat} {spare:Nat->Bool} {held:Bool} {t:TypeId} {f0 f1:Field} {fuel:Nat} {cs:List Value} {x:DataW H×List MemPlace} (ht:P.underlying t=some (.struct #[f0,f1])) (h:DataW.trod enc P w base spare held fuel t cs=some x):
    ∃y0 y1 n,DataW.trod enc P w base spare held n f0.type ((cs.drop f0.offset).take (P.cellsOf f0.type))=some y0/\DataW.trod enc P w base spare held n f1.type ((cs.drop f1.offset).take (P.cellsOf f1.type))=some y1:=by
 obtain ⟨xs,n,_,rfl,hl,hlen,hf⟩:=DataW.trod_struct ht h;match xs,hlen with
 | [y0,y1],_=>exact ⟨y0,y1,n,by simpa using hf 0 f0 rfl,by simpa using hf 1 f1 rfl⟩
theorem YC {P:Program} {H:Type} {enc:TypeId×Value->H} {w:World} {base:Nat} {spare:Nat->Bool} {held:Bool} {t:TypeId} {f0 f1 f2 f3 f4 f5 f6 f7 f8:Field} {fuel:Nat} {c0 c1 c2 c3 c4 c5 c6 c7 c8:Value} {x:DataW H×List MemPlace} (hs:P.underlying t=some (.struct #[f0,f1,f2,f3,f4,f5,f6,f7,f8])) (hone:oneCellFields P #[f0,f1,f2,f3,f4,f5,f6,f7,f8]=true) (h:DataW.trod enc P w base spare held fuel t [c0,c1,c2,c3,c4,c5,c6,c7,c8]=some x):
    ∃(y0 y1 y2 y3 y4 y5 y6 y7 y8:DataW H×List MemPlace) (n:Nat),DataW.trod enc P w base spare held n f0.type [c0]=some y0/\DataW.trod enc P w base spare held n f1.type [c1]=some y1/\DataW.trod enc P w base spare held n f2.type [c2]=some y2/\DataW.trod enc P w base spare held n f3.type [c3]=some y3/\DataW.trod enc P w base spare held n f4.type [c4]=some y4/\DataW.trod enc P w base spare held n f5.type [c5]=some y5/\DataW.trod enc P w base spare held n f6.type [c6]=some y6/\DataW.trod enc P w base spare held n f7.type [c7]=some y7/\DataW.trod enc P w base spare held n f8.type [c8]=some y8:=by
 obtain ⟨y0,y1,y2,y3,y4,y5,y6,y7,y8,n,h0,h1,h2,h3,h4,h5,h6,h7,h8⟩:=yH hs h;obtain ⟨o0,k0⟩:=hone_of hone 0 f0 rfl;obtain ⟨o1,k1⟩:=hone_of hone 1 f1 rfl;obtain ⟨o2,k2⟩:=hone_of hone 2 f2 rfl;obtain ⟨o3,k3⟩:=hone_of hone 3 f3 rfl;obtain ⟨o4,k4⟩:=hone_of hone 4 f4 rfl;obtain ⟨o5,k5⟩:=hone_of hone 5 f5 rfl;obtain ⟨o6,k6⟩:=hone_of hone 6 f6 rfl;obtain ⟨o7,k7⟩:=hone_of hone 7 f7 rfl;obtain ⟨o8,k8⟩:=hone_of hone 8 f8 rfl;exact ⟨y0,y1,y2,y3,y4,y5,y6,y7,y8,n,by simpa [o0,k0] using h0,by simpa [o1,k1] using h1,by simpa [o2,k2] using h2,by simpa [o3,k3] using h3,by simpa [o4,k4] using h4,by simpa [o5,k5] using h5,by simpa [o6,k6] using h6,by simpa [o7,k7] using h7,by simpa [o8,k8] using h8⟩
theorem abd {P:Program} {H:Type} {enc:TypeId×Value->H} {w:World} {base:Nat} {spare:Nat->Bool} {held:Bool} {t:TypeId} {f0 f1 f2 f3 f4 f5:Field} {fuel:Nat} {c0 c1 c2 c3 c4 c5:Value} {x:DataW H×List MemPlace} (hs:P.underlying t=some (.struct #[f0,f1,f2,f3,f4,f5])) (hone:oneCellFields P #[f0,f1,f2,f3,f4,f5]=true) (h:DataW.trod enc P w base spare held fuel t [c0,c1,c2,c3,c4,c5]=some x):
    ∃(y0 y1 y2 y3 y4 y5:DataW H×List MemPlace) (n:Nat),DataW.trod enc P w base spare held n f0.type [c0]=some y0/\DataW.trod enc P w base spare held n f1.type [c1]=some y1/\DataW.trod enc P w base spare held n f2.type [c2]=some y2/\DataW.trod enc P w base spare held n f3.type [c3]=some y3/\DataW.trod enc P w base spare held n f4.type [c4]=some y4/\DataW.trod enc P w base spare held n f5.type [c5]=some y5:=by
 obtain ⟨y0,y1,y2,y3,y4,y5,n,h0,h1,h2,h3,h4,h5⟩:=Aw hs h;obtain ⟨o0,k0⟩:=hone_of hone 0 f0 rfl;obtain ⟨o1,k1⟩:=hone_of hone 1 f1 rfl;obtain ⟨o2,k2⟩:=hone_of hone 2 f2 rfl;obtain ⟨o3,k3⟩:=hone_of hone 3 f3 rfl;obtain ⟨o4,k4⟩:=hone_of hone 4 f4 rfl;obtain ⟨o5,k5⟩:=hone_of hone 5 f5 rfl;exact ⟨y0,y1,y2,y3,y4,y5,n,by simpa [o0,k0] using h0,by simpa [o1,k1] using h1,by simpa [o2,k2] using h2,by simpa [o3,k3] using h3,by simpa [o4,k4] using h4,by simpa [o5,k5] using h5⟩
theorem Vs {H:Type} {enc:TypeId×Value->H} {w:World} {base:Nat} {spare:Nat->Bool} {held:Bool} {r:Reach} {b0:Nat} {v:Value} {d:DataW H} {p:List MemPlace}
    (hv:Value.okWide Tryz.prog w r b0 31 v) (h:DataW.Trod enc Tryz.prog w base spare held 31 v d p):
    ∃(c:bY) (s:aW) (a:jJ),v=IM c s a/\iy w s a/\(a.wa=none->a.wc=0)/\(a.ka=none->a.kc=0)/\(a.va=none->a.vc=0)/\(a.ca=none->a.cc=0)/\s.cs.length<=a.cc/\s.ws.length<=maxLen:=by
 obtain ⟨cs,rfl,hsz⟩:=okWide_struct Tryz.underlying31 hv;obtain ⟨c0,c1,c2,c3,c4,c5,c6,c7,c8,c9,c10,c11,c12,c13,c14,rfl⟩:=EC (hsz.trans xk);obtain ⟨fuel,hf⟩:=h;obtain ⟨y0,y1,n,h0,h1⟩:=Au Tryz.underlying31 hf;replace h0:DataW.trod enc Tryz.prog w base spare held n 23 [c0,c1,c2,c3,c4,c5,c6,c7,c8]=some y0:=h0;replace h1:DataW.trod enc Tryz.prog w base spare held n 29 [c9,c10,c11,c12,c13,c14]=some y1:=h1;obtain ⟨u0,u1,u2,u3,u4,u5,u6,u7,u8,n2,t0,t1,t2,t3,t4,t5,t6,t7,t8⟩:=YC Tryz.underlying23 xk h0;obtain ⟨z0,e0,-,-⟩:=DataW.trod_int Tryz.underlying5 t0;obtain ⟨z1,e1,-,-⟩:=DataW.trod_int Tryz.underlying3 t1;obtain ⟨z2,e2,-,-⟩:=DataW.trod_int Tryz.underlying3 t2;obtain ⟨z3,e3,-,-⟩:=DataW.trod_int Tryz.underlying3 t3;obtain ⟨z4,e4,-,-⟩:=DataW.trod_int Tryz.underlying3 t4;obtain ⟨z5,e5,-,-⟩:=DataW.trod_int Tryz.underlying3 t5;obtain ⟨z6,e6,-,-⟩:=DataW.trod_int Tryz.underlying3 t6;obtain ⟨z7,e7,-,-⟩:=DataW.trod_int Tryz.underlying3 t7;obtain ⟨z8,e8,-,-⟩:=DataW.trod_int Tryz.underlying3 t8;simp only [List.cons.injEq,and_true] at e0 e1 e2 e3 e4 e5 e6 e7 e8;subst e0 e1 e2 e3 e4 e5 e6 e7 e8;clear t0 t1 t2 t3 t4 t5 t6 t7 t8;obtain ⟨s0,s1,s2,s3,s4,s5,n3,t0,t1,t2,t3,t4,t5⟩:=abd Tryz.underlying29 xk h1;obtain ⟨l,e0,-,-⟩:=DataW.trod_int Tryz.underlying3 t0;obtain ⟨wa,ws,wc,e1,w1,w2,w3,w4⟩:=vT Tryz.underlying24 Tryz.underlying27 xk t1;obtain ⟨ka,ks,kc,e2,k1,k2,k3,_⟩:=vT Tryz.underlying25 Tryz.underlying2 xk t2;obtain ⟨va,vs,vc,e3,l1,l2,l3,_⟩:=vT Tryz.underlying25 Tryz.underlying2 xk t3;obtain ⟨ca,cs,cc,e4,m1,m2,m3,_⟩:=vT Tryz.underlying26 Tryz.underlying3 xk t4;obtain ⟨o,e5,-,-⟩:=DataW.trod_int Tryz.underlying27 t5;have r1:=RJ Tryz.underlying26 Tryz.underlying3 xk t4 e4;simp only [List.cons.injEq,and_true] at e0 e1 e2 e3 e4 e5;subst e0 e1 e2 e3 e4 e5;exact ⟨⟨z0,z1,z2,z3,z4,z5,z6,z7,z8⟩,⟨l,ws,ks,vs,cs,o⟩,⟨wa,ka,va,ca,wc,kc,vc,cc⟩,rfl,⟨w1,k1,l1,m1,fun x hx=>aa1 (w4 x hx)⟩,w2,k2,l2,m2,r1,w3⟩
end
end Go.Proofs.YtbedhbpgnfffmaaGreatDoor

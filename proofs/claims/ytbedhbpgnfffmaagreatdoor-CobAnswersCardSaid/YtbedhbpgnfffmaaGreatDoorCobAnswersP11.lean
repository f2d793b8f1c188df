/- Merged: CbTw, CbPut, Bel10, PmLd, PmBc, PmPut, SeekRk, PmTuC, MendPl, HeapNode, RangeS, HeapUp, HeapFns, HeapDep, VebPlace, InvTwo, Two, HeapLeaf. -/
import Derived.Test.YtbedhbpgnfffmaaGreatDoorCobAnswersP8
import Derived.Test.YtbedhbpgnfffmaaGreatDoorCobAnswersP3
import Derived.Test.YtbedhbpgnfffmaaGreatDoorCobAnswersP5
import Derived.Test.YtbedhbpgnfffmaaGreatDoorCobAnswersP10
import Derived.Test.YtbedhbpgnfffmaaGreatDoorCobAnswersP9
import Derived.Test.YtbedhbpgnfffmaaGreatDoorCobAnswersP2
import Derived.Lib.QuietBelow
import Derived.Deep.CutRange
import Derived.Test.YtbedhbpgnfffmaaGreatDoorCobAnswersP1
import Derived.Lib.BitFns
import Derived.Sort.LoopGhostIn
import Derived.Laws.BitsLemmas
import Derived.Test.YtbedhbpgnfffmaaGreatDoorCobAnswersP4
namespace Go.Proofs.YtbedhbpgnfffmaaGreatDoor
set_option maxRecDepth 100000
set_option maxHeartbeats 40000000
set_option linter.unusedVariables false
set_option linter.unusedSimpArgs false
section
open Go.RowKit Go.Shelf Go.Sort
attribute [local go_sem] Oper.semAt_some
theorem wS {P:Program} {w:World} {ops:Array Oper} {rest:List Oper} {o:Oper} {a:Act} {Q:Exit->Act->World->Prop} (t:TypeId) (i j:Nat) (x y:Operand) (v u:Value) (cs:Array Value) (hw:Region.wanted o (yielded ops a.tmps)=true) (ho:o.op= .build t #[(i,x),(j,y)]) (hx:a.eval x=v) (hy:a.eval y=u)
    (hf:P.built t [(i,v),(j,u)]=some cs) (h:wpList P ops Q rest (a.put o.dst (.agg cs)) w):wpList P ops Q (o::rest) a w:=by
 refine Go.BigFrame.wpList_want hw fun K hK=> ?_
 have e:P.built t ((#[(i,x),(j,y)]:Array (Nat×Operand)).map fun (i,x)=>(i,a.eval x)).toList=some cs:=by simpa [hx,hy] using hf
 refine wp_build t _ ho (by rw [e];rfl) ?_;rw [e];exact hK _ _ h
theorem FV (r:bK) (a:jJ) (A:dZ):Tryz.prog.built 35 [(0,.agg (ku r.c r.s a).toArray),(1,.agg (vX r A).toArray)]=some (bz r ⟨a,A.ma,A.ca,A.mc,A.cc⟩).toArray:=by kernel_rfl
def qJ:bK:=⟨adB,rG,0,[],[]⟩
def nilA:dZ:=⟨⟨none,none,none,none,0,0,0,0⟩,none,none,0,0⟩
theorem aa9:Qu qJ:=⟨by decide,by decide,by decide,by decide,by decide,by decide,by intro x hx;cases hx⟩
theorem Bd (w:World) (B M:Nat):AV w B M qJ nilA:=
  ⟨World.ownsRow_nil _ _ _ _,World.ownsRow_nil _ _ _ _,World.ownsRow_nil _ _ _ _,World.ownsRow_nil _ _ _ _,World.ownsRow_nil _ _ _ _,World.ownsRow_nil _ _ _ _,fun k hk=>by simp [Value.ownBlock,nilA] at hk,fun k hk=>by simp [Value.ownBlock,nilA] at hk,fun k hk=>by simp [Value.ownBlock,nilA] at hk,fun k hk=>by simp [Value.ownBlock,nilA] at hk,fun k hk=>by simp [Value.ownBlock,nilA] at hk,fun k hk=>by simp [Value.ownBlock,nilA] at hk,aa9⟩
theorem P8 (r:bK) (A:dZ):(vX r A).toArray.all (·.oneCell')=true:=by simp [vX,Value.oneCell']
theorem ack (r:bK) (q:jJ) (w:World) (e:Int) (he:e≠0)
    (PC:Hid (∀(W:World),Below w.heap.size w W->Calls Tryz.prog 19 #[.agg (ku r.c r.s q).toArray] W (aC W (.int .i64 e)))):
    Calls Tryz.prog 13 #[.agg (ku r.c r.s q).toArray] w (LZ w qJ e):=by
 have ge:(e != 0)=true:=by simpa using he
 clear he;go_enter Tryz.func13,Tryz.ntmps13
 go_upto_region 1 with (fail)
 generalize hw0:(w.alloc _).alloc _=w0;obtain ⟨hb0,hx⟩:=iY (l1:=ku r.c r.s q) (l2:=iJ) hw0;have HX:Hid (lm w0 [(w.heap.size+1,35,iJ),(w.heap.size,31,ku r.c r.s q)]):=hid hx;have HB:=hid hb0;have hz0:=hb0.size;clear hw0 hb0 hx;have sG:w.heap.size+1<w0.heap.size:=aY (HX.out.at 0 rfl);have Ef:w.heap.size<w0.heap.size:=aY (HX.out.at 1 rfl);go_wp2_with (first|(refine aJ 31 (.tmp 1) (w.heap.size) (ku r.c r.s q) xk rfl rfl Tryz.underlying31 rfl xk (aI (HX.out.at 1 rfl)) ?_))
 refine (PC.out _ HB.out).mono ?_;rintro e w1 ⟨rfl,hb⟩;replace HX:=hid (HX.out.below hb);replace HB:=xv hb HB;have hz1:=hb.size;clear hb;go_wp2_with (first|(refine bH 35 (.tmp 2) (.tmp 11) (w.heap.size+1) (iJ) (bz qJ nilA) rfl rfl rfl rfl xk rfl (iW _ _) (HX.out.at 0 rfl) ?_;intro w2 hs hx))
 exact bodyPost_ret (aF rfl rfl (ag _ Tryz.underlying35 rfl xk (aI hx))) rfl ⟨nilA,rfl,Bd _ _ _,HB.out.trans (hs.bel _ xo)⟩
theorem acl (r:bK) (q:jJ) (w:World) (sz:Qu r)
    (PC:Hid (∀(W:World),Below w.heap.size w W->Calls Tryz.prog 19 #[.agg (ku r.c r.s q).toArray] W (aC W (.int .i64 0))))
    (BD:Hid (∀(W:World),Below w.heap.size w W->Calls Tryz.prog 44 #[.agg (oz r.s q).toArray] W (acQ W r 0)))
    (PT:Hid (∀(W:World),Below w.heap.size w W->Calls Tryz.prog 45 #[.agg (ku r.c r.s q).toArray] W (FrP W r.c r.s))):
    Calls Tryz.prog 13 #[.agg (ku r.c r.s q).toArray] w (LZ w r 0):=by
 go_enter Tryz.func13,Tryz.ntmps13
 go_upto_region 1 with (fail)
 generalize hw0:(w.alloc _).alloc _=w0;obtain ⟨hb0,hx⟩:=iY (l1:=ku r.c r.s q) (l2:=iJ) hw0;have HX:Hid (lm w0 [(w.heap.size+1,35,iJ),(w.heap.size,31,ku r.c r.s q)]):=hid hx;have HB:=hid hb0;have hz0:=hb0.size;clear hw0 hb0 hx;have sG:w.heap.size+1<w0.heap.size:=aY (HX.out.at 0 rfl);have Ef:w.heap.size<w0.heap.size:=aY (HX.out.at 1 rfl);go_wp2_with (first|(refine aJ 31 (.tmp 1) (w.heap.size) (ku r.c r.s q) xk rfl rfl Tryz.underlying31 rfl xk (aI (HX.out.at 1 rfl)) ?_))
 refine (PC.out _ HB.out).mono ?_;rintro e w1 ⟨rfl,hb⟩;replace HX:=hid (HX.out.below hb);replace HB:=xv hb HB;have hz1:=hb.size;clear hb;go_wp2_with (first|(refine cu 29 (.tmp 14) (w.heap.size) 9 (oz r.s q) xk rfl rfl Tryz.underlying29 rfl xk (fP (HX.out.at 1 rfl) 9 rfl) ?_))
 refine (BD.out _ HB.out).mono ?_;rintro e w2 ⟨A2,rfl,ho,hb⟩;replace HX:=hid (HX.out.below hb);replace HB:=xv hb HB;have hz2:=hb.size;have HI:=hid ho;clear ho hb;go_upto_region 5 with (first|(refine bI 33 (.tmp 5) (.tmp 17) (Ar).toArray (vX r A2).toArray rfl rfl rfl rfl xk rfl (P8 _ _) ?_))
 have hx:=dR w2 (vX r A2) 33;have hb:=(Below.refl w2.heap.size w2).alloc (Nat.le_refl _) (.cells (vX r A2).toArray 33);generalize w2.alloc _=w3 at *;replace HX:=hid (HX.out.below hb);replace HB:=xv hb HB;have hz3:=hb.size;replace HI:=hid (HI.out.below hb);have YZ:=aY hx;replace HX:=hid (HX.out.cons' hx);clear hx hb;go_upto_region 7 with (fail)
 refine di 3 xk (N:=27) rfl xk xk au (fun w'=>Below w3.heap.size w3 w') RB (gU [.is (.agg (ku r.c r.s q).toArray),.P w3.heap.size r.c r.s,.is (.agg (vX r A2).toArray)]) (dA _) br.drew ?steps ?fin
 case steps=>
  refine ⟨?o0,?o1,?o2,trivial⟩<;>intro u a w' ev hJ hd K hK
  case o0=>
   have e1:tg a 1= .pointer (some ⟨w.heap.size,0,none⟩):=ev 1 au;exact mO 31 (.tmp 1) (w.heap.size) 0 (ku r.c r.s q) rfl e1 Tryz.underlying31 rfl xk (fP (jr hJ (HX.out.at 2 rfl) (aY (HX.out.at 2 rfl))) 0 rfl) (hK _ _ aS hJ rfl br)
  case o1=>
   have e23:tg a 23= .agg (ku r.c r.s q).toArray:=(ev 23 au).trans (hd 0 _ xk rfl);have HK:=hid hK;have HC:=hid (PT.out w' (aj hJ HB.out HB.out.size));have lY:=hJ.size;have HJ:=hid hJ;clear hK ev hd hJ;go_simp;refine HC.out.mono ?_;rintro e w'' ⟨a',rfl,ho,hb⟩;exact HK.out _ _ aS (HJ.out.trans (hb.mono lY)) (⟨a',rfl,ho.base lY⟩) hb
  case o2=>
   have e5:tg a 5= .pointer (some ⟨w2.heap.size,0,none⟩):=ev 5 au;exact mO 33 (.tmp 5) (w2.heap.size) 0 (vX r A2) rfl e5 Tryz.underlying33 rfl xk (fP (jr hJ (HX.out.at 0 rfl) (aY (HX.out.at 0 rfl))) 0 rfl) (hK _ _ aS hJ rfl br)
 case fin=>
  intro u w4 hJ hG;have h25:u 25= .agg (vX r A2).toArray:=hG 2 _ rfl;obtain ⟨a1,h24,hp⟩:(dN.P w3.heap.size r.c r.s).holds (u 24) w4:=hG 1 _ rfl;replace hp:=hid hp;replace HX:=hid (HX.out.below hJ);replace HB:=xv hJ HB;replace HI:=hid (HI.out.below hJ);have NR:=hJ.size;clear hG hJ;simp only [aX,kR,dstsOf,List.take_succ_cons,List.take_zero,List.filterMap_cons,List.filterMap_nil,List.contains_cons,List.contains_nil,Nat.reduceBEq,Bool.or_false,Bool.false_or,Bool.or_true,Bool.true_or,if_true,if_false,Bool.false_eq_true,Nat.reduceAdd,Nat.zero_add,List.drop_succ_cons,List.drop_zero,h24,h25];go_wp2_with (first|(refine wS 35 0 1 (.tmp 24) (.tmp 25) (.agg (ku r.c r.s a1).toArray) (.agg (vX r A2).toArray) (bz r ⟨a1,A2.ma,A2.ca,A2.mc,A2.cc⟩).toArray xk rfl rfl rfl (FV r a1 A2) ?_)|(refine bH 35 (.tmp 2) (.tmp 26) (w.heap.size+1) (iJ) (bz r ⟨a1,A2.ma,A2.ca,A2.mc,A2.cc⟩) rfl rfl rfl rfl xk rfl (iW _ _) (HX.out.at 1 rfl) ?_;intro w5 hs hx))
  exact bodyPost_ret (aF rfl rfl (ag _ Tryz.underlying35 rfl xk (aI hx))) rfl ⟨⟨a1,A2.ma,A2.ca,A2.mc,A2.cc⟩,rfl,AV.of ((hp.out.row hs xo).base xo) (Ip.base (Ip.row ⟨HI.out.o5,HI.out.o6⟩ hs xo) xo) sz,HB.out.trans (hs.bel _ xo)⟩
theorem AV.upto {w':World} {B M M':Nat} {r:bK} {A:dZ} (h:AV w' B M r A) (hs:M'=M):AV w' B M' r A:=hs ▸ h
theorem ZL (c d:bY) (s:aW) (w:World) (e:Int) (he:e≠0)
    (PN:Hid (∀(W:World),Below w.heap.size w W->Calls Tryz.prog 68 #[.agg (LU c).toArray] W (XI W d s e))):
    Calls Tryz.prog 32 #[.agg (LU c).toArray] w (LZ w qJ e):=by
 have ge:(e != 0)=true:=by simpa using he
 clear he;go_enter Tryz.func32,Tryz.ntmps32
 go_upto_region 1 with (fail)
 generalize hw0:(w.alloc _).alloc _=w0;obtain ⟨hb0,hx⟩:=iY (l1:=LU c) (l2:=iJ) hw0;have HX:Hid (lm w0 [(w.heap.size+1,35,iJ),(w.heap.size,23,LU c)]):=hid hx;have HB:=hid hb0;have hz0:=hb0.size;clear hw0 hb0 hx;have sG:w.heap.size+1<w0.heap.size:=aY (HX.out.at 0 rfl);have afV:w.heap.size<w0.heap.size:=aY (HX.out.at 1 rfl);go_wp2_with (first|(refine aJ 23 (.tmp 1) (w.heap.size) (LU c) xk rfl rfl Tryz.underlying23 rfl xk (aI (HX.out.at 1 rfl)) ?_))
 refine (PN.out _ HB.out).mono ?_;rintro e w1 ⟨a,rfl,ho,hb⟩;replace HX:=hid (HX.out.below hb);replace HB:=xv hb HB;have hz1:=hb.size;have HP:=hid ho;clear ho hb;go_upto_region 2 with (first|(refine bI 31 (.tmp 4) (.tmp 9) (XT).toArray (ku d s a).toArray rfl rfl rfl rfl xk rfl (Bc _ _ _) ?_))
 have hx:=dR w1 (ku d s a) 31;have hb:=(Below.refl w1.heap.size w1).alloc (Nat.le_refl _) (.cells (ku d s a).toArray 31);generalize w1.alloc _=w2 at *;replace HX:=hid (HX.out.below hb);replace HB:=xv hb HB;have hz2:=hb.size;replace HP:=hid (HP.out.below hb);have Ef:=aY hx;replace HX:=hid (HX.out.cons' hx);clear hx hb;go_wp2_with (first|(refine bH 35 (.tmp 2) (.tmp 13) (w.heap.size+1) (iJ) (bz qJ nilA) rfl rfl rfl rfl xk rfl (iW _ _) (HX.out.at 1 rfl) ?_;intro w3 hs hx))
 exact bodyPost_ret (aF rfl rfl (ag _ Tryz.underlying35 rfl xk (aI hx))) rfl ⟨nilA,rfl,Bd _ _ _,HB.out.trans (hs.bel _ xo)⟩
theorem ZM (c d:bY) (s:aW) (w:World) (r:bK) (x:Int)
    (PN:Hid (∀(W:World),Below w.heap.size w W->Calls Tryz.prog 68 #[.agg (LU c).toArray] W (XI W d s 0)))
    (OF:Hid (∀(W:World) (a:jJ),Below w.heap.size w W->Io W w.heap.size s a->Calls Tryz.prog 13 #[.agg (ku d s a).toArray] W (LZ W r x))):
    Calls Tryz.prog 32 #[.agg (LU c).toArray] w (LZ w r x):=by
 go_enter Tryz.func32,Tryz.ntmps32
 go_upto_region 1 with (fail)
 generalize hw0:(w.alloc _).alloc _=w0;obtain ⟨hb0,hx⟩:=iY (l1:=LU c) (l2:=iJ) hw0;have HX:Hid (lm w0 [(w.heap.size+1,35,iJ),(w.heap.size,23,LU c)]):=hid hx;have HB:=hid hb0;have hz0:=hb0.size;clear hw0 hb0 hx;have sG:w.heap.size+1<w0.heap.size:=aY (HX.out.at 0 rfl);have afV:w.heap.size<w0.heap.size:=aY (HX.out.at 1 rfl);go_wp2_with (first|(refine aJ 23 (.tmp 1) (w.heap.size) (LU c) xk rfl rfl Tryz.underlying23 rfl xk (aI (HX.out.at 1 rfl)) ?_))
 refine (PN.out _ HB.out).mono ?_;rintro e w1 ⟨a,rfl,ho,hb⟩;replace HX:=hid (HX.out.below hb);replace HB:=xv hb HB;have hz1:=hb.size;have HP:=hid ho;clear ho hb;go_upto_region 2 with (first|(refine bI 31 (.tmp 4) (.tmp 9) (XT).toArray (ku d s a).toArray rfl rfl rfl rfl xk rfl (Bc _ _ _) ?_))
 have hx:=dR w1 (ku d s a) 31;have hb:=(Below.refl w1.heap.size w1).alloc (Nat.le_refl _) (.cells (ku d s a).toArray 31);generalize w1.alloc _=w2 at *;replace HX:=hid (HX.out.below hb);replace HB:=xv hb HB;have hz2:=hb.size;replace HP:=hid (HP.out.below hb);have Ef:=aY hx;replace HX:=hid (HX.out.cons' hx);clear hx hb;go_wp2_with (first|(refine aJ 31 (.tmp 4) (w1.heap.size) (ku d s a) xk rfl rfl Tryz.underlying31 rfl xk (aI (HX.out.at 0 rfl)) ?_))
 refine (OF.out _ a HB.out (HP.out.base xo)).mono ?_;rintro e w3 ⟨A,rfl,ho,hb⟩;replace HX:=hid (HX.out.below hb);replace HB:=xv hb HB;have hz3:=hb.size;replace HP:=hid (HP.out.below hb);have hzz:=hz3;clear hb;go_wp2_with (first|(refine bH 35 (.tmp 2) (.tmp 17) (w.heap.size+1) (iJ) (bz r A) rfl rfl rfl rfl xk rfl (iW _ _) (HX.out.at 1 rfl) ?_;intro w4 hs hx))
 exact bodyPost_ret (aF rfl rfl (ag _ Tryz.underlying35 rfl xk (aI hx))) rfl ⟨A,rfl,(ho.row hs xo).base xo |>.upto hs.size,HB.out.trans (hs.bel _ xo)⟩
def xU (c:bY) (s:aW):bK:=⟨c,s,iE s,gy s,fZ s⟩
theorem UO (c:bY) (s:aW) (h1:s.ws.length<=100000) (h2:s.ks.length<=100000) (h3:s.vs.length<=100000) (h4:s.cs.length<=8192) (hu:fB s.ws):Qu (xU c s):=⟨h1,h2,h3,h4,(Qq s).1,(Qq s).2,hu⟩
theorem cOf {c:bY} {s:aW} (hp:qR c s=0) (a:jJ) (w:World) (h:iy w s a) (hc:s.cs.length<=a.cc) (sz:Qu (xU c s)):Calls Tryz.prog 13 #[.agg (ku c s a).toArray] w (LZ w (xU c s) 0):=by
 have h8:s.cs.length<=8192:=sz.c;have h1:s.ws.length<=100000:=sz.w;have h2:s.ks.length<=100000:=sz.k;have h3:s.vs.length<=100000:=sz.v;have hb:=CG hp h8;refine acl (xU c s) a w sz (hid fun W hB=> ?_) (hid fun W hB=> ?_) (hid fun W hB=> ?_)
 . have:=l9 c s a (Nat.le_trans h1 au) (Nat.le_trans h2 au) hc W (h.below hB);rw [hp] at this;exact this
 . refine (ug s a (Nat.le_trans h1 au) (Nat.le_trans h2 au) W (h.below hB)).mono fun _ _ q=>Qh (xU c s) 0 ?_
   rw [hb] at q;exact q
 . exact (Nh c s a.wa a.ka a.va a.ca a.wc a.kc a.vc a.cc W (hid fun W' hB'=>yK s a W' ((h.below hB).below hB') h1 h2 h3 (Nat.le_trans h8 au))).mono fun _ _ q=>Zh c s q
def NC (c:bY):bK:=if gQ c=true then xU c (lW c) else qJ
theorem VC {c:bY} (h:gQ c=true):Qu (xU c (lW c)):=by
 obtain ⟨n1,n2,n3,n4,u⟩:=RU c;have hn:lW c=uU c:=by rw [lW,if_pos h]
 obtain ⟨d0,d1,d2,d3,d4,d5,d6,d7,d8,d9,d10,d11,d12,d13,Fq,Et,Fp,Es⟩:=dw (dK h);have h1:=Nat.mul_div_le c.least.toNat c.ai.toNat;have h2:=Nat.div_le_self c.least.toNat c.ai.toNat;have hl:c.least.toNat<=256:=xo;refine UO c _ ?_ ?_ ?_ ?_ u<;>rw [hn]<;>simp only [uU,qG,List.length_replicate]<;>omega
theorem agF (c:bY) (w:World):Calls Tryz.prog 32 #[.agg (LU c).toArray] w (LZ w (NC c) (Ey c)):=by
 by_cases h:gQ c=true
 . have hn:NC c=xU c (lW c):=if_pos h;rw [hn,pq h];have sz:=VC h;refine ZM c c (lW c) w (xU c (lW c)) 0 (hid fun W hB=> ?_) (hid fun W a hB ho=> ?_)
   . have:=EO c W;rw [RY,if_pos h,pq h] at this;exact this.mono fun _ _ q=>Hr c (lW c) 0 q
   . obtain ⟨i1,i2⟩:=ho.sl sz.u;exact cOf (YE h).1 a W i1 i2 sz
 . have e:Ey c=50:=by simp [Ey,h]
   have hn:NC c=qJ:=if_neg h;rw [hn,e];refine ZL c (RY c) (lW c) w 50 au (hid fun W hB=> ?_);have:=EO c W;rw [e] at this;exact this.mono fun _ _ q=>Hr (RY c) (lW c) 50 q
def FrT (w:World) (q:bK) (b:jJ) (x:Int) (e:Ending) (w':World):Prop:=∃A2:dZ,e= .returned (.tuple #[eU q ⟨b,A2.ma,A2.ca,A2.mc,A2.cc⟩,.int .i64 x])/\Ip w' w.heap.size q A2/\Below w.heap.size w w'
theorem UE (r q:bK) (A:dZ) (b:jJ) (w:World) (e:Int) (he:e≠0):
    Calls Tryz.prog 39 #[eU r A,.agg (ku q.c q.s b).toArray,.int .i64 e] w (aC w (.tuple #[eU qJ nilA,.int .i64 e])):=by
 have ge:(e != 0)=true:=by simpa using he
 clear he;dsimp only [eU];go_enter Tryz.func39,Tryz.ntmps39
 go_wp2
 generalize hw0:((w.alloc _).alloc _).alloc _=w0;obtain ⟨hb0,hx⟩:=p_ (l1:=bz r A) (l2:=ku q.c q.s b) (l3:=iJ) hw0;have HX:Hid (lm w0 [(w.heap.size+1+1,35,iJ),(w.heap.size+1,31,ku q.c q.s b),(w.heap.size,35,bz r A)]):=hid hx;have HB:=hid hb0;have hz0:=hb0.size;clear hw0 hb0 hx;have sG:w.heap.size+1+1<w0.heap.size:=aY (HX.out.at 0 rfl);have Ef:w.heap.size+1<w0.heap.size:=aY (HX.out.at 1 rfl);have lD:w.heap.size<w0.heap.size:=aY (HX.out.at 2 rfl);refine iQ 0 rfl ?_;go_upto_region 2 with (first|(refine bI 33 (.tmp 8) (.tmp 9) (Ar).toArray (Ar).toArray rfl rfl rfl rfl xk rfl (by simp [Ar,Value.oneCell']) ?_))
 have hx:=dR w0 (Ar) 33;have hb:=(Below.refl w0.heap.size w0).alloc (Nat.le_refl _) (.cells (Ar).toArray 33);generalize w0.alloc _=w1 at *;replace HX:=hid (HX.out.below hb);replace HB:=xv hb HB;have hz1:=hb.size;have YZ:=aY hx;replace HX:=hid (HX.out.cons' hx);clear hx hb;go_wp2
 refine wp_goto ?_;show 0=0/\Code.wp _ _ _ _ _;refine ⟨rfl,?_⟩;go_wp2_with (first|(refine bH 35 (.tmp 6) (.tmp 28) (w.heap.size+1+1) (iJ) (bz qJ nilA) rfl rfl rfl rfl xk rfl (iW _ _) (HX.out.at 1 rfl) ?_;intro w2 hs hx))
 exact bodyPost_ret (aF rfl rfl (ag _ Tryz.underlying35 rfl xk (aI hx))) rfl ⟨rfl,HB.out.trans (hs.bel _ xo)⟩
theorem UD (r q:bK) (A:dZ) (b:jJ) (w:World)
    (FT:Hid (∀(W:World),Below w.heap.size w W->Calls Tryz.prog 72 #[.agg (vX r A).toArray,.agg (oz r.s A.sa).toArray,.agg (oz q.s b).toArray] W (acQ W q 0))):
    Calls Tryz.prog 39 #[eU r A,.agg (ku q.c q.s b).toArray,.int .i64 0] w (FrT w q b 0):=by
 dsimp only [eU,FrT];go_enter Tryz.func39,Tryz.ntmps39
 go_wp2
 generalize hw0:((w.alloc _).alloc _).alloc _=w0;obtain ⟨hb0,hx⟩:=p_ (l1:=bz r A) (l2:=ku q.c q.s b) (l3:=iJ) hw0;have HX:Hid (lm w0 [(w.heap.size+1+1,35,iJ),(w.heap.size+1,31,ku q.c q.s b),(w.heap.size,35,bz r A)]):=hid hx;have HB:=hid hb0;have hz0:=hb0.size;clear hw0 hb0 hx;have sG:w.heap.size+1+1<w0.heap.size:=aY (HX.out.at 0 rfl);have Ef:w.heap.size+1<w0.heap.size:=aY (HX.out.at 1 rfl);have lD:w.heap.size<w0.heap.size:=aY (HX.out.at 2 rfl);refine iQ 0 rfl ?_;go_upto_region 2 with (first|(refine bI 33 (.tmp 8) (.tmp 9) (Ar).toArray (Ar).toArray rfl rfl rfl rfl xk rfl (by simp [Ar,Value.oneCell']) ?_))
 have hx:=dR w0 (Ar) 33;have hb:=(Below.refl w0.heap.size w0).alloc (Nat.le_refl _) (.cells (Ar).toArray 33);generalize w0.alloc _=w1 at *;replace HX:=hid (HX.out.below hb);replace HB:=xv hb HB;have hz1:=hb.size;have YZ:=aY hx;replace HX:=hid (HX.out.cons' hx);clear hx hb;go_wp2_with (first|(refine cu 33 (.tmp 13) (w.heap.size) 15 (vX r A) xk rfl rfl Tryz.underlying33 rfl xk (fP (HX.out.at 3 rfl) 15 rfl) ?_)|(refine cu 29 (.tmp 16) (w.heap.size) 9 (oz r.s A.sa) xk rfl rfl Tryz.underlying29 rfl xk (fP (HX.out.at 3 rfl) 9 rfl) ?_)|(refine cu 29 (.tmp 18) (w.heap.size+1) 9 (oz q.s b) xk rfl rfl Tryz.underlying29 rfl xk (fP (HX.out.at 2 rfl) 9 rfl) ?_))
 refine (FT.out _ HB.out).mono ?_;rintro e w2 ⟨A2,rfl,ho,hb⟩;replace HX:=hid (HX.out.below hb);replace HB:=xv hb HB;have hz2:=hb.size;have HI:=hid ho;clear ho hb;go_upto_region 4 with (first|(refine bH 33 (.tmp 8) (.tmp 21) (w0.heap.size) Ar (vX q A2) rfl rfl rfl rfl xk rfl (P8 _ _) (HX.out.at 0 rfl) ?_;intro w3 hs hx))
 have Iw:=hid (hs.bx (HX.out.at 2 rfl) xo);have Ua:=hid (hs.bx (HX.out.at 1 rfl) xo);have HX3:=hid hx;replace HB:=hid (HB.out.trans (hs.bel _ xo));replace HI:=hid (HI.out.row hs xo);have hz3:w2.heap.size<=w3.heap.size:=Nat.le_of_eq hs.size.symm;clear hs hx HX;go_wp2_with (first|(refine aJ 31 (.tmp 4) (w.heap.size+1) (ku q.c q.s b) xk rfl rfl Tryz.underlying31 rfl xk (aI Iw.out) ?_)|(refine aJ 33 (.tmp 8) (w0.heap.size) (vX q A2) xk rfl rfl Tryz.underlying33 rfl xk (aI HX3.out) ?_)|(refine wS 35 0 1 (.tmp 25) (.tmp 26) (.agg (ku q.c q.s b).toArray) (.agg (vX q A2).toArray) (bz q ⟨b,A2.ma,A2.ca,A2.mc,A2.cc⟩).toArray xk rfl rfl rfl (FV q b A2) ?_)|(refine bH 35 (.tmp 6) (.tmp 27) (w.heap.size+1+1) iJ (bz q ⟨b,A2.ma,A2.ca,A2.mc,A2.cc⟩) rfl rfl rfl rfl xk rfl (iW _ _) Ua.out ?_;intro w4 hs hx))
 exact bodyPost_ret (aF rfl rfl (ag _ Tryz.underlying35 rfl xk (aI hx))) rfl ⟨A2,rfl,(HI.out.row hs xo).base xo,HB.out.trans (hs.bel _ xo)⟩
theorem ZK (r:bK) (A:dZ) (key val e:Int) (w:World) (he:e≠0)
    (CK:Hid (∀(W:World),Below w.heap.size w W->Calls Tryz.prog 28 #[eU r A] W (aC W (.int .i64 e)))):
    Calls Tryz.prog 9 #[eU r A,.int .i64 key,.int .i64 val] w (LZ w qJ e):=by
 have ge:(e != 0)=true:=by simpa using he
 clear he;dsimp only [eU] at *;go_enter Tryz.func9,Tryz.ntmps9
 go_upto_region 1 with (fail)
 generalize hw0:(w.alloc _).alloc _=w0;obtain ⟨hb0,hx⟩:=iY (l1:=bz r A) (l2:=iJ) hw0;have HX:Hid (lm w0 [(w.heap.size+1,35,iJ),(w.heap.size,35,bz r A)]):=hid hx;have HB:=hid hb0;have hz0:=hb0.size;clear hw0 hb0 hx;have sG:w.heap.size+1<w0.heap.size:=aY (HX.out.at 0 rfl);have lD:w.heap.size<w0.heap.size:=aY (HX.out.at 1 rfl);go_wp2_with (first|(refine aJ 35 (.tmp 3) (w.heap.size) (bz r A) xk rfl rfl Tryz.underlying35 rfl xk (aI (HX.out.at 1 rfl)) ?_))
 refine (CK.out _ HB.out).mono ?_;rintro e w1 ⟨rfl,hb⟩;replace HX:=hid (HX.out.below hb);replace HB:=xv hb HB;have hz1:=hb.size;clear hb;go_wp2_with (first|(refine bH 35 (.tmp 6) (.tmp 15) (w.heap.size+1) (iJ) (bz qJ nilA) rfl rfl rfl rfl xk rfl (iW _ _) (HX.out.at 0 rfl) ?_;intro w2 hs hx))
 exact bodyPost_ret (aF rfl rfl (ag _ Tryz.underlying35 rfl xk (aI hx))) rfl ⟨nilA,rfl,Bd _ _ _,HB.out.trans (hs.bel _ xo)⟩
theorem ZJ (r q:bK) (A:dZ) (key val e:Int) (w:World)
    (CK:Hid (∀(W:World),Below w.heap.size w W->Calls Tryz.prog 28 #[eU r A] W (aC W (.int .i64 0))))
    (PU:Hid (∀(W:World),Below w.heap.size w W->Calls Tryz.prog 29 #[.agg (ku r.c r.s A.sa).toArray,.int .i64 key,.int .i64 val] W (XI W q.c q.s e)))
    (TU:Hid (∀(W:World) (b:jJ),Below w.heap.size w W->Calls Tryz.prog 39 #[eU r A,.agg (ku q.c q.s b).toArray,.int .i64 e] W (aC W (.tuple #[eU qJ nilA,.int .i64 e])))):
    Calls Tryz.prog 9 #[eU r A,.int .i64 key,.int .i64 val] w (LZ w qJ e):=by
 dsimp only [eU] at *;go_enter Tryz.func9,Tryz.ntmps9
 go_upto_region 1 with (fail)
 generalize hw0:(w.alloc _).alloc _=w0;obtain ⟨hb0,hx⟩:=iY (l1:=bz r A) (l2:=iJ) hw0;have HX:Hid (lm w0 [(w.heap.size+1,35,iJ),(w.heap.size,35,bz r A)]):=hid hx;have HB:=hid hb0;have hz0:=hb0.size;clear hw0 hb0 hx;have sG:w.heap.size+1<w0.heap.size:=aY (HX.out.at 0 rfl);have lD:w.heap.size<w0.heap.size:=aY (HX.out.at 1 rfl);go_wp2_with (first|(refine aJ 35 (.tmp 3) (w.heap.size) (bz r A) xk rfl rfl Tryz.underlying35 rfl xk (aI (HX.out.at 1 rfl)) ?_))
 refine (CK.out _ HB.out).mono ?_;rintro e w1 ⟨rfl,hb⟩;replace HX:=hid (HX.out.below hb);replace HB:=xv hb HB;have hz1:=hb.size;clear hb;go_wp2_with (first|(refine cu 31 (.tmp 18) (w.heap.size) 0 (ku r.c r.s A.sa) xk rfl rfl Tryz.underlying31 rfl xk (fP (HX.out.at 1 rfl) 0 rfl) ?_))
 refine (PU.out _ HB.out).mono ?_;rintro e w2 ⟨b,rfl,ho,hb⟩;replace HX:=hid (HX.out.below hb);replace HB:=xv hb HB;have hz2:=hb.size;have HP:=hid ho;clear ho hb;go_upto_region 5 with (first|(refine bI 31 (.tmp 9) (.tmp 23) (XT).toArray (ku q.c q.s b).toArray rfl rfl rfl rfl xk rfl (Bc _ _ _) ?_))
 have hx:=dR w2 (ku q.c q.s b) 31;have hb:=(Below.refl w2.heap.size w2).alloc (Nat.le_refl _) (.cells (ku q.c q.s b).toArray 31);generalize w2.alloc _=w3 at *;replace HX:=hid (HX.out.below hb);replace HB:=xv hb HB;have hz3:=hb.size;replace HP:=hid (HP.out.below hb);have Ef:=aY hx;replace HX:=hid (HX.out.cons' hx);clear hx hb;go_wp2_with (first|(refine aJ 35 (.tmp 3) (w.heap.size) (bz r A) xk rfl rfl Tryz.underlying35 rfl xk (aI (HX.out.at 2 rfl)) ?_)|(refine aJ 31 (.tmp 9) (w2.heap.size) (ku q.c q.s b) xk rfl rfl Tryz.underlying31 rfl xk (aI (HX.out.at 0 rfl)) ?_))
 refine (TU.out _ b HB.out).mono ?_;rintro e w4 ⟨rfl,hb⟩;replace HX:=hid (HX.out.below hb);replace HB:=xv hb HB;have NR:=hb.size;replace HP:=hid (HP.out.below hb);clear hb;go_wp2_with (first|(refine bH 35 (.tmp 6) (.tmp 29) (w.heap.size+1) (iJ) (bz qJ nilA) rfl rfl rfl rfl xk rfl (iW _ _) (HX.out.at 1 rfl) ?_;intro w5 hs hx))
 exact bodyPost_ret (aF rfl rfl (ag _ Tryz.underlying35 rfl xk (aI hx))) rfl ⟨nilA,rfl,Bd _ _ _,HB.out.trans (hs.bel _ xo)⟩
theorem ZI (r q:bK) (A:dZ) (key val:Int) (w:World) (sz:Qu q)
    (CK:Hid (∀(W:World),Below w.heap.size w W->Calls Tryz.prog 28 #[eU r A] W (aC W (.int .i64 0))))
    (PU:Hid (∀(W:World),Below w.heap.size w W->Calls Tryz.prog 29 #[.agg (ku r.c r.s A.sa).toArray,.int .i64 key,.int .i64 val] W (XI W q.c q.s 0)))
    (TU:Hid (∀(W:World) (b:jJ),Below w.heap.size w W->Io W w.heap.size q.s b->Calls Tryz.prog 39 #[eU r A,.agg (ku q.c q.s b).toArray,.int .i64 0] W (FrT W q b 0))):
    Calls Tryz.prog 9 #[eU r A,.int .i64 key,.int .i64 val] w (LZ w q 0):=by
 dsimp only [eU,FrT] at *;go_enter Tryz.func9,Tryz.ntmps9
 go_upto_region 1 with (fail)
 generalize hw0:(w.alloc _).alloc _=w0;obtain ⟨hb0,hx⟩:=iY (l1:=bz r A) (l2:=iJ) hw0;have HX:Hid (lm w0 [(w.heap.size+1,35,iJ),(w.heap.size,35,bz r A)]):=hid hx;have HB:=hid hb0;have hz0:=hb0.size;clear hw0 hb0 hx;have sG:w.heap.size+1<w0.heap.size:=aY (HX.out.at 0 rfl);have lD:w.heap.size<w0.heap.size:=aY (HX.out.at 1 rfl);go_wp2_with (first|(refine aJ 35 (.tmp 3) (w.heap.size) (bz r A) xk rfl rfl Tryz.underlying35 rfl xk (aI (HX.out.at 1 rfl)) ?_))
 refine (CK.out _ HB.out).mono ?_;rintro e w1 ⟨rfl,hb⟩;replace HX:=hid (HX.out.below hb);replace HB:=xv hb HB;have hz1:=hb.size;clear hb;go_wp2_with (first|(refine cu 31 (.tmp 18) (w.heap.size) 0 (ku r.c r.s A.sa) xk rfl rfl Tryz.underlying31 rfl xk (fP (HX.out.at 1 rfl) 0 rfl) ?_))
 refine (PU.out _ HB.out).mono ?_;rintro e w2 ⟨b,rfl,ho,hb⟩;replace HX:=hid (HX.out.below hb);replace HB:=xv hb HB;have hz2:=hb.size;have HP:=hid ho;clear ho hb;go_upto_region 5 with (first|(refine bI 31 (.tmp 9) (.tmp 23) (XT).toArray (ku q.c q.s b).toArray rfl rfl rfl rfl xk rfl (Bc _ _ _) ?_))
 have hx:=dR w2 (ku q.c q.s b) 31;have hb:=(Below.refl w2.heap.size w2).alloc (Nat.le_refl _) (.cells (ku q.c q.s b).toArray 31);generalize w2.alloc _=w3 at *;replace HX:=hid (HX.out.below hb);replace HB:=xv hb HB;have hz3:=hb.size;replace HP:=hid (HP.out.below hb);have Ef:=aY hx;replace HX:=hid (HX.out.cons' hx);clear hx hb;go_wp2_with (first|(refine aJ 35 (.tmp 3) (w.heap.size) (bz r A) xk rfl rfl Tryz.underlying35 rfl xk (aI (HX.out.at 2 rfl)) ?_)|(refine aJ 31 (.tmp 9) (w2.heap.size) (ku q.c q.s b) xk rfl rfl Tryz.underlying31 rfl xk (aI (HX.out.at 0 rfl)) ?_))
 refine (TU.out _ b HB.out (HP.out.base xo)).mono ?_;rintro e w4 ⟨A2,rfl,ho,hb⟩;replace HX:=hid (HX.out.below hb);replace HB:=xv hb HB;have NR:=hb.size;replace HP:=hid (HP.out.below hb);have HI:=hid ho;clear ho hb;go_wp2_with (first|(refine bH 35 (.tmp 6) (.tmp 29) (w.heap.size+1) (iJ) (bz q ⟨b,A2.ma,A2.ca,A2.mc,A2.cc⟩) rfl rfl rfl rfl xk rfl (iW _ _) (HX.out.at 1 rfl) ?_;intro w5 hs hx))
 exact bodyPost_ret (aF rfl rfl (ag _ Tryz.underlying35 rfl xk (aI hx))) rfl ⟨⟨b,A2.ma,A2.ca,A2.mc,A2.cc⟩,rfl,AV.of ((HP.out.row hs xo).base xo) (Ip.base (Ip.row ⟨HI.out.o5,HI.out.o6⟩ hs xo) xo) sz,HB.out.trans (hs.bel _ xo)⟩
end
section
open Go.RowKit
end
section
open Go.RowKit Go.Shelf
attribute [local go_sem] Oper.semAt_some
theorem uK {W:World} {b:Nat} {v0 v1 v2 v3 v4 v5 v6 v7 v8 v9 v10 v11 v12 v13 v14:Value} (h:CB15 W b v0 v1 v2 v3 v4 v5 v6 v7 v8 v9 v10 v11 v12 v13 v14):∀j v,[v0,v1,v2,v3,v4,v5,v6,v7,v8,v9,v10,v11,v12,v13,v14][j]? =some v->W.cell? ⟨b,j,none⟩=some v:=by
 obtain ⟨h0,h1,h2,h3,h4,h5,h6,h7,h8,h9,h10,h11,h12,h13,EZ⟩:=h;intro j v hj;match j,hj with
 | 0,hj=>cases hj;exact h0
 | 1,hj=>cases hj;exact h1
 | 2,hj=>cases hj;exact h2
 | 3,hj=>cases hj;exact h3
 | 4,hj=>cases hj;exact h4
 | 5,hj=>cases hj;exact h5
 | 6,hj=>cases hj;exact h6
 | 7,hj=>cases hj;exact h7
 | 8,hj=>cases hj;exact h8
 | 9,hj=>cases hj;exact h9
 | 10,hj=>cases hj;exact h10
 | 11,hj=>cases hj;exact h11
 | 12,hj=>cases hj;exact h12
 | 13,hj=>cases hj;exact h13
 | 14,hj=>cases hj;exact EZ
 | j+15,hj=>cases hj
theorem MW {W:World} {b:Nat} {xs zs ys:List Value} (h:∀j v,(xs++zs)[j]? =some v->W.cell? ⟨b,j,none⟩=some v) (hl:zs.length=ys.length):∀j v,(xs++ys)[j]? =some v->(iG W b xs.length ys).cell? ⟨b,j,none⟩=some v:=by
 intro j v hj;rcases Nat.lt_or_ge j xs.length with q|q
 . rw [yM _ _ _ q];refine h j v ?_;rw [List.getElem?_append_left q] at hj ⊢;exact hj
 . obtain ⟨i,rfl⟩:∃i,j=xs.length+i:=⟨j-xs.length,by omega⟩
   refine Cc ys W xs.length (fun k hk=> ?_) i v ?_
   . refine ⟨zs[k]'xo,h _ _ ?_⟩;rw [List.getElem?_append_right xo,Nat.add_sub_cancel_left];exact List.getElem?_eq_getElem _
   . rw [List.getElem?_append_right xo,Nat.add_sub_cancel_left] at hj;exact hj
theorem DT (c:bY) (s:aW) (wa ka va ca:Option Addr) (wc kc vc cc:Nat) (sg ld:Int) (a1 a2 a3 a4:Option Addr) (n1 n2 n3 n4 k1 k2 k3 k4:Nat) (b:Nat) (w:World) (hb:b<w.heap.size) (PU:CB15 w b (.int .u8 c.tag) (.int .i64 c.most) (.int .i64 c.ai) (.int .i64 c.least) (.int .i64 c.den) (.int .i64 c.ll) (.int .i64 c.rl) (.int .i64 c.rh) (.int .i64 c.lh) (.int .i64 s.ai) (.slice wa s.ws.length wc) (.slice ka s.ks.length kc) (.slice va s.vs.length vc) (.slice ca s.cs.length cc) (.int .u64 s.laid)) (FU:∀j,j<15->w.frozen? ⟨b,j,none⟩=false):
    Calls Tryz.prog 63 #[.pointer (some ⟨b,0,none⟩),.agg #[.int .i64 sg,.slice a1 n1 k1,.slice a2 n2 k2,.slice a3 n3 k3,.slice a4 n4 k4,.int .u64 ld],.int .i64 0] w fun e w'=>e= .returned (.tuple #[.agg #[.int .u8 c.tag,.int .i64 c.most,.int .i64 c.ai,.int .i64 c.least,.int .i64 c.den,.int .i64 c.ll,.int .i64 c.rl,.int .i64 c.rh,.int .i64 c.lh,.int .i64 sg,.slice a1 n1 k1,.slice a2 n2 k2,.slice a3 n3 k3,.slice a4 n4 k4,.int .u64 ld],.int .i64 0])/\Below b w w'/\∀q,q<w.heap.size->q≠b->w'.heap[q]? =w.heap[q]? :=by
 have HFU:=hid FU;have LW:=hid PU;clear FU PU;go_enter Tryz.func63,Tryz.ntmps63
 go_upto_region 1 with (fail)
 generalize hw0:(w.alloc _).alloc _=w0;have hh:=Dy hw0 (jI (jA (b:=w.heap.size) ax));obtain ⟨aO,aN,aK,aU,aT,aV⟩:=hh;have bF:=kT hw0 (dB (bV (b:=w.heap.size) ax));have hh:=rP hw0 (qN (b:=w.heap.size+1) ax);obtain ⟨a_,aZ,bf,dh,df,cZ,jZ,jY,jX,jW,gJ,gI,gG,gB,gz⟩:=hh;have hh:=yl hw0 (sU (b:=w.heap.size+1) ax);obtain ⟨bQ,bP,bT,dQ,dP,dO,nP,nO,nN,nM,jk,ji,jh,jg,jf⟩:=hh;have bW:=kT hw0 (bV (b:=w.heap.size+1) ax);have HB0:Hid (Below w.heap.size w w0):=by rw [<-hw0];exact hid ((br.alloc (Nat.le_refl _) _).alloc ax _)
 have hzz:w.heap.size+2=w0.heap.size:=by rw [<-hw0];simp
 have FU:∀j,j<15->w0.frozen? ⟨b,j,none⟩=false:=fun j hj=>(HB0.out.frozen (p:=⟨b,j,none⟩) hb).trans (HFU.out j hj)
 have hh:CB15 w0 b (.int .u8 c.tag) (.int .i64 c.most) (.int .i64 c.ai) (.int .i64 c.least) (.int .i64 c.den) (.int .i64 c.ll) (.int .i64 c.rl) (.int .i64 c.rh) (.int .i64 c.lh) (.int .i64 s.ai) (.slice wa s.ws.length wc) (.slice ka s.ks.length kc) (.slice va s.vs.length vc) (.slice ca s.cs.length cc) (.int .u64 s.laid):=⟨(HB0.out.cell (p:=⟨b,0,none⟩) hb).trans LW.out.1,(HB0.out.cell (p:=⟨b,1,none⟩) hb).trans LW.out.2.1,(HB0.out.cell (p:=⟨b,2,none⟩) hb).trans LW.out.2.2.1,(HB0.out.cell (p:=⟨b,3,none⟩) hb).trans LW.out.2.2.2.1,(HB0.out.cell (p:=⟨b,4,none⟩) hb).trans LW.out.2.2.2.2.1,(HB0.out.cell (p:=⟨b,5,none⟩) hb).trans LW.out.2.2.2.2.2.1,(HB0.out.cell (p:=⟨b,6,none⟩) hb).trans LW.out.2.2.2.2.2.2.1,(HB0.out.cell (p:=⟨b,7,none⟩) hb).trans LW.out.2.2.2.2.2.2.2.1,(HB0.out.cell (p:=⟨b,8,none⟩) hb).trans LW.out.2.2.2.2.2.2.2.2.1,(HB0.out.cell (p:=⟨b,9,none⟩) hb).trans LW.out.2.2.2.2.2.2.2.2.2.1,(HB0.out.cell (p:=⟨b,10,none⟩) hb).trans LW.out.2.2.2.2.2.2.2.2.2.2.1,(HB0.out.cell (p:=⟨b,11,none⟩) hb).trans LW.out.2.2.2.2.2.2.2.2.2.2.2.1,(HB0.out.cell (p:=⟨b,12,none⟩) hb).trans LW.out.2.2.2.2.2.2.2.2.2.2.2.2.1,(HB0.out.cell (p:=⟨b,13,none⟩) hb).trans LW.out.2.2.2.2.2.2.2.2.2.2.2.2.2.1,(HB0.out.cell (p:=⟨b,14,none⟩) hb).trans LW.out.2.2.2.2.2.2.2.2.2.2.2.2.2.2⟩
 obtain ⟨KN,KL,KJ,KI,KH,KF,KE,KD,KC,Kz,Ag,Af,Ae,Ad,Ac⟩:=hh;have Tc:=FU 9 au;have Fg:=FU 10 au;have Ff:=FU 11 au;have Fe:=FU 12 au;have Fb:=FU 13 au;have Fa:=FU 14 au;clear hw0 FU HFU;go_upto_region 7 with (fail)
 generalize hw1:((((((w0).setCell _ _).setCell _ _).setCell _ _).setCell _ _).setCell _ _).setCell _ _=w1;have HES:w1=iG w0 b 9 [.int .i64 sg,.slice a1 n1 k1,.slice a2 n2 k2,.slice a3 n3 k3,.slice a4 n4 k4,.int .u64 ld]:=hw1.symm;have PV:=hid (show ∀j v,[.int .u8 c.tag,.int .i64 c.most,.int .i64 c.ai,.int .i64 c.least,.int .i64 c.den,.int .i64 c.ll,.int .i64 c.rl,.int .i64 c.rh,.int .i64 c.lh,.int .i64 sg,.slice a1 n1 k1,.slice a2 n2 k2,.slice a3 n3 k3,.slice a4 n4 k4,.int .u64 ld][j]? =some v->w1.cell? ⟨b,j,none⟩=some v from HES ▸ MW (xs:=[.int .u8 c.tag,.int .i64 c.most,.int .i64 c.ai,.int .i64 c.least,.int .i64 c.den,.int .i64 c.ll,.int .i64 c.rl,.int .i64 c.rh,.int .i64 c.lh]) (zs:=[.int .i64 s.ai,.slice wa s.ws.length wc,.slice ka s.ks.length kc,.slice va s.vs.length vc,.slice ca s.cs.length cc,.int .u64 s.laid]) (ys:=[.int .i64 sg,.slice a1 n1 k1,.slice a2 n2 k2,.slice a3 n3 k3,.slice a4 n4 k4,.int .u64 ld]) (uK ⟨KN,KL,KJ,KI,KH,KF,KE,KD,KC,Kz,Ag,Af,Ae,Ad,Ac⟩) rfl);have HB1:Hid (Below b w w1):=hid (HES ▸ kN (Nat.le_refl b) [.int .i64 sg,.slice a1 n1 k1,.slice a2 n2 k2,.slice a3 n3 k3,.slice a4 n4 k4,.int .u64 ld] w0 9 (HB0.out.mono (Nat.le_of_lt hb)));have HK1:Hid (∀q,q<w.heap.size->q≠b->w1.heap[q]? =w.heap[q]?):=hid fun q hq hne=>HES ▸ (qo hne [.int .i64 sg,.slice a1 n1 k1,.slice a2 n2 k2,.slice a3 n3 k3,.slice a4 n4 k4,.int .u64 ld] w0 9).trans (HB0.out.block q hq)
 simp (disch:=omega) only [xsO HES] at a_ aZ bf dh df cZ jZ jY jX jW gJ gI gG gB gz;simp only [xsF HES] at bQ bP bT dQ dP dO nP nO nN nM jk ji jh jg jf;have hz1:=xsZ HES bW;clear HES hw1 KN KL KJ KI KH KF KE KD KC Kz Ag Af Ae Ad Ac Tc Fg Ff Fe Fb Fa aO aN aK aU aT aV LW;have KN:=PV.out 0 _ rfl;have KL:=PV.out 1 _ rfl;have KJ:=PV.out 2 _ rfl;have KI:=PV.out 3 _ rfl;have KH:=PV.out 4 _ rfl;have KF:=PV.out 5 _ rfl;have KE:=PV.out 6 _ rfl;have KD:=PV.out 7 _ rfl;have KC:=PV.out 8 _ rfl;have Kz:=PV.out 9 _ rfl;have Ag:=PV.out 10 _ rfl;have Af:=PV.out 11 _ rfl;have Ae:=PV.out 12 _ rfl;have Ad:=PV.out 13 _ rfl;have Ac:=PV.out 14 _ rfl;clear PV;go_wp2
 have HC:=hid (iq ⟨a_,aZ,bf,dh,df,cZ,jZ,jY,jX,jW,gJ,gI,gG,gB,gz⟩);refine bodyPost_ret (aF rfl rfl (ag _ Tryz.underlying31 rfl xk (rZ (W:=w1) (b:=w.heap.size+1) (l:=[.int .u8 c.tag,.int .i64 c.most,.int .i64 c.ai,.int .i64 c.least,.int .i64 c.den,.int .i64 c.ll,.int .i64 c.rl,.int .i64 c.rh,.int .i64 c.lh,.int .i64 sg,.slice a1 n1 k1,.slice a2 n2 k2,.slice a3 n3 k3,.slice a4 n4 k4,.int .u64 ld]) HC.out))) rfl ⟨rfl,?_,?_⟩
 . exact kN (b:=w.heap.size+1) xo [.int .u8 c.tag,.int .i64 c.most,.int .i64 c.ai,.int .i64 c.least,.int .i64 c.den,.int .i64 c.ll,.int .i64 c.rl,.int .i64 c.rh,.int .i64 c.lh,.int .i64 sg,.slice a1 n1 k1,.slice a2 n2 k2,.slice a3 n3 k3,.slice a4 n4 k4,.int .u64 ld] _ 0 HB1.out
 . intro q hq hne;exact (qo xo [.int .u8 c.tag,.int .i64 c.most,.int .i64 c.ai,.int .i64 c.least,.int .i64 c.den,.int .i64 c.ll,.int .i64 c.rl,.int .i64 c.rh,.int .i64 c.lh,.int .i64 sg,.slice a1 n1 k1,.slice a2 n2 k2,.slice a3 n3 k3,.slice a4 n4 k4,.int .u64 ld] w1 0).trans (HK1.out q hq hne)
theorem OA (sg ld:Int) (a1 a2 a3 a4:Option Addr) (n1 n2 n3 n4 k1 k2 k3 k4:Nat) (b:Nat) (E:Int) (h0:E≠0) (h2:E≠2) (w:World):
    Calls Tryz.prog 63 #[.pointer (some ⟨b,0,none⟩),.agg #[.int .i64 sg,.slice a1 n1 k1,.slice a2 n2 k2,.slice a3 n3 k3,.slice a4 n4 k4,.int .u64 ld],.int .i64 E] w fun e w'=>e= .returned (.tuple #[.agg #[.int .u8 0,.int .i64 0,.int .i64 0,.int .i64 0,.int .i64 0,.int .i64 0,.int .i64 0,.int .i64 0,.int .i64 0,.int .i64 0,.slice none 0 0,.slice none 0 0,.slice none 0 0,.slice none 0 0,.int .u64 0],.int .i64 E])/\Below w.heap.size w w':=by
 have g0:(E==0)=false:=by simpa using h0
 have g2:(E==2)=false:=by simpa using h2
 clear h0 h2;go_enter Tryz.func63,Tryz.ntmps63
 go_upto_region 1 with (fail)
 generalize hw0:(w.alloc _).alloc _=w0;have hh:=Dy hw0 (jI (jA (b:=w.heap.size) ax));obtain ⟨aO,aN,aK,aU,aT,aV⟩:=hh;have bF:=kT hw0 (dB (bV (b:=w.heap.size) ax));have hh:=rP hw0 (qN (b:=w.heap.size+1) ax);obtain ⟨a_,aZ,bf,dh,df,cZ,jZ,jY,jX,jW,gJ,gI,gG,gB,gz⟩:=hh;have hh:=yl hw0 (sU (b:=w.heap.size+1) ax);obtain ⟨bQ,bP,bT,dQ,dP,dO,nP,nO,nN,nM,jk,ji,jh,jg,jf⟩:=hh;have bW:=kT hw0 (bV (b:=w.heap.size+1) ax);have HB0:Hid (Below w.heap.size w w0):=by rw [<-hw0];exact hid ((br.alloc (Nat.le_refl _) _).alloc ax _)
 clear hw0;go_wp2
 have HC:=hid (iq ⟨a_,aZ,bf,dh,df,cZ,jZ,jY,jX,jW,gJ,gI,gG,gB,gz⟩);refine bodyPost_ret (aF rfl rfl (ag _ Tryz.underlying31 rfl xk (rZ (W:=w0) (b:=w.heap.size+1) (l:=[.int .u8 0,.int .i64 0,.int .i64 0,.int .i64 0,.int .i64 0,.int .i64 0,.int .i64 0,.int .i64 0,.int .i64 0,.int .i64 0,.slice none 0 0,.slice none 0 0,.slice none 0 0,.slice none 0 0,.int .u64 0]) HC.out))) rfl ⟨rfl,?_⟩;exact kN (b:=w.heap.size+1) xo [.int .u8 0,.int .i64 0,.int .i64 0,.int .i64 0,.int .i64 0,.int .i64 0,.int .i64 0,.int .i64 0,.int .i64 0,.int .i64 0,.slice none 0 0,.slice none 0 0,.slice none 0 0,.slice none 0 0,.int .u64 0] _ 0 HB0.out
theorem Nk (c:bY) (s:aW) (wa ka va ca:Option Addr) (wc kc vc cc:Nat) (key val:Int) (e:Int) (he:e≠0) (w:World) (CK:Hid (∀W,Below w.heap.size w W->Calls Tryz.prog 19 #[IM c s ⟨wa,ka,va,ca,wc,kc,vc,cc⟩] W (aC W (.int .i64 e)))):
    Calls Tryz.prog 29 #[IM c s ⟨wa,ka,va,ca,wc,kc,vc,cc⟩,.int .i64 key,.int .i64 val] w (nJ w ⟨0,0,0,0,0,0,0,0,0⟩ rG (.int .i64 e)):=by
 dsimp only [IM,jB,cfV] at *;have ge:(e != 0)=true:=by simpa using he
 clear he;go_enter Tryz.func29,Tryz.ntmps29
 go_upto_region 1 with (fail)
 generalize hw0:(w.alloc _).alloc _=w0;have hh:=rP hw0 (zA (qN (b:=w.heap.size) ax));obtain ⟨aO,aN,aK,aU,aT,aV,dV,dU,dS,pz,jQ,jP,jO,jM,jL⟩:=hh;have bF:=kT hw0 (dB (bV (b:=w.heap.size) ax));have hh:=rP hw0 (qN (b:=w.heap.size+1) ax);obtain ⟨a_,aZ,bf,dh,df,cZ,jZ,jY,jX,jW,gJ,gI,gG,gB,gz⟩:=hh;have hh:=yl hw0 (sU (b:=w.heap.size+1) ax);obtain ⟨bQ,bP,bT,dQ,dP,dO,nP,nO,nN,nM,jk,ji,jh,jg,jf⟩:=hh;have bW:=kT hw0 (bV (b:=w.heap.size+1) ax);have HB0:Hid (Below w.heap.size w w0):=by rw [<-hw0];exact hid ((br.alloc (Nat.le_refl _) _).alloc ax _)
 clear hw0;go_wp2_with (refine aJ 31 (.tmp 3) _ _ rfl rfl Tryz.underlying31 rfl xk (uK ⟨aO,aN,aK,aU,aT,aV,dV,dU,dS,pz,jQ,jP,jO,jM,jL⟩) ?_)
 refine (CK.out _ HB0.out).mono ?_;rintro e w1 ⟨rfl,hb1⟩;have aA:=hb1.size;simp (disch:=omega) only [jK hb1,rX hb1] at *;replace bF:=aP hb1 bF;replace bW:=aP hb1 bW;have HB1:=xv hb1 HB0;clear hb1;go_wp2
 have HC:=hid (iq ⟨a_,aZ,bf,dh,df,cZ,jZ,jY,jX,jW,gJ,gI,gG,gB,gz⟩);exact jG (W:=w1) (b:=w.heap.size+1) [.int .u8 0,.int .i64 0,.int .i64 0,.int .i64 0,.int .i64 0,.int .i64 0,.int .i64 0,.int .i64 0,.int .i64 0,.int .i64 0,.slice none 0 0,.slice none 0 0,.slice none 0 0,.slice none 0 0,.int .u64 0] HC rfl rfl (fun _ h=>aF rfl rfl (ag _ Tryz.underlying31 rfl xk h)) fun _ s=>⟨_,_,_,_,rfl,World.ownsRow_nil _ _ _ _,World.ownsRow_nil _ _ _ _,World.ownsRow_nil _ _ _ _,World.ownsRow_nil _ _ _ _,s.be HB1.out⟩
theorem Nj (c:bY) (s d:aW) (wa ka va ca:Option Addr) (wc kc vc cc:Nat) (key val:Int) (x:Int) (w:World) (CK:Hid (∀W,Below w.heap.size w W->Calls Tryz.prog 19 #[IM c s ⟨wa,ka,va,ca,wc,kc,vc,cc⟩] W (aC W (.int .i64 0)))) (FN:Hid (∀W,Below w.heap.size w W->Calls Tryz.prog 53 #[jB s ⟨wa,ka,va,ca,wc,kc,vc,cc⟩,.int .i64 key] W (aC W (.tuple #[.int .i64 x,.int .i64 0])))) (LY:Hid (∀W,Below w.heap.size w W->Calls Tryz.prog 64 #[jB s ⟨wa,ka,va,ca,wc,kc,vc,cc⟩,.int .i64 x,.agg #[.int .i64 key,.int .i64 val]] W (dm W d (.int .i64 0)))):
    Calls Tryz.prog 29 #[IM c s ⟨wa,ka,va,ca,wc,kc,vc,cc⟩,.int .i64 key,.int .i64 val] w (nJ w c d (.int .i64 0)):=by
 dsimp only [IM,jB,cfV] at *;go_enter Tryz.func29,Tryz.ntmps29
 go_upto_region 1 with (fail)
 generalize hw0:(w.alloc _).alloc _=w0;have hh:=rP hw0 (zA (qN (b:=w.heap.size) ax));obtain ⟨aO,aN,aK,aU,aT,aV,dV,dU,dS,pz,jQ,jP,jO,jM,jL⟩:=hh;have bF:=kT hw0 (dB (bV (b:=w.heap.size) ax));have hh:=rP hw0 (qN (b:=w.heap.size+1) ax);obtain ⟨a_,aZ,bf,dh,df,cZ,jZ,jY,jX,jW,gJ,gI,gG,gB,gz⟩:=hh;have hh:=yl hw0 (sU (b:=w.heap.size+1) ax);obtain ⟨bQ,bP,bT,dQ,dP,dO,nP,nO,nN,nM,jk,ji,jh,jg,jf⟩:=hh;have bW:=kT hw0 (bV (b:=w.heap.size+1) ax);have HB0:Hid (Below w.heap.size w w0):=by rw [<-hw0];exact hid ((br.alloc (Nat.le_refl _) _).alloc ax _)
 clear hw0;go_wp2_with (refine aJ 31 (.tmp 3) _ _ rfl rfl Tryz.underlying31 rfl xk (uK ⟨aO,aN,aK,aU,aT,aV,dV,dU,dS,pz,jQ,jP,jO,jM,jL⟩) ?_)
 refine (CK.out _ HB0.out).mono ?_;rintro e w1 ⟨rfl,hb1⟩;have aA:=hb1.size;simp (disch:=omega) only [jK hb1,rX hb1] at *;replace bF:=aP hb1 bF;replace bW:=aP hb1 bW;have HB1:=xv hb1 HB0;clear hb1;have G9:w.heap.size+1<w1.heap.size:=bW;go_upto_region 5 with (refine aJ 31 (.tmp 3) _ _ rfl rfl Tryz.underlying31 rfl xk (uK ⟨aO,aN,aK,aU,aT,aV,dV,dU,dS,pz,jQ,jP,jO,jM,jL⟩) ?_)
 generalize hw2:w1.alloc _=w2;have hh:=rP hw2 (zA (⟨aO,aN,aK,aU,aT,aV,dV,dU,dS,pz,jQ,jP,jO,jM,jL⟩));clear aO aN aK aU aT aV dV dU dS pz jQ jP jO jM jL;obtain ⟨aO,aN,aK,aU,aT,aV,dV,dU,dS,pz,jQ,jP,jO,jM,jL⟩:=hh;replace bF:=kT hw2 (dB (bF));have hh:=rP hw2 (zA (⟨a_,aZ,bf,dh,df,cZ,jZ,jY,jX,jW,gJ,gI,gG,gB,gz⟩));clear a_ aZ bf dh df cZ jZ jY jX jW gJ gI gG gB gz;obtain ⟨a_,aZ,bf,dh,df,cZ,jZ,jY,jX,jW,gJ,gI,gG,gB,gz⟩:=hh;have hh:=yl hw2 (FX bW ⟨bQ,bP,bT,dQ,dP,dO,nP,nO,nN,nM,jk,ji,jh,jg,jf⟩);clear bQ bP bT dQ dP dO nP nO nN nM jk ji jh jg jf;obtain ⟨bQ,bP,bT,dQ,dP,dO,nP,nO,nN,nM,jk,ji,jh,jg,jf⟩:=hh;replace bW:=kT hw2 (dB (bW));have hh:=rP hw2 (qN (b:=w1.heap.size) ax);obtain ⟨KN,KL,KJ,KI,KH,KF,KE,KD,KC,Kz,Ag,Af,Ae,Ad,Ac⟩:=hh;have hh:=yl hw2 (sU (b:=w1.heap.size) ax);obtain ⟨Zq,Zp,Zo,Zn,Zm,Zl,Zk,Zj,Zi,Tc,Fg,Ff,Fe,Fb,Fa⟩:=hh;have zF:=kT hw2 (bV (b:=w1.heap.size) ax);have HB2:Hid (Below w.heap.size w w2):=by rw [<-hw2];exact hid (HB1.out.alloc HB1.out.size _)
 clear hw2;go_wp2_with (fail)
 refine (FN.out _ HB2.out).mono ?_;rintro e w3 ⟨rfl,hb3⟩;have kD:=hb3.size;simp (disch:=omega) only [jK hb3,rX hb3] at *;replace bF:=aP hb3 bF;replace bW:=aP hb3 bW;replace zF:=aP hb3 zF;have HB3:=xv hb3 HB2;clear hb3;have hzu:w1.heap.size<w3.heap.size:=zF;have hzq:w1.heap.size<w3.heap.size:=zF;go_wp2_with (fail)
 refine (LY.out _ HB3.out).mono ?_;rintro e w4 ⟨v1,v2,v3,v4,rfl,p1,p2,p3,p4,hb4⟩;have Dj:=hb4.size;simp (disch:=omega) only [jK hb4,rX hb4] at *;replace bF:=aP hb4 bF;replace bW:=aP hb4 bW;replace zF:=aP hb4 zF;have HB4:=xv hb4 HB3;clear hb4;obtain ⟨a1,k1,rfl,-,-,-,-,-⟩:=ak p1;obtain ⟨a2,k2,rfl,-,-,-,-,-⟩:=ak p2;obtain ⟨a3,k3,rfl,-,-,-,-,-⟩:=ak p3;obtain ⟨a4,k4,rfl,-,-,-,-,-⟩:=ak p4;have HBC:=hid (DT c s wa ka va ca wc kc vc cc d.ai d.laid a1 a2 a3 a4 d.ws.length d.ks.length d.vs.length d.cs.length k1 k2 k3 k4 w1.heap.size w4 zF ⟨KN,KL,KJ,KI,KH,KF,KE,KD,KC,Kz,Ag,Af,Ae,Ad,Ac⟩ (fun j hj=>by
  match j,hj with
  | 0,_=>exact Zq
  | 1,_=>exact Zp
  | 2,_=>exact Zo
  | 3,_=>exact Zn
  | 4,_=>exact Zm
  | 5,_=>exact Zl
  | 6,_=>exact Zk
  | 7,_=>exact Zj
  | 8,_=>exact Zi
  | 9,_=>exact Tc
  | 10,_=>exact Fg
  | 11,_=>exact Ff
  | 12,_=>exact Fe
  | 13,_=>exact Fb
  | 14,_=>exact Fa
  | j+15,hj=>omega))
 have XC:=hid (And.intro p1 (And.intro p2 (And.intro p3 p4)));clear p1 p2 p3 p4;go_wp2_with (fail)
 refine HBC.out.mono ?_;rintro e w5 ⟨rfl,hb5,hk5⟩;have x8:=hb5.size;try simp only [World.size_alloc,World.size_setCell] at x8
 have ja:w5.cell? ⟨w.heap.size+1,0,none⟩=some (.int .u8 0)/\w5.cell? ⟨w.heap.size+1,1,none⟩=some (.int .i64 0)/\w5.cell? ⟨w.heap.size+1,2,none⟩=some (.int .i64 0)/\w5.cell? ⟨w.heap.size+1,3,none⟩=some (.int .i64 0)/\w5.cell? ⟨w.heap.size+1,4,none⟩=some (.int .i64 0)/\w5.cell? ⟨w.heap.size+1,5,none⟩=some (.int .i64 0)/\w5.cell? ⟨w.heap.size+1,6,none⟩=some (.int .i64 0)/\w5.cell? ⟨w.heap.size+1,7,none⟩=some (.int .i64 0)/\w5.cell? ⟨w.heap.size+1,8,none⟩=some (.int .i64 0)/\w5.cell? ⟨w.heap.size+1,9,none⟩=some (.int .i64 0)/\w5.cell? ⟨w.heap.size+1,10,none⟩=some (.slice none 0 0)/\w5.cell? ⟨w.heap.size+1,11,none⟩=some (.slice none 0 0)/\w5.cell? ⟨w.heap.size+1,12,none⟩=some (.slice none 0 0)/\w5.cell? ⟨w.heap.size+1,13,none⟩=some (.slice none 0 0)/\w5.cell? ⟨w.heap.size+1,14,none⟩=some (.int .u64 0):=by refine ⟨?_,?_,?_,?_,?_,?_,?_,?_,?_,?_,?_,?_,?_,?_,?_⟩<;>(refine (hb5.cell ?_).trans ?_<;>first|(exact gW)|(exact dL))
 have jE:w5.frozen? ⟨w.heap.size+1,0,none⟩=false/\w5.frozen? ⟨w.heap.size+1,1,none⟩=false/\w5.frozen? ⟨w.heap.size+1,2,none⟩=false/\w5.frozen? ⟨w.heap.size+1,3,none⟩=false/\w5.frozen? ⟨w.heap.size+1,4,none⟩=false/\w5.frozen? ⟨w.heap.size+1,5,none⟩=false/\w5.frozen? ⟨w.heap.size+1,6,none⟩=false/\w5.frozen? ⟨w.heap.size+1,7,none⟩=false/\w5.frozen? ⟨w.heap.size+1,8,none⟩=false/\w5.frozen? ⟨w.heap.size+1,9,none⟩=false/\w5.frozen? ⟨w.heap.size+1,10,none⟩=false/\w5.frozen? ⟨w.heap.size+1,11,none⟩=false/\w5.frozen? ⟨w.heap.size+1,12,none⟩=false/\w5.frozen? ⟨w.heap.size+1,13,none⟩=false/\w5.frozen? ⟨w.heap.size+1,14,none⟩=false:=by refine ⟨?_,?_,?_,?_,?_,?_,?_,?_,?_,?_,?_,?_,?_,?_,?_⟩<;>(refine (hb5.frozen ?_).trans ?_<;>first|(exact gW)|(exact dL))
 have iZ:w.heap.size+1<w5.heap.size:=xo;clear a_ aZ bf dh df cZ jZ jY jX jW gJ gI gG gB gz bQ bP bT dQ dP dO nP nO nN nM jk ji jh jg jf bW;obtain ⟨a_,aZ,bf,dh,df,cZ,jZ,jY,jX,jW,gJ,gI,gG,gB,gz⟩:=ja;try clear ja
 obtain ⟨bQ,bP,bT,dQ,dP,dO,nP,nO,nN,nM,jk,ji,jh,jg,jf⟩:=jE;try clear jE
 have bW:=iZ;try clear iZ
 have ck:∀ {y:TypeId} {n:Nat} {v:Value} {xs:List Value},w4.ownsRow w3.heap.size y 1 v n xs->w5.ownsRow w3.heap.size y 1 v n xs:=fun h=>af h fun q hq=>hk5 q (h.lt q hq).2 (by have:=(h.lt q hq).1;omega)
 have HP:=hid (And.intro (ck XC.out.1) (And.intro (ck XC.out.2.1) (And.intro (ck XC.out.2.2.1) (ck XC.out.2.2.2))));have xB:=hid (HB4.out.trans (hb5.mono (show w.heap.size<=w1.heap.size by omega)));have hz1:w.heap.size+1<w3.heap.size:=xo;clear ck hb5 hk5 XC HBC;go_wp2
 have HC:=hid (iq ⟨a_,aZ,bf,dh,df,cZ,jZ,jY,jX,jW,gJ,gI,gG,gB,gz⟩);exact jG (W:=w5) (b:=w.heap.size+1) [.int .u8 c.tag,.int .i64 c.most,.int .i64 c.ai,.int .i64 c.least,.int .i64 c.den,.int .i64 c.ll,.int .i64 c.rl,.int .i64 c.rh,.int .i64 c.lh,.int .i64 d.ai,.slice a1 d.ws.length k1,.slice a2 d.ks.length k2,.slice a3 d.vs.length k3,.slice a4 d.cs.length k4,.int .u64 d.laid] HC rfl rfl (fun _ h=>aF rfl rfl (ag _ Tryz.underlying31 rfl xk h)) fun _ s=>⟨_,_,_,_,rfl,s.ow hz1 HP.out.1,s.ow hz1 HP.out.2.1,s.ow hz1 HP.out.2.2.1,s.ow hz1 HP.out.2.2.2,s.be xB.out⟩
theorem Js (c:bY) (s:aW) (wa ka va ca:Option Addr) (wc kc vc cc:Nat) (key val:Int) (x fe k:Int) (hf:fe≠0) (w:World) (CK:Hid (∀W,Below w.heap.size w W->Calls Tryz.prog 19 #[IM c s ⟨wa,ka,va,ca,wc,kc,vc,cc⟩] W (aC W (.int .i64 0)))) (FN:Hid (∀W,Below w.heap.size w W->Calls Tryz.prog 53 #[jB s ⟨wa,ka,va,ca,wc,kc,vc,cc⟩,.int .i64 key] W (aC W (.tuple #[.int .i64 x,.int .i64 fe])))) (RK:Hid (∀W,Below w.heap.size w W->Calls Tryz.prog 23 #[jB s ⟨wa,ka,va,ca,wc,kc,vc,cc⟩,.int .i64 key] W (aC W (.tuple #[.int .i64 k,.int .i64 0])))) (GP:Hid (∀W,Below w.heap.size w W->Calls Tryz.prog 65 #[cfV c,jB s ⟨wa,ka,va,ca,wc,kc,vc,cc⟩,.int .i64 k,.agg #[.int .i64 key,.int .i64 val]] W (dm W rG (.int .i64 9)))):
    Calls Tryz.prog 29 #[IM c s ⟨wa,ka,va,ca,wc,kc,vc,cc⟩,.int .i64 key,.int .i64 val] w (nJ w ⟨0,0,0,0,0,0,0,0,0⟩ rG (.int .i64 9)):=by
 dsimp only [IM,jB,cfV] at *;have gf:(fe==0)=false:=by simpa using hf
 clear hf;go_enter Tryz.func29,Tryz.ntmps29
 go_upto_region 1 with (fail)
 generalize hw0:(w.alloc _).alloc _=w0;have hh:=rP hw0 (zA (qN (b:=w.heap.size) ax));obtain ⟨aO,aN,aK,aU,aT,aV,dV,dU,dS,pz,jQ,jP,jO,jM,jL⟩:=hh;have bF:=kT hw0 (dB (bV (b:=w.heap.size) ax));have hh:=rP hw0 (qN (b:=w.heap.size+1) ax);obtain ⟨a_,aZ,bf,dh,df,cZ,jZ,jY,jX,jW,gJ,gI,gG,gB,gz⟩:=hh;have hh:=yl hw0 (sU (b:=w.heap.size+1) ax);obtain ⟨bQ,bP,bT,dQ,dP,dO,nP,nO,nN,nM,jk,ji,jh,jg,jf⟩:=hh;have bW:=kT hw0 (bV (b:=w.heap.size+1) ax);have HB0:Hid (Below w.heap.size w w0):=by rw [<-hw0];exact hid ((br.alloc (Nat.le_refl _) _).alloc ax _)
 clear hw0;go_wp2_with (refine aJ 31 (.tmp 3) _ _ rfl rfl Tryz.underlying31 rfl xk (uK ⟨aO,aN,aK,aU,aT,aV,dV,dU,dS,pz,jQ,jP,jO,jM,jL⟩) ?_)
 refine (CK.out _ HB0.out).mono ?_;rintro e w1 ⟨rfl,hb1⟩;have aA:=hb1.size;simp (disch:=omega) only [jK hb1,rX hb1] at *;replace bF:=aP hb1 bF;replace bW:=aP hb1 bW;have HB1:=xv hb1 HB0;clear hb1;have G9:w.heap.size+1<w1.heap.size:=bW;go_upto_region 5 with (refine aJ 31 (.tmp 3) _ _ rfl rfl Tryz.underlying31 rfl xk (uK ⟨aO,aN,aK,aU,aT,aV,dV,dU,dS,pz,jQ,jP,jO,jM,jL⟩) ?_)
 generalize hw2:w1.alloc _=w2;have hh:=rP hw2 (zA (⟨aO,aN,aK,aU,aT,aV,dV,dU,dS,pz,jQ,jP,jO,jM,jL⟩));clear aO aN aK aU aT aV dV dU dS pz jQ jP jO jM jL;obtain ⟨aO,aN,aK,aU,aT,aV,dV,dU,dS,pz,jQ,jP,jO,jM,jL⟩:=hh;replace bF:=kT hw2 (dB (bF));have hh:=rP hw2 (zA (⟨a_,aZ,bf,dh,df,cZ,jZ,jY,jX,jW,gJ,gI,gG,gB,gz⟩));clear a_ aZ bf dh df cZ jZ jY jX jW gJ gI gG gB gz;obtain ⟨a_,aZ,bf,dh,df,cZ,jZ,jY,jX,jW,gJ,gI,gG,gB,gz⟩:=hh;have hh:=yl hw2 (FX bW ⟨bQ,bP,bT,dQ,dP,dO,nP,nO,nN,nM,jk,ji,jh,jg,jf⟩);clear bQ bP bT dQ dP dO nP nO nN nM jk ji jh jg jf;obtain ⟨bQ,bP,bT,dQ,dP,dO,nP,nO,nN,nM,jk,ji,jh,jg,jf⟩:=hh;replace bW:=kT hw2 (dB (bW));have hh:=rP hw2 (qN (b:=w1.heap.size) ax);obtain ⟨KN,KL,KJ,KI,KH,KF,KE,KD,KC,Kz,Ag,Af,Ae,Ad,Ac⟩:=hh;have hh:=yl hw2 (sU (b:=w1.heap.size) ax);obtain ⟨Zq,Zp,Zo,Zn,Zm,Zl,Zk,Zj,Zi,Tc,Fg,Ff,Fe,Fb,Fa⟩:=hh;have zF:=kT hw2 (bV (b:=w1.heap.size) ax);have HB2:Hid (Below w.heap.size w w2):=by rw [<-hw2];exact hid (HB1.out.alloc HB1.out.size _)
 clear hw2;go_wp2_with (fail)
 refine (FN.out _ HB2.out).mono ?_;rintro e w3 ⟨rfl,hb3⟩;have kD:=hb3.size;simp (disch:=omega) only [jK hb3,rX hb3] at *;replace bF:=aP hb3 bF;replace bW:=aP hb3 bW;replace zF:=aP hb3 zF;have HB3:=xv hb3 HB2;clear hb3;have hzu:w1.heap.size<w3.heap.size:=zF;go_wp2_with (fail)
 refine (RK.out _ HB3.out).mono ?_;rintro e w4 ⟨rfl,hb4⟩;have Dj:=hb4.size;simp (disch:=omega) only [jK hb4,rX hb4] at *;replace bF:=aP hb4 bF;replace bW:=aP hb4 bW;replace zF:=aP hb4 zF;have HB4:=xv hb4 HB3;clear hb4;have hzq:w1.heap.size<w4.heap.size:=zF;go_wp2_with (fail)
 refine (GP.out _ HB4.out).mono ?_;rintro e w5 ⟨v1,v2,v3,v4,rfl,p1,p2,p3,p4,hb5⟩;have x8:=hb5.size;simp (disch:=omega) only [jK hb5,rX hb5] at *;replace bF:=aP hb5 bF;replace bW:=aP hb5 bW;replace zF:=aP hb5 zF;have xB:=xv hb5 HB4;clear hb5;obtain ⟨a1,k1,rfl,-,-,-,-,-⟩:=ak p1;obtain ⟨a2,k2,rfl,-,-,-,-,-⟩:=ak p2;obtain ⟨a3,k3,rfl,-,-,-,-,-⟩:=ak p3;obtain ⟨a4,k4,rfl,-,-,-,-,-⟩:=ak p4;have HBC:=hid (OA rG.ai rG.laid a1 a2 a3 a4 rG.ws.length rG.ks.length rG.vs.length rG.cs.length k1 k2 k3 k4 w1.heap.size 9 au au w5);clear p1 p2 p3 p4;go_wp2_with (fail)
 refine HBC.out.mono ?_;rintro e w6 ⟨rfl,hb6⟩;have VU:=hb6.size;simp (disch:=omega) only [jK hb6,rX hb6] at *;replace bW:=aP hb6 bW;have IR:=xv hb6 xB;clear hb6;go_wp2
 have HC:=hid (iq ⟨a_,aZ,bf,dh,df,cZ,jZ,jY,jX,jW,gJ,gI,gG,gB,gz⟩);exact jG (W:=w6) (b:=w.heap.size+1) [.int .u8 0,.int .i64 0,.int .i64 0,.int .i64 0,.int .i64 0,.int .i64 0,.int .i64 0,.int .i64 0,.int .i64 0,.int .i64 0,.slice none 0 0,.slice none 0 0,.slice none 0 0,.slice none 0 0,.int .u64 0] HC rfl rfl (fun _ h=>aF rfl rfl (ag _ Tryz.underlying31 rfl xk h)) fun _ s=>⟨_,_,_,_,rfl,World.ownsRow_nil _ _ _ _,World.ownsRow_nil _ _ _ _,World.ownsRow_nil _ _ _ _,World.ownsRow_nil _ _ _ _,s.be IR.out⟩
theorem Rw (c:bY) (s d:aW) (wa ka va ca:Option Addr) (wc kc vc cc:Nat) (key val:Int) (x fe k:Int) (hf:fe≠0) (w:World) (CK:Hid (∀W,Below w.heap.size w W->Calls Tryz.prog 19 #[IM c s ⟨wa,ka,va,ca,wc,kc,vc,cc⟩] W (aC W (.int .i64 0)))) (FN:Hid (∀W,Below w.heap.size w W->Calls Tryz.prog 53 #[jB s ⟨wa,ka,va,ca,wc,kc,vc,cc⟩,.int .i64 key] W (aC W (.tuple #[.int .i64 x,.int .i64 fe])))) (RK:Hid (∀W,Below w.heap.size w W->Calls Tryz.prog 23 #[jB s ⟨wa,ka,va,ca,wc,kc,vc,cc⟩,.int .i64 key] W (aC W (.tuple #[.int .i64 k,.int .i64 0])))) (GP:Hid (∀W,Below w.heap.size w W->Calls Tryz.prog 65 #[cfV c,jB s ⟨wa,ka,va,ca,wc,kc,vc,cc⟩,.int .i64 k,.agg #[.int .i64 key,.int .i64 val]] W (dm W d (.int .i64 0)))):
    Calls Tryz.prog 29 #[IM c s ⟨wa,ka,va,ca,wc,kc,vc,cc⟩,.int .i64 key,.int .i64 val] w (nJ w c d (.int .i64 0)):=by
 dsimp only [IM,jB,cfV] at *;have gf:(fe==0)=false:=by simpa using hf
 clear hf;go_enter Tryz.func29,Tryz.ntmps29
 go_upto_region 1 with (fail)
 generalize hw0:(w.alloc _).alloc _=w0;have hh:=rP hw0 (zA (qN (b:=w.heap.size) ax));obtain ⟨aO,aN,aK,aU,aT,aV,dV,dU,dS,pz,jQ,jP,jO,jM,jL⟩:=hh;have bF:=kT hw0 (dB (bV (b:=w.heap.size) ax));have hh:=rP hw0 (qN (b:=w.heap.size+1) ax);obtain ⟨a_,aZ,bf,dh,df,cZ,jZ,jY,jX,jW,gJ,gI,gG,gB,gz⟩:=hh;have hh:=yl hw0 (sU (b:=w.heap.size+1) ax);obtain ⟨bQ,bP,bT,dQ,dP,dO,nP,nO,nN,nM,jk,ji,jh,jg,jf⟩:=hh;have bW:=kT hw0 (bV (b:=w.heap.size+1) ax);have HB0:Hid (Below w.heap.size w w0):=by rw [<-hw0];exact hid ((br.alloc (Nat.le_refl _) _).alloc ax _)
 clear hw0;go_wp2_with (refine aJ 31 (.tmp 3) _ _ rfl rfl Tryz.underlying31 rfl xk (uK ⟨aO,aN,aK,aU,aT,aV,dV,dU,dS,pz,jQ,jP,jO,jM,jL⟩) ?_)
 refine (CK.out _ HB0.out).mono ?_;rintro e w1 ⟨rfl,hb1⟩;have aA:=hb1.size;simp (disch:=omega) only [jK hb1,rX hb1] at *;replace bF:=aP hb1 bF;replace bW:=aP hb1 bW;have HB1:=xv hb1 HB0;clear hb1;have G9:w.heap.size+1<w1.heap.size:=bW;go_upto_region 5 with (refine aJ 31 (.tmp 3) _ _ rfl rfl Tryz.underlying31 rfl xk (uK ⟨aO,aN,aK,aU,aT,aV,dV,dU,dS,pz,jQ,jP,jO,jM,jL⟩) ?_)
 generalize hw2:w1.alloc _=w2;have hh:=rP hw2 (zA (⟨aO,aN,aK,aU,aT,aV,dV,dU,dS,pz,jQ,jP,jO,jM,jL⟩));clear aO aN aK aU aT aV dV dU dS pz jQ jP jO jM jL;obtain ⟨aO,aN,aK,aU,aT,aV,dV,dU,dS,pz,jQ,jP,jO,jM,jL⟩:=hh;replace bF:=kT hw2 (dB (bF));have hh:=rP hw2 (zA (⟨a_,aZ,bf,dh,df,cZ,jZ,jY,jX,jW,gJ,gI,gG,gB,gz⟩));clear a_ aZ bf dh df cZ jZ jY jX jW gJ gI gG gB gz;obtain ⟨a_,aZ,bf,dh,df,cZ,jZ,jY,jX,jW,gJ,gI,gG,gB,gz⟩:=hh;have hh:=yl hw2 (FX bW ⟨bQ,bP,bT,dQ,dP,dO,nP,nO,nN,nM,jk,ji,jh,jg,jf⟩);clear bQ bP bT dQ dP dO nP nO nN nM jk ji jh jg jf;obtain ⟨bQ,bP,bT,dQ,dP,dO,nP,nO,nN,nM,jk,ji,jh,jg,jf⟩:=hh;replace bW:=kT hw2 (dB (bW));have hh:=rP hw2 (qN (b:=w1.heap.size) ax);obtain ⟨KN,KL,KJ,KI,KH,KF,KE,KD,KC,Kz,Ag,Af,Ae,Ad,Ac⟩:=hh;have hh:=yl hw2 (sU (b:=w1.heap.size) ax);obtain ⟨Zq,Zp,Zo,Zn,Zm,Zl,Zk,Zj,Zi,Tc,Fg,Ff,Fe,Fb,Fa⟩:=hh;have zF:=kT hw2 (bV (b:=w1.heap.size) ax);have HB2:Hid (Below w.heap.size w w2):=by rw [<-hw2];exact hid (HB1.out.alloc HB1.out.size _)
 clear hw2;go_wp2_with (fail)
 refine (FN.out _ HB2.out).mono ?_;rintro e w3 ⟨rfl,hb3⟩;have kD:=hb3.size;simp (disch:=omega) only [jK hb3,rX hb3] at *;replace bF:=aP hb3 bF;replace bW:=aP hb3 bW;replace zF:=aP hb3 zF;have HB3:=xv hb3 HB2;clear hb3;have hzu:w1.heap.size<w3.heap.size:=zF;go_wp2_with (fail)
 refine (RK.out _ HB3.out).mono ?_;rintro e w4 ⟨rfl,hb4⟩;have Dj:=hb4.size;simp (disch:=omega) only [jK hb4,rX hb4] at *;replace bF:=aP hb4 bF;replace bW:=aP hb4 bW;replace zF:=aP hb4 zF;have HB4:=xv hb4 HB3;clear hb4;have hzq:w1.heap.size<w4.heap.size:=zF;go_wp2_with (fail)
 refine (GP.out _ HB4.out).mono ?_;rintro e w5 ⟨v1,v2,v3,v4,rfl,p1,p2,p3,p4,hb5⟩;have x8:=hb5.size;simp (disch:=omega) only [jK hb5,rX hb5] at *;replace bF:=aP hb5 bF;replace bW:=aP hb5 bW;replace zF:=aP hb5 zF;have xB:=xv hb5 HB4;clear hb5;obtain ⟨a1,k1,rfl,-,-,-,-,-⟩:=ak p1;obtain ⟨a2,k2,rfl,-,-,-,-,-⟩:=ak p2;obtain ⟨a3,k3,rfl,-,-,-,-,-⟩:=ak p3;obtain ⟨a4,k4,rfl,-,-,-,-,-⟩:=ak p4;have HBC:=hid (DT c s wa ka va ca wc kc vc cc d.ai d.laid a1 a2 a3 a4 d.ws.length d.ks.length d.vs.length d.cs.length k1 k2 k3 k4 w1.heap.size w5 zF ⟨KN,KL,KJ,KI,KH,KF,KE,KD,KC,Kz,Ag,Af,Ae,Ad,Ac⟩ (fun j hj=>by
  match j,hj with
  | 0,_=>exact Zq
  | 1,_=>exact Zp
  | 2,_=>exact Zo
  | 3,_=>exact Zn
  | 4,_=>exact Zm
  | 5,_=>exact Zl
  | 6,_=>exact Zk
  | 7,_=>exact Zj
  | 8,_=>exact Zi
  | 9,_=>exact Tc
  | 10,_=>exact Fg
  | 11,_=>exact Ff
  | 12,_=>exact Fe
  | 13,_=>exact Fb
  | 14,_=>exact Fa
  | j+15,hj=>omega))
 have XC:=hid (And.intro p1 (And.intro p2 (And.intro p3 p4)));clear p1 p2 p3 p4;go_wp2_with (fail)
 refine HBC.out.mono ?_;rintro e w6 ⟨rfl,hb6,hk6⟩;have VU:=hb6.size;try simp only [World.size_alloc,World.size_setCell] at VU
 have ja:w6.cell? ⟨w.heap.size+1,0,none⟩=some (.int .u8 0)/\w6.cell? ⟨w.heap.size+1,1,none⟩=some (.int .i64 0)/\w6.cell? ⟨w.heap.size+1,2,none⟩=some (.int .i64 0)/\w6.cell? ⟨w.heap.size+1,3,none⟩=some (.int .i64 0)/\w6.cell? ⟨w.heap.size+1,4,none⟩=some (.int .i64 0)/\w6.cell? ⟨w.heap.size+1,5,none⟩=some (.int .i64 0)/\w6.cell? ⟨w.heap.size+1,6,none⟩=some (.int .i64 0)/\w6.cell? ⟨w.heap.size+1,7,none⟩=some (.int .i64 0)/\w6.cell? ⟨w.heap.size+1,8,none⟩=some (.int .i64 0)/\w6.cell? ⟨w.heap.size+1,9,none⟩=some (.int .i64 0)/\w6.cell? ⟨w.heap.size+1,10,none⟩=some (.slice none 0 0)/\w6.cell? ⟨w.heap.size+1,11,none⟩=some (.slice none 0 0)/\w6.cell? ⟨w.heap.size+1,12,none⟩=some (.slice none 0 0)/\w6.cell? ⟨w.heap.size+1,13,none⟩=some (.slice none 0 0)/\w6.cell? ⟨w.heap.size+1,14,none⟩=some (.int .u64 0):=by refine ⟨?_,?_,?_,?_,?_,?_,?_,?_,?_,?_,?_,?_,?_,?_,?_⟩<;>(refine (hb6.cell ?_).trans ?_<;>first|(exact gW)|(exact dL))
 have jE:w6.frozen? ⟨w.heap.size+1,0,none⟩=false/\w6.frozen? ⟨w.heap.size+1,1,none⟩=false/\w6.frozen? ⟨w.heap.size+1,2,none⟩=false/\w6.frozen? ⟨w.heap.size+1,3,none⟩=false/\w6.frozen? ⟨w.heap.size+1,4,none⟩=false/\w6.frozen? ⟨w.heap.size+1,5,none⟩=false/\w6.frozen? ⟨w.heap.size+1,6,none⟩=false/\w6.frozen? ⟨w.heap.size+1,7,none⟩=false/\w6.frozen? ⟨w.heap.size+1,8,none⟩=false/\w6.frozen? ⟨w.heap.size+1,9,none⟩=false/\w6.frozen? ⟨w.heap.size+1,10,none⟩=false/\w6.frozen? ⟨w.heap.size+1,11,none⟩=false/\w6.frozen? ⟨w.heap.size+1,12,none⟩=false/\w6.frozen? ⟨w.heap.size+1,13,none⟩=false/\w6.frozen? ⟨w.heap.size+1,14,none⟩=false:=by refine ⟨?_,?_,?_,?_,?_,?_,?_,?_,?_,?_,?_,?_,?_,?_,?_⟩<;>(refine (hb6.frozen ?_).trans ?_<;>first|(exact gW)|(exact dL))
 have iZ:w.heap.size+1<w6.heap.size:=xo;clear a_ aZ bf dh df cZ jZ jY jX jW gJ gI gG gB gz bQ bP bT dQ dP dO nP nO nN nM jk ji jh jg jf bW;obtain ⟨a_,aZ,bf,dh,df,cZ,jZ,jY,jX,jW,gJ,gI,gG,gB,gz⟩:=ja;try clear ja
 obtain ⟨bQ,bP,bT,dQ,dP,dO,nP,nO,nN,nM,jk,ji,jh,jg,jf⟩:=jE;try clear jE
 have bW:=iZ;try clear iZ
 have ck:∀ {y:TypeId} {n:Nat} {v:Value} {xs:List Value},w5.ownsRow w4.heap.size y 1 v n xs->w6.ownsRow w4.heap.size y 1 v n xs:=fun h=>af h fun q hq=>hk6 q (h.lt q hq).2 (by have:=(h.lt q hq).1;omega)
 have HP:=hid (And.intro (ck XC.out.1) (And.intro (ck XC.out.2.1) (And.intro (ck XC.out.2.2.1) (ck XC.out.2.2.2))));have IR:=hid (xB.out.trans (hb6.mono (show w.heap.size<=w1.heap.size by omega)));have hz1:w.heap.size+1<w4.heap.size:=xo;clear ck hb6 hk6 XC HBC;go_wp2
 have HC:=hid (iq ⟨a_,aZ,bf,dh,df,cZ,jZ,jY,jX,jW,gJ,gI,gG,gB,gz⟩);exact jG (W:=w6) (b:=w.heap.size+1) [.int .u8 c.tag,.int .i64 c.most,.int .i64 c.ai,.int .i64 c.least,.int .i64 c.den,.int .i64 c.ll,.int .i64 c.rl,.int .i64 c.rh,.int .i64 c.lh,.int .i64 d.ai,.slice a1 d.ws.length k1,.slice a2 d.ks.length k2,.slice a3 d.vs.length k3,.slice a4 d.cs.length k4,.int .u64 d.laid] HC rfl rfl (fun _ h=>aF rfl rfl (ag _ Tryz.underlying31 rfl xk h)) fun _ s=>⟨_,_,_,_,rfl,s.ow hz1 HP.out.1,s.ow hz1 HP.out.2.1,s.ow hz1 HP.out.2.2.1,s.ow hz1 HP.out.2.2.2,s.be IR.out⟩
end
section
open Go.RowKit Go.Shelf Go.Sort
def qQ (c:aW) (key:Int):Int×Int:=if fE c=0 then ((dD c.ws 0 (xA c.ws c.ks c.ks.length key):Int),0) else (0,fE c)
theorem zO (c:aW) (a:jJ) (key:Int) (hl:c.ws.length<=9223372036854775807) (hl2:c.ks.length<=1000000000000) (w:World) (hin:iy w c a) (hT:TabAt w):
    Calls Tryz.prog 23 #[jB c a,.int .i64 key] w (aC w (.tuple #[.int .i64 (qQ c key).1,.int .i64 (qQ c key).2])):=by
 have CK:=hid (fun W (hW:Below w.heap.size w W)=>mX c a hl hl2 W (hin.below hW));by_cases hs:fE c=0
 . have FR:=hid (fun W (hW:Below w.heap.size w W)=>Qg c a key hs W (hin.below hW) (hT.below hW));obtain ⟨n1,n2,n3⟩:=MX hs;have CT:=hid (fun W (hW:Below w.heap.size w W)=>LC a.wa a.wc c.ws hin.u c.ks.length 0 (xA c.ws c.ks c.ks.length key) n1 xo n3 (Nat.zero_le _) (qF c.ws c.ks c.ks.length key).le W (hin.below hW).w);rw [hs] at CK;have e:qQ c key=((dD c.ws 0 (xA c.ws c.ks c.ks.length key):Int),0):=by rw [qQ,if_pos hs]
   rw [e];clear e;generalize dD c.ws 0 (xA c.ws c.ks c.ks.length key)=Z at *;generalize xA c.ws c.ks c.ks.length key=R at *;obtain ⟨ai,ws,ks,vs,cs,laid⟩:=c;obtain ⟨wa,ka,va,ca,wc,kc,vc,cc⟩:=a;dsimp only [jB] at *;clear hin hs hT hl hl2 n1 n2 n3;go_enter Tryz.func23,Tryz.ntmps23
   go_wp2_with fail
   refine (CK.out _ aH).mono ?_;rintro e w1 ⟨rfl,hb1⟩;have aA:=hb1.size;try simp only [World.size_alloc,World.size_setCell] at aA
   have hh:=jl hb1 (jA (b:=w.heap.size) ax);obtain ⟨aO,aN,aK,aU,aT,aV⟩:=hh;have bF:=aP hb1 (bV (b:=w.heap.size) ax);have hB1:Below w.heap.size w w1:=aH;have HB1:=hid hB1;clear hb1 hB1;go_upto_region 4 with (fail)
   have K0:=hid (fun d os=>kr w1 d os (FR.out _ (aj (below_regrown w1 d os) HB1.out HB1.out.size)));have K1:=hid (fun d os=>kr w1 d os (CT.out _ (aj (below_regrown w1 d os) HB1.out HB1.out.size)));have q0:=cg aO;have q1:=cg aN;have q2:=cg aK;have q3:=cg aU;have q4:=cg aT;have q5:=cg aV;refine wp_region_quiet_below xk xk ?_;repeat (go_big_quiet_step (first|with_reducible exact K0.out _ _|with_reducible exact K1.out _ _|exact K0.out _ _|exact K1.out _ _))
   refine wpQuiet_nil ?_;intro _ hw';obtain ⟨⟨dq,osq⟩,hw''⟩:=hw';subst hw'';have hbq:=below_regrown w1 dq osq;clear q0 q1 q2 q3 q4 q5 K0 K1;generalize Sort.grow (redrawn w1 dq) osq=wx at *;have HB3:=xv hbq HB1;clear hbq;go_wp2
   go_ret2
   exact ⟨rfl,HB3.out⟩
 . have e:qQ c key=(0,fE c):=by rw [qQ,if_neg hs]
   rw [e];have g1:(fE c != 0)=true:=by simpa using hs
   generalize fE c=E at *;obtain ⟨ai,ws,ks,vs,cs,laid⟩:=c;obtain ⟨wa,ka,va,ca,wc,kc,vc,cc⟩:=a;dsimp only [jB] at *;clear hin hs hT hl hl2 e;go_enter Tryz.func23,Tryz.ntmps23
   go_wp2_with fail
   refine (CK.out _ aH).mono ?_;rintro e w1 ⟨rfl,hb1⟩;have aA:=hb1.size;try simp only [World.size_alloc,World.size_setCell] at aA
   have hh:=jl hb1 (jA (b:=w.heap.size) ax);obtain ⟨aO,aN,aK,aU,aT,aV⟩:=hh;have bF:=aP hb1 (bV (b:=w.heap.size) ax);have hB1:Below w.heap.size w w1:=aH;go_wp2
   go_ret2
   exact ⟨rfl,hB1⟩
end
section
open Go.RowKit
theorem abh {c:bY} {s:aW} {a H:Nat} (kn:pV c s a H) (hu:fB s.ws):fQ s (2^a) s.ws.length s.ks.length s.cs.length:=by
 obtain ⟨g,-⟩:=lU kn hu;rw [g.AO,g.Ep];exact g
theorem Vj {c:bY} {s:aW} (hg:kY c s=0) (sa:jJ) (i:Nat) (hi:i<s.ks.length) (x y:Int) (w:World) (hin:iy w s sa):
    Calls Tryz.prog 64 #[jB s sa,.int .i64 i,.agg #[.int .i64 x,.int .i64 y]] w (dm w (ul s i x y) (.int .i64 0)):=by
 obtain ⟨hc,a,H,kn,hs,lq,hden⟩:=nD hg;obtain ⟨g0,wF⟩:=lU kn hin.u;obtain ⟨p1,p2,p3,p4,p5,p6⟩:=kn.Nb;have g:=abh kn hin.u;have hew:=g0.AO;have hvk:s.vs.length=s.ks.length:=g.LQ;have hpH:=Nat.two_pow_pos H;have hcl:s.cs.length=2^H:=g0.Ep;have CK:=hid (fun W (hb:Below w.heap.size w W)=>lV s sa xo xo W (hin.below hb));have hE:A8 s=0:=by rw [A8,if_pos kn.may]
 rw [hE] at CK;have TW:=hid (fun W (hb:Below w.heap.size w W)=>yK s sa W (hin.below hb) xo xo xo xo);have hok:=g.ok;have hwn:=g.wn;have hcn:=g.cn;have hsg:=g.ai;dsimp only [jB] at *;rw [hvk] at CK TW ⊢;exact Je w s.ai sa.wa sa.ka sa.va sa.ca sa.wc sa.kc sa.vc sa.cc s.ws.length s.ks.length s.cs.length s.laid s i (2^a) x y rfl rfl rfl rfl hvk rfl xo xo xo xo xo xo hsg xo hi hwn hcn hok CK TW
theorem Ru (c:bY) (s:aW) (sa:jJ) (key val:Int) (hl:s.ws.length<=9223372036854775807) (hl2:s.ks.length<=1000000000000) (hcc:s.cs.length<=sa.cc) (w:World) (hin:iy w s sa) (hT:TabAt w):
    Calls Tryz.prog 29 #[IM c s sa,.int .i64 key,.int .i64 val] w (nJ w (qV c s key) (iK c s key val) (.int .i64 (kz c s key))):=by
 have CK:Hid (∀W,Below w.heap.size w W->Calls Tryz.prog 19 #[IM c s sa] W (aC W (.int .i64 (qR c s)))):=hid fun W hb=>l9 c s sa hl hl2 hcc W (hin.below hb)
 by_cases h0:qR c s=0
 . obtain ⟨hg,hs⟩:=lS h0;rw [h0] at CK;have FN:Hid (∀W,Below w.heap.size w W->Calls Tryz.prog 53 #[jB s sa,.int .i64 key] W (aC W (.tuple #[.int .i64 (oQ s key).1,.int .i64 (oQ s key).2]))):=hid fun W hb=>zS s sa key hl hl2 W (hin.below hb) (hT.below hb)
   cases hb:hasB s key with
   | true=>
    obtain ⟨e1,h1,h2,h3,-⟩:=Hg hs hb;have e:kz c s key=0:=by rw [kz,if_pos h0,if_pos hb]
    rw [e1] at FN;rw [qV,if_pos e,iK,if_pos e,if_pos hb,e];exact Nj c s _ sa.wa sa.ka sa.va sa.ca sa.wc sa.kc sa.vc sa.cc key val (xM s key) w CK FN (hid fun W hw=>Vj hg sa _ h1 key val W (hin.below hw))
   | false=>
    obtain ⟨e1,-⟩:=Wn hs hb;rw [e1] at FN;have RK:Hid (∀W,Below w.heap.size w W->Calls Tryz.prog 23 #[jB s sa,.int .i64 key] W (aC W (.tuple #[.int .i64 (qQ s key).1,.int .i64 (qQ s key).2]))):=hid fun W hw=>zO s sa key hl hl2 W (hin.below hw) (hT.below hw)
    have er:qQ s key=((uk s key:Int),0):=by rw [qQ,if_pos hs];rfl
    rw [er] at RK;have GP:Hid (∀W,Below w.heap.size w W->Calls Tryz.prog 65 #[.agg #[.int .u8 c.tag,.int .i64 c.most,.int .i64 c.ai,.int .i64 c.least,.int .i64 c.den,.int .i64 c.ll,.int .i64 c.rl,.int .i64 c.rh,.int .i64 c.lh],jB s sa,.int .i64 (uk s key),.agg #[.int .i64 key,.int .i64 val]] W (dm W (qI c s (uk s key) (key,val)) (.int .i64 (rF c s (uk s key))))):=hid fun W hw=>SN c s sa hl hl2 hcc (uk s key) key val W (hin.below hw) (hT.below hw)
    have hp:=PH (key:=key) h0;by_cases hm:(fC s:Int)=c.most
    . have e:kz c s key=9:=by rw [kz,if_pos h0,hb,if_neg au,if_pos hm]
      rw [if_pos hm] at hp;have ec:qI c s (uk s key) (key,val)=rG:=by rw [qI,hp,if_neg au]
      rw [ec,hp] at GP;rw [qV,iK,e,if_neg au,if_neg au];exact Js c s sa.wa sa.ka sa.va sa.ca sa.wc sa.kc sa.vc sa.cc key val 0 6 (uk s key) au w CK FN RK GP
    . have e:kz c s key=0:=by rw [kz,if_pos h0,hb,if_neg au,if_neg hm]
      rw [if_neg hm] at hp;rw [hp] at GP;rw [qV,if_pos e,iK,if_pos e,hb,if_neg au,e];exact Rw c s _ sa.wa sa.ka sa.va sa.ca sa.wc sa.kc sa.vc sa.cc key val 0 6 (uk s key) au w CK FN RK GP
 . have e:kz c s key=qR c s:=by rw [kz,if_neg h0]
   rw [qV,iK,e,if_neg h0,if_neg h0];exact Nk c s sa.wa sa.ka sa.va sa.ca sa.wc sa.kc sa.vc sa.cc key val _ h0 w CK
def upd (f:Nat->Int) (n:Nat) (v:Int):Nat->Int:=fun m=>if m=n then v else f m
theorem P6 {L:Nat} (hL:1<=L) (f:Nat->Int) {n:Nat} (h1:1<=n) (h2:n<2^L) (v:Int):((lay L 1).map f).set (oJ L n) v=(lay L 1).map (upd f n v):=by
 obtain ⟨p1,p2⟩:=kK hL h1 h2;have hl:=fG 1 hL;refine List.ext_getElem ax fun p q1 q2=> ?_
 have hp:p<2^L-1:=by simpa [hl] using q2
 have e1:=uN hL hp;rw [List.getD_eq_getElem?_getD,List.getElem?_eq_getElem xo,Option.getD_some] at e1;rw [List.getElem_set,List.getElem_map,List.getElem_map,upd];by_cases h:oJ L n=p
 . subst h;rw [List.getD_eq_getElem?_getD,List.getElem?_eq_getElem xo,Option.getD_some] at p2;rw [if_pos rfl,if_pos p2]
 . rw [if_neg h,if_neg (fun e=>h (by rw [<-e];exact e1))]
theorem P7 {L:Nat} (hL:1<=L) (f:Nat->Int) {n:Nat} (h1:1<=n) (h2:n<2^L):((lay L 1).map f).getD (oJ L n) 0=f n:=by
 obtain ⟨p1,p2⟩:=kK hL h1 h2;have hl:=fG 1 hL;rw [List.getD_eq_getElem?_getD,List.getElem?_eq_getElem xo,Option.getD_some] at p2;rw [List.getD_eq_getElem?_getD,List.getElem?_map,List.getElem?_eq_getElem xo];simp [p2]
theorem vW {L:Nat} (hL:1<=L) {ms:List Int} (hm:ms.length=2^L-1):ms=(lay L 1).map (fU L ms):=by
 have hl:=fG 1 hL;refine List.ext_getElem (by simp;omega) fun p q1 q2=> ?_
 have hp:p<2^L-1:=xo;have e1:=uN hL hp;obtain ⟨b1,b2⟩:=Dc hL hp;rw [List.getElem_map];rw [List.getD_eq_getElem?_getD,List.getElem?_eq_getElem xo,Option.getD_some] at e1 b1 b2;rw [fU,if_neg xo,n_,if_neg xo,vP hL b1 xo,e1,Int.toNat_natCast,List.getD_eq_getElem?_getD,List.getElem?_eq_getElem q1,Option.getD_some]
def Uk (p q:Int×Int):Int×Int:=(if 0<q.2 then q.1 else p.1,wrap64 (p.2+q.2))
def lZ (F lo hi h n:Nat):Bool:=(List.range hi).any fun s=>decide (lo<=s)&&decide ((F+s)/2^h=n)
theorem oP {F lo hi h n:Nat}:lZ F lo hi h n=true↔∃s,lo<=s/\s<hi/\(F+s)/2^h=n:=by
 simp only [lZ,List.any_eq_true,List.mem_range,Bool.and_eq_true,decide_eq_true_eq];constructor
 . rintro ⟨s,h1,h2,h3⟩;exact ⟨s,h2,h1,h3⟩
 . rintro ⟨s,h1,h2,h3⟩;exact ⟨s,h2,h1,h3⟩
def gH (lf t0:Nat->Int×Int) (F lo hi:Nat):Nat->Nat->Int×Int
  | 0,n=>if lZ F lo hi 0 n=true then lf (n-F) else t0 n
  | h+1,n=>if lZ F lo hi (h+1) n=true then Uk (gH lf t0 F lo hi h (2*n)) (gH lf t0 F lo hi h (2*n+1)) else gH lf t0 F lo hi h n
theorem hit0 {F lo hi n:Nat}:lZ F lo hi 0 n=true↔F+lo<=n/\n<F+hi:=by
 rw [oP];constructor
 . rintro ⟨s,h1,h2,h3⟩;rw [Nat.pow_zero,Nat.div_one] at h3;omega
 . rintro ⟨h1,h2⟩;exact ⟨n-F,by omega,by omega,by rw [Nat.pow_zero,Nat.div_one];omega⟩
theorem Dp {F lo h n:Nat}:lZ F lo lo h n=false:=by
 rw [Bool.eq_false_iff];intro e;obtain ⟨s,h1,h2,-⟩:=oP.1 e;omega
theorem sH {F lo hi h n:Nat}:lZ F lo hi (h+1) n=true↔∃m,lZ F lo hi h m=true/\m/2=n:=by
 rw [oP];constructor
 . rintro ⟨s,h1,h2,h3⟩;exact ⟨_,oP.2 ⟨s,h1,h2,rfl⟩,by rw [Nat.div_div_eq_div_mul,<-Nat.pow_succ];exact h3⟩
 . rintro ⟨m,hm,h3⟩;obtain ⟨s,h1,h2,rfl⟩:=oP.1 hm;rw [Nat.div_div_eq_div_mul,<-Nat.pow_succ] at h3;exact ⟨s,h1,h2,h3⟩
theorem kX {D lo hi h n:Nat} (hhi:hi<=2^D) (hh:h<=D) (e:lZ (2^D) lo hi h n=true):2^(D-h)<=n/\n<2*2^(D-h):=by
 obtain ⟨s,h1,h2,rfl⟩:=oP.1 e;have ep:2^D=2^(D-h)*2^h:=by rw [<-Nat.pow_add];congr 1;omega
 have hp:=Nat.two_pow_pos h;constructor
 . rw [Nat.le_div_iff_mul_le hp,<-ep];omega
 . rw [Nat.div_lt_iff_lt_mul hp,Nat.mul_assoc,<-ep];omega
theorem Y4 {D lo hi n:Nat} (hhi:hi<=2^D) (e:lZ (2^D) lo hi (D+1) n=true):n=0:=by
 obtain ⟨s,h1,h2,rfl⟩:=oP.1 e;rw [Nat.div_eq_of_lt];rw [Nat.pow_succ];omega
theorem Zd {lf t0:Nat->Int×Int} {F lo i n:Nat}:gH lf t0 F lo (lo+(i+1)) 0 n=if n=F+(lo+i) then lf (lo+i) else gH lf t0 F lo (lo+i) 0 n:=by
 unfold gH;by_cases h:n=F+(lo+i)
 . rw [if_pos h,if_pos (hit0.2 xo),h,Nat.add_sub_cancel_left]
 . rw [if_neg h];by_cases h2:lZ F lo (lo+i) 0 n=true
   . rw [if_pos h2,if_pos (hit0.2 (by have:=hit0.1 h2;omega))]
   . rw [if_neg h2,if_neg (fun e=>h2 (hit0.2 (by have:=hit0.1 e;omega)))]
def gM (lf t0:Nat->Int×Int) (F lo hi h:Nat) (done:Nat->Bool) (n:Nat):Int×Int:=
  if lZ F lo hi (h+1) n=true/\done n=true then Uk (gH lf t0 F lo hi h (2*n)) (gH lf t0 F lo hi h (2*n+1)) else gH lf t0 F lo hi h n
theorem Zc {lf t0:Nat->Int×Int} {F lo hi h:Nat} {done:Nat->Bool} (hd:∀n,lZ F lo hi (h+1) n=true->n≠0->done n=false) {n:Nat} (hn:n≠0):gM lf t0 F lo hi h done n=gH lf t0 F lo hi h n:=by
 unfold gM;rw [if_neg];rintro ⟨h1,h2⟩;rw [hd n h1 hn] at h2;cases h2
theorem Wy {lf t0:Nat->Int×Int} {F lo hi h:Nat} {done:Nat->Bool} (hd:∀n,lZ F lo hi (h+1) n=true->n≠0->done n=true) {n:Nat} (hn:n≠0):gM lf t0 F lo hi h done n=gH lf t0 F lo hi (h+1) n:=by
 unfold gM;rw [gH];by_cases h1:lZ F lo hi (h+1) n=true
 . rw [if_pos ⟨h1,hd n h1 hn⟩,if_pos h1]
 . rw [if_neg (fun e=>h1 e.1),if_neg h1]
theorem Zb {lf t0:Nat->Int×Int} {D lo hi h:Nat} {done:Nat->Bool} (hhi:hi<=2^D) (hh:h+1<=D) {n:Nat} (hn:lZ (2^D) lo hi (h+1) n=true):
    gM lf t0 (2^D) lo hi h done (2*n)=gH lf t0 (2^D) lo hi h (2*n)/\gM lf t0 (2^D) lo hi h done (2*n+1)=gH lf t0 (2^D) lo hi h (2*n+1)/\
    ∀m,gM lf t0 (2^D) lo hi h (fun x=>done x||x==n) m=if m=n then Uk (gH lf t0 (2^D) lo hi h (2*n)) (gH lf t0 (2^D) lo hi h (2*n+1)) else gM lf t0 (2^D) lo hi h done m:=by
 have hr:=kX hhi hh hn;have hp:=Nat.two_pow_pos (D-(h+1));refine ⟨?_,?_,fun m=> ?_⟩
 . unfold gM;rw [if_neg];rintro ⟨e,-⟩;have:=kX hhi hh e;omega
 . unfold gM;rw [if_neg];rintro ⟨e,-⟩;have:=kX hhi hh e;omega
 . by_cases hm:m=n
   . subst hm;rw [if_pos rfl,gM,if_pos ⟨hn,by simp⟩]
   . rw [if_neg hm];unfold gM;have:(done m||m==n)=done m:=by simp [hm]
     simp only [this]
end
section
open Go.RowKit Go.Shelf
attribute [local go_sem] Oper.semAt_some
theorem JC (l n:Int) (w:World):
    Calls Tryz.prog 224 #[.int .i64 l,.int .i64 n] w fun e w'=>e= .returned (.int .i64 (yE l n))/\w=w':=by
 by_cases hl:1<=l/\l<=14
 . obtain ⟨h1,h2⟩:=hl;obtain ⟨hp1,hp2⟩:=Ba l h2;by_cases hn:1<=n
   . by_cases hm:n<2^l.toNat
     . have hv:yE l n=0:=by simp [yE,h1,h2,hn,hm]
       rw [hv];clear hv;go_enter Tryz.func224,Tryz.ntmps224
       go_wp2_with (go_at_call 208;refine (tu _ h1 h2 _).mono ?_;rintro e w' ⟨rfl,rfl⟩)
       go_ret
       exact ⟨rfl,rfl⟩
     . have hv:yE l n=2:=by simp [yE,hm]
       rw [hv];clear hv;go_enter Tryz.func224,Tryz.ntmps224
       go_wp2_with (go_at_call 208;refine (tu _ h1 h2 _).mono ?_;rintro e w' ⟨rfl,rfl⟩)
       go_ret
       exact ⟨rfl,rfl⟩
   . have hv:yE l n=2:=by simp [yE,hn]
     rw [hv];clear hv;go_enter Tryz.func224,Tryz.ntmps224
     go_wp2_with (go_at_call 208;refine (tu _ h1 h2 _).mono ?_;rintro e w' ⟨rfl,rfl⟩)
     go_ret
     exact ⟨rfl,rfl⟩
 . have hv:yE l n=2:=by simp [yE,hl]
   rw [hv];clear hv;go_enter Tryz.func224,Tryz.ntmps224
   go_wp2_with (go_at_call 208;refine (BU _ xo _).mono ?_;rintro e w' ⟨rfl,rfl⟩)
   go_ret
   exact ⟨rfl,rfl⟩
end
section
open Go.RowKit
def Xw (P:Program) (gf:Nat) (lb:Array Value) (xs:List (Array Value)) (Kp Sw:World->World->Prop) (w:World):Prop:=
  ∀ (l:Nat) (J Jx:Nat->World->Prop) (W:World),Below w.heap.size w W->
    (∀k W1 W2,J k W1->Sw W1 W2->J k W2)->(∀k W1 W2,Jx k W1->Sw W1 W2->Jx k W2)->
    (∀k W1,k<xs.length->J k W1->YieldAt Fence.wide 0 P l (xs.getD k #[]) W1 fun e W'=>
     (e= .returned (.bool true)/\J (k+1) W'/\Kp W1 W')\/(e= .returned (.bool false)/\Jx (k+1) W'))->
    J 0 W->
    CallsIn Fence.wide 0 P gf (#[.func (.yield l) #[] #[]]++lb) W fun e W'=>(∃v,e= .returned v)/\(J xs.length W'\/∃k,k<=xs.length/\Jx k W')
theorem IV {P:Program} {g:Operand} {ps:Array Tmp} {assign body:Code} {Q:Exit->Act->World->Prop} {a:Act} {w:World}
    {gf:Nat} {lb:Array Value} (hg:a.eval g= .func (.func gf) #[] lb) (eg:∀args w,(callFunc gf args).run P w= .ok (.enter gf args) w)
    {xs:List (Array Value)} {Kp Sw:World->World->Prop} {w0:World} (hseq:Xw P gf lb xs Kp Sw w0) (hSk:∀ {A C:World},Sw A C->KeepsOthers A C) (hb0:Below w0.heap.size w0 w)
    (hKt:∀ {A B C:World},Kp A B->Kp B C->Kp A C) (hKb:∀(W:World) (l:Nat) (o o':Obj),w.heap.size<=l->W.heap[l]? =some o->o.isCells=false->Kp W (W.putObj l o'))
    (hps:∀x ∈ xs,x.size=ps.size)
    (I:Nat->World->Prop) (Ix:Code->World->Prop) (hI:∀k W W',I k W->Calm w.heap.size W W'->I k W') (hIx:∀c W W',Ix c W->Calm w.heap.size W W'->Ix c W') (hIS:∀k W W',I k W->Sw W W'->I k W') (abY:∀c W W',Ix c W->Sw W W'->Ix c W') (h0:I 0 w)
    (tZ:∀(l k:Nat) (W:World),w.heap.size<=l->k<xs.length->I k W->
      assign.wpIn (NQ l) 0 P (Exit.then (IG P l body w.heap.size Kp I Ix k W) (fun _ _ _=>False))
        {tmps:=(ps.zip (xs.getD k #[])).foldl (fun t (p,v)=>t.setIfInBounds p v) a.tmps,defers:=[]} W)
    (hdone:∀(D:Nat) (W:World),w.heap.size<=D->I xs.length W->W.heap[D]? =some (.deferred (some []))->Q .normal {a with defers:= {target:= .collected D,args:= #[]}::a.defers} W)
    (hstop:∀(D:Nat) (c:Code) (W:World),w.heap.size<=D->Ix c W->W.heap[D]? =some (.deferred (some []))->c.wp P Q {a with defers:= {target:= .collected D,args:= #[]}::a.defers} W):
    (Code.rangeFunc g ps assign body).wp P Q a w:=by
 refine wpIn_wide (n:=0).1 (wpIn_rangeFunc ?_);intro fn hfn;obtain ⟨rec,hrec⟩:∃rec:LoopState->Option Code->Loop,rec=fun st pe=> {state:=st,pending:=pe,fn,tmps:=a.tmps,params:=ps,assign,body,defers:=w.heap.size}:=⟨_,rfl⟩
 obtain ⟨W1,hW1⟩:∃W1,(w.alloc (.deferred (some []))).alloc (.loop (rec .ready none))=W1:=⟨_,rfl⟩
 have hL1:W1.heap[w.heap.size+1]? =some (.loop (rec .ready none)):=by
  rw [<-hW1];have:=World.alloc_heap_new (w.alloc (.deferred (some []))) (.loop (rec .ready none));rwa [World.size_alloc] at this
 have hK1:W1.heap[w.heap.size]? =some (.deferred (some [])):=by
  rw [<-hW1];exact (Below.heap_alloc _ _ _ ax).trans (World.alloc_heap_new w _)
 have hI1:I 0 W1:=by rw [<-hW1];exact hI _ _ _ h0 ((Calm.alloc _ (Nat.le_refl _)).trans (Calm.alloc _ ax))
 have hb1:Below w0.heap.size w0 W1:=by
  rw [<-hW1];exact hb0.trans ((((Below.refl _ w).alloc (Nat.le_refl _) _).alloc ax _).mono hb0.size)
 refine ⟨w.heap.size+1,[{target:= .collected w.heap.size,args:= #[]}],W1,{target:= .fn (.func gf) lb,args:= #[.func (.yield (w.heap.size+1)) #[] #[]]},W1,gf,
   #[.func (.yield (w.heap.size+1)) #[] #[]]++lb,W1,?_,?_,fun _ _=>trivial,?_,fun h=>(by cases h),?_⟩
 . rw [<-hW1,hrec];exact run_enterLoop_outer _ _ _ _ _
 . simp only [resolve,hg];simp [go_sem]
 . simp [invoke,go_sem,eg]
 . refine (hseq (w.heap.size+1)
     (fun k W=>I k W/\W.heap[w.heap.size+1]? =some (.loop (rec .ready none))/\W.heap[w.heap.size]? =some (.deferred (some [])))
     (fun _ W=>∃c,Ix c W/\W.heap[w.heap.size+1]? =some (.loop (rec .done (some c)))/\W.heap[w.heap.size]? =some (.deferred (some [])))
     W1 hb1 ?_ ?_ ?_ ⟨hI1,hL1,hK1⟩).mono ?_
   . rintro k A C ⟨h1,h2,h3⟩ hb;exact ⟨hIS _ _ _ h1 hb,(hSk hb).same _ _ h2 (by rfl),(hSk hb).same _ _ h3 (by rfl)⟩
   . rintro k A C ⟨c,h1,h2,h3⟩ hb;exact ⟨c,abY _ _ _ h1 hb,(hSk hb).same _ _ h2 (by rfl),(hSk hb).same _ _ h3 (by rfl)⟩
   . -- one round
     rintro k W hkl ⟨hi,hl,hk⟩;have hlt:w.heap.size+1<W.heap.size:=(Array.getElem?_eq_some_iff.1 hl).1;have hsz:(xs.getD k #[]).size=ps.size:=by
      rw [List.getD_eq_getElem?_getD,List.getElem?_eq_getElem hkl];exact hps _ (List.getElem_mem _)
     have hy:=run_yield (P:=P) (args:=xs.getD k #[]) hl (by rw [hrec];exact hsz);rw [hrec] at hy;refine ⟨fn,_,assign,body,hy,roundIn_of_wpIn trivial (wpIn_mono (tZ _ k W xo hkl hi) ?_)⟩;intro e a1 Wa hq;cases e with
     | normal=>
      obtain ⟨hks,hkpa,hbody⟩:=hq;have hl0:=hl;have hlt0:=hlt;replace hl:Wa.heap[w.heap.size+1]? =some (.loop (rec .ready none)):=hks.same _ _ hl0 (by rfl);replace hk:Wa.heap[w.heap.size]? =some (.deferred (some [])):=hks.same _ _ hk (by rfl);replace hlt:w.heap.size+1<Wa.heap.size:=(Array.getElem?_eq_some_iff.1 hl).1;refine ⟨_,run_beginRound hl (by rw [hrec]),?_⟩;have hl2:(Wa.putObj (w.heap.size+1) (.loop {rec .ready none with state:= .busy})).heap[w.heap.size+1]? =some (.loop {rec .ready none with state:= .busy}):=World.putObj_heap_same hlt;have hk2:(Wa.putObj (w.heap.size+1) (.loop {rec .ready none with state:= .busy})).heap[w.heap.size]? =some (.deferred (some [])):=(World.putObj_heap_other xo).trans hk;have hw2:Kp Wa (Wa.putObj (w.heap.size+1) (.loop {rec .ready none with state:= .busy})):=hKb _ _ _ _ xo hl rfl;have hi2:Calm w.heap.size Wa (Wa.putObj (w.heap.size+1) (.loop {rec .ready none with state:= .busy})):=Calm.putObj _ xo hl rfl;refine wpIn_mono (hbody _ hi2) ?_;have fin:∀(jump:Option Code) (W3:World),KeepsOthers (Wa.putObj (w.heap.size+1) (.loop {rec .ready none with state:= .busy})) W3->
          (Instr.endRound (w.heap.size+1) jump).run P W3= .ok (.bool jump.isNone) (W3.putObj (w.heap.size+1) (.loop (rec (if jump.isNone then .ready else .done) jump)))/\
          W3.heap[w.heap.size+1]? =some (.loop {rec .ready none with state:= .busy})/\
          (W3.putObj (w.heap.size+1) (.loop (rec (if jump.isNone then .ready else .done) jump))).heap[w.heap.size+1]? =some (.loop (rec (if jump.isNone then .ready else .done) jump))/\
          (W3.putObj (w.heap.size+1) (.loop (rec (if jump.isNone then .ready else .done) jump))).heap[w.heap.size]? =some (.deferred (some [])):=fun jump W3 hk3=>by
       have hl3:=hk3.same _ _ hl2 rfl;have:=run_endRound (P:=P) jump hl3;rw [hrec] at this ⊢;exact ⟨this,by rw [hrec] at hl3;exact hl3,World.putObj_heap_same (Array.getElem?_eq_some_iff.1 hl3).1,(World.putObj_heap_other xo).trans (hk3.same _ _ hk2 rfl)⟩
      rintro e a3 W3 hp;cases e with
      | normal=>
       obtain ⟨hk3,hkp3,hi3⟩:=hp;obtain ⟨hr,hl3,hl4,hk4⟩:=fin none W3 hk3;exact ⟨_,_,hr,.inl ⟨rfl,⟨hI _ _ _ hi3 (Calm.putObj _ xo hl3 rfl),hl4,hk4⟩,hKt (hKt (hKt hkpa hw2) hkp3) (hKb _ _ _ _ xo hl3 rfl)⟩⟩
      | ret=>
       obtain ⟨hk3,hi3⟩:=hp;obtain ⟨hr,hl3,hl4,hk4⟩:=fin (some .ret) W3 hk3;exact ⟨_,_,hr,.inr ⟨rfl,.ret,hIx _ _ _ hi3 (Calm.putObj _ xo hl3 rfl),hl4,hk4⟩⟩
      | exit id=>
       obtain ⟨hk3,hi3⟩:=hp;obtain ⟨hr,hl3,hl4,hk4⟩:=fin (some (.exit id)) W3 hk3;exact ⟨_,_,hr,.inr ⟨rfl,.exit id,hIx _ _ _ hi3 (Calm.putObj _ xo hl3 rfl),hl4,hk4⟩⟩
      | goto t=>
       obtain ⟨hk3,hi3⟩:=hp;obtain ⟨hr,hl3,hl4,hk4⟩:=fin (some (.goto t)) W3 hk3;exact ⟨_,_,hr,.inr ⟨rfl,.goto t,hIx _ _ _ hi3 (Calm.putObj _ xo hl3 rfl),hl4,hk4⟩⟩
      | panic ch=>exact hp.elim
      | outgrown=>exact hp.elim
     | ret=>exact hq.elim
     | exit id=>exact hq.elim
     | goto t=>exact hq.elim
     | panic ch=>exact hq.elim
     | outgrown=>exact hq.elim
   . -- behind the iterator
     rintro e W2 ⟨⟨v,rfl⟩,(⟨hi,hl,hk⟩ | ⟨k,_,c,hi,hl,hk⟩)⟩
     . exact ⟨none,_,by have:=run_endLoop (P:=P) hl (by rw [hrec];simp);rw [hrec] at this;exact this,hdone _ _ (Nat.le_refl _) (hI _ _ _ hi (Calm.putObj _ xo hl rfl)) ((World.putObj_heap_other xo).trans hk)⟩
     . exact ⟨some c,_,by have:=run_endLoop (P:=P) hl (by rw [hrec];simp);rw [hrec] at this;exact this,wpIn_wide.2 (hstop _ c _ (Nat.le_refl _) (hIx _ _ _ hi (Calm.putObj _ xo hl rfl)) ((World.putObj_heap_other xo).trans hk))⟩
theorem L6 {P:Program} {g:Operand} {ps:Array Tmp} {assign body:Code} {Q:Exit->Act->World->Prop} {a:Act} {w:World}
    {gf:Nat} {lb:Array Value} (hg:a.eval g= .func (.func gf) #[] lb) (eg:∀args w,(callFunc gf args).run P w= .ok (.enter gf args) w)
    {xs:List (Array Value)} {Kp Sw:World->World->Prop} {w0:World} (hseq:Xw P gf lb xs Kp Sw w0) (hSk:∀ {A C:World},Sw A C->KeepsOthers A C) (hb0:Below w0.heap.size w0 w)
    (hKr:∀A:World,Kp A A) (hKt:∀ {A B C:World},Kp A B->Kp B C->Kp A C) (hKb:∀(W:World) (l:Nat) (o o':Obj),w.heap.size<=l->W.heap[l]? =some o->o.isCells=false->Kp W (W.putObj l o'))
    (hps:∀x ∈ xs,x.size=ps.size)
    (I:Nat->World->Prop) (Ix:Code->World->Prop) (hI:∀k W W',I k W->Calm w.heap.size W W'->I k W') (hIx:∀c W W',Ix c W->Calm w.heap.size W W'->Ix c W') (hIS:∀k W W',I k W->Sw W W'->I k W') (abY:∀c W W',Ix c W->Sw W W'->Ix c W') (h0:I 0 w)
    (tZ:∀(l k:Nat) (W:World),w.heap.size<=l->k<xs.length->I k W->
      assign.wpIn (NQ l) 0 P (Exit.then (XJ P l body Kp I Ix k W) (fun _ _ _=>False))
        {tmps:=(ps.zip (xs.getD k #[])).foldl (fun t (p,v)=>t.setIfInBounds p v) a.tmps,defers:=[]} W)
    (hdone:∀(D:Nat) (W:World),w.heap.size<=D->I xs.length W->W.heap[D]? =some (.deferred (some []))->Q .normal {a with defers:= {target:= .collected D,args:= #[]}::a.defers} W)
    (hstop:∀(D:Nat) (c:Code) (W:World),w.heap.size<=D->Ix c W->W.heap[D]? =some (.deferred (some []))->c.wp P Q {a with defers:= {target:= .collected D,args:= #[]}::a.defers} W):
    (Code.rangeFunc g ps assign body).wp P Q a w:=by
 refine IV hg eg hseq hSk hb0 hKt hKb hps I Ix hI hIx hIS abY h0 (fun l k W hl hk hi=> ?_) hdone hstop;refine wpIn_mono (tZ l k W hl hk hi) ?_;intro e a1 W1 h;cases e with
 | normal=>
  obtain ⟨rfl,hb⟩:=h;exact ⟨KeepsOthers.refl _,hKr _,fun W2 hc=>hb W2 (hI _ _ _ hi hc)⟩
 | ret=>exact h.elim
 | exit id=>exact h.elim
 | goto t=>exact h.elim
 | panic ch=>exact h.elim
 | outgrown=>exact h.elim
end
section
open Go.RowKit Go.Shelf
attribute [local go_sem] Oper.semAt_some
theorem ado (n:Int) (w:World):
    Calls Tryz.prog 225 #[.int .i64 n] w fun e w'=>e= .returned (.func (.func 230) #[] #[.pointer (some ⟨w.heap.size,0,none⟩)])/\w.alloc (.cells #[.int .i64 n] 3)=w':=by
 go_enter Tryz.func225,Tryz.ntmps225
 go_wp2
 go_ret
 exact ⟨rfl,rfl⟩
def uy (n:Nat):List (Array Value):=List.map (fun x:Nat=> #[.int .i64 x]) (ups n)
theorem lu (n:Nat):(uy n).length=n.log2+1:=by simp [uy,BL]
theorem BM {n k:Nat} (h1:1<=n) (h:k<=n.log2):(uy n).getD k #[]= #[.int .i64 ((n/2^k:Nat):Int)]:=by
 have hk:k<(ups n).length:=by rw [BL];omega
 have h2:=XZ h1 h;rw [List.getD_eq_getElem?_getD,List.getElem?_eq_getElem hk] at h2;rw [uy,List.getD_eq_getElem?_getD,List.getElem?_map,List.getElem?_eq_getElem hk];simp only [Option.map_some,Option.getD_some] at h2 ⊢;rw [h2]
def Xm (b:Nat) (W W':World):Prop:=∃v:Int,W'=W.setCell ⟨b,0,none⟩ (.int .i64 v)
theorem Xm.keeps {b:Nat} {A C:World} (h:Xm b A C):KeepsOthers A C:=by
 obtain ⟨v,rfl⟩:=h;exact KeepsOthers.setCell _ _ _
theorem Uz (n:Nat) (h1:1<=n) (h2:n<16384) (b:Nat) (w:World) (hb:w.cell? ⟨b,0,none⟩=some (.int .i64 n)) (hf:w.frozen? ⟨b,0,none⟩=false):
    Xw Tryz.prog 230 #[.pointer (some ⟨b,0,none⟩)] (uy n) (fun W W'=>W'.heap[b]? =W.heap[b]?) (Xm b) w:=by
 intro l J Jx W hW hJ hJx hY h0;have hbl:b<w.heap.size:=World.block_lt_of_cell? w _ hb;have hcW:W.cell? ⟨b,0,none⟩=some (.int .i64 n):=(hW.cell (p:=⟨b,0,none⟩) hbl).trans hb;have hfW:W.frozen? ⟨b,0,none⟩=false:=(hW.frozen (p:=⟨b,0,none⟩) hbl).trans hf;have HY:=hid hY;have HJ:=hid hJ;clear hY hJ hJx hb hf;refine callsIn_of_wp Tryz.func230 rfl trivial ?_ rfl;simp only [Tryz.ntmps230,List.size_toArray,List.length_cons,List.length_nil,Nat.reduceAdd,Nat.reduceSub,Array.replicate_succ,Array.replicate_zero,List.push_toArray,List.append_toArray,List.nil_append,List.cons_append];gi_wp2
 gi_loopg [] (n.log2+1) (fun g wr=>∃k:Nat,k+g=n.log2+1/\J k wr/\wr.cell? ⟨b,0,none⟩=some (.int .i64 ((n/2^k:Nat):Int))/\wr.frozen? ⟨b,0,none⟩=false)
 case atStart=>exact ⟨0,by omega,h0,by simpa using hcW,hfW⟩
 case round=>
  obtain ⟨k,hk,Y9,hc,hfz⟩:=hrel;obtain ⟨x,hx⟩:∃x,n/2^k=x:=⟨_,rfl⟩
  have hxn:x<=n:=by rw [<-hx];exact Nat.div_le_self _ _
  have Wh:n/2^(k+1)=x/2:=by rw [<-Wp,hx]
  by_cases hlt:k<=n.log2
  . have hpos:1<=x:=by rw [<-hx];exact (JV h1).1 hlt
    obtain ⟨fn,tmps,assign,body,hy,hR⟩:=HY.out k wr (by rw [lu];omega) Y9;rw [BM h1 hlt] at hy;rw [hx] at hc hy;have HH:=hid Wh;have HK:=hid hk;clear hx Wh Y9 hcW hfW h0 hk;gi_wp2
    refine ⟨rfl,hR.mono ?_⟩;rintro e W3 (⟨rfl,hJ3,hk3⟩ | ⟨rfl,hJx3⟩)
    . have hc3:W3.cell? ⟨b,0,none⟩=some (.int .i64 x):=by rw [World.cell?_of_block (w:=wr) hk3];exact hc
      have hf3:W3.frozen? ⟨b,0,none⟩=false:=by rw [World.frozen?_of_block (w:=wr) hk3];exact hfz
      have AY:=hid hJ3;clear hk3 hc hfz hJ3;gi_wp2
      gi_roundg (gk-1)
      case measure=>have:=HK.out;omega
      case rel=>
       refine ⟨k+1,by have:=HK.out;omega,HJ.out _ _ _ AY.out ⟨_,rfl⟩,?_,by rw [World.frozen?_setCell];exact hf3⟩;rw [World.cell?_setCell_same _ _ _ hc3,HH.out];rfl
    . gi_wp2
      refine bodyPost_end (results_none rfl _ _ _) rfl ⟨⟨_,rfl⟩,.inr ⟨k+1,by rw [lu];omega,hJx3⟩⟩
  . have hz:x=0:=by
      have:=mt (JV (n:=n) (k:=k) h1).2 hlt;rw [hx] at this;omega
    have hc0:wr.cell? ⟨b,0,none⟩=some (.int .i64 0):=by rw [hx,hz] at hc;exact hc
    subst hz;clear hc;have hkk:k=n.log2+1:=xo;have HJ4:=hid Y9;clear hx Wh Y9 hcW hfW h0 hk;gi_wp2
    refine ⟨fun f h=>(by cases h),?_⟩;gi_wp2
    refine bodyPost_end (results_none rfl _ _ _) rfl ⟨⟨_,rfl⟩,.inl ?_⟩;rw [lu,<-hkk];exact HJ4.out
def Gives (w:World) (v:Value) (e:Ending) (w':World):Prop:=e= .returned v/\Below w.heap.size w w'
structure ag6 (n B:Nat) (w:World) (k:Nat) (W:World):Prop where
 box:W.cell? ⟨B,0,none⟩=some (.int .i64 ((k:Int)-1))
 fz:W.frozen? ⟨B,0,none⟩=false
 bel:Below B w W
theorem Ye {n:Nat}:∀y ∈ uy n,y.size=1:=by
 intro y hy;simp only [uy,List.mem_map] at hy;obtain ⟨k,_,rfl⟩:=hy;rfl
theorem F8 (l n:Int) (w:World):
    Calls Tryz.prog 216 #[.int .i64 l,.int .i64 n] w (Gives w (.tuple #[.int .i64 (Zx l n),.int .i64 (yE l n)])):=by
 by_cases h:yE l n=0
 . obtain ⟨h1,h2,h3,h4⟩:=JE h;obtain ⟨N,rfl⟩:=Int.eq_ofNat_of_zero_le (show 0<=n by omega);have hb:=(Ba l h2).2;have hr:Zx l N=(N.log2:Nat):=by rw [Zx,h];rfl
   have hw:=fun w=>JC l N w
   rw [h] at hw;rw [h,hr];have uo:N.log2<14:=xg xo xo;have HW:=hid hw;have hN:N<16384:=xo;have hN1:1<=N:=xo;clear hw h hr h4 hb h3 h1 h2;refine dM Tryz.func216 rfl ?_;simp only [Tryz.ntmps216,List.size_toArray,List.length_cons,List.length_nil,Nat.reduceAdd,Nat.reduceSub,Array.replicate_succ,Array.replicate_zero,List.push_toArray,List.append_toArray,List.nil_append,List.cons_append];go_wp2_with fail
   refine (HW.out _).mono ?_;rintro e w' ⟨rfl,rfl⟩;go_wp2_with fail
   refine (ado N _).mono ?_;rintro e w2 ⟨rfl,rfl⟩;go_wp2
   refine L6 (xs:=uy N) (Kp:=fun W W'=>W'.heap[w.heap.size+1]? =W.heap[w.heap.size+1]?) (Sw:=Xm (w.heap.size+1)) rfl (enters_of Tryz.func230 xk rfl)
     (Uz N hN1 hN (w.heap.size+1) _ ?cbox ?cfz) Xm.keeps br (fun _=>rfl) (fun h k=>k.trans h) ?kb Ye
     (ag6 N w.heap.size w) (fun _ _=>False) ?hI (fun _ _ _ h _=>h) ?hIS (fun _ _ _ h _=>h) ?h0 ?round ?done (fun _ _ _ _ h _=>h.elim)
   case cbox=>(exact iP)
   case cfz=>(exact iP)
   case kb=>
    intro W l o o' hl _ _;simp at hl;exact World.putObj_heap_other xo
   case hI=>
    intro k W W' hi hc;exact ⟨hc.cell hi.box,hc.frozen hi.box hi.fz,hc.below (by simp;omega) hi.bel⟩
   case hIS=>
    rintro k W W' hi ⟨v,rfl⟩;exact ⟨by rw [World.cell?_setCell_other _ _ _ _ (by intro e;simp at e)];exact hi.box,by rw [World.frozen?_setCell];exact hi.fz,hi.bel.setCell (by show w.heap.size<=w.heap.size+1;omega) _⟩
   case h0=>
    exact ⟨by (exact iP),by (exact iP),((Below.refl _ w).alloc (Nat.le_refl _) _).alloc ax _⟩
   case round=>
    intro l k W hl hk hi;rw [lu] at hk;rw [BM hN1 xo];gi_wp2
    refine ⟨rfl,?_⟩;intro W2 hi2;obtain ⟨hbox,hfz,hbel⟩:=hi2;have HB:=hid hbel;clear hbel hi;gi_wp2
    refine ⟨KeepsOthers.setCell _ _ _,Below.heap_setCell _ _ _ _ (by show w.heap.size+1≠w.heap.size;omega),⟨?_,by rw [World.frozen?_setCell];exact hfz,HB.out.setCell (Nat.le_refl _) _⟩⟩;rw [World.cell?_setCell_same _ _ _ hbox];congr 2
    omega
   case done=>
    intro D W hD hi hK;obtain ⟨hbox,hfz,hbel⟩:=hi;rw [lu] at hbox;simp at hD;have hcalm:=Calm.putObj (B:=w.heap.size) (.deferred none) xo hK rfl;go_wp2
    refine jo hK (results_tmp2 rfl _ _ _) ⟨?_,hcalm.below (Nat.le_refl _) hbel⟩;simp
 . have h2:=VG h;have hr:Zx l n=0:=by rw [Zx,h2];rfl
   rw [hr,h2];have hw:=fun w=>JC l n w
   rw [h2] at hw;have HW:=hid hw;clear h h2 hw hr;refine dM Tryz.func216 rfl ?_;simp only [Tryz.ntmps216,List.size_toArray,List.length_cons,List.length_nil,Nat.reduceAdd,Nat.reduceSub,Array.replicate_succ,Array.replicate_zero,List.push_toArray,List.append_toArray,List.nil_append,List.cons_append];go_wp2_with fail
   refine (HW.out _).mono ?_;rintro e w' ⟨rfl,rfl⟩;go_wp2
   exact qp (results_tmp2 rfl _ _ _) ⟨rfl,Below.refl _ _⟩
end
section
open Go.RowKit Go.Shelf
theorem wrap64_in {x:Int} (h0: -9223372036854775808<=x) (h1:x<9223372036854775808):wrap64 x=x:=by unfold wrap64;omega
theorem BF (n:Int) (h₀:0<=n) (h₁:n<2^63):IntKind.i64.wrap n=n:=by rw [IntKind.wrap_i64];omega
theorem VN {u f i:Nat} (hu:u<=13) (hf:f<=13) (huf:u+f<=13) (hi:i<2^(u+f)):
    bits BinOp.or IntKind.i64 (wrap64 (2^f)) (bits BinOp.and IntKind.i64 (2^(u+f)+(i:Int)) (wrap64 (wrap64 (2^f)-1)))=((2^f+i%2^f:Nat):Int):=by
 obtain ⟨a1,a2⟩:=wZ f xo;obtain ⟨b1,b2⟩:=wZ (u+f) xo;have hc:((2^(u+f):Nat):Int)=2^(u+f):=by push_cast;rfl
 have hc2:((2^f:Nat):Int)=2^f:=by push_cast;rfl
 rw [wrap64_in (x:=2^f) xo xo,wrap64_in (x:=2^f-1) xo xo];have hiI:(i:Int)<2^(u+f):=by rw [<-hc];exact_mod_cast hi
 have h63:(2:Int)^63=9223372036854775808:=by decide
 rw [bits_mask .i64 63 au BF f xo _ xo (by rw [h63];omega)];have e:(2^(u+f)+(i:Int))%2^f=((i%2^f:Nat):Int):=by
  rw [<-hc,<-hc2,<-Int.natCast_add,<-Int.natCast_emod,Nat.pow_add,Nat.mul_add_mod_self_right]
 have hr:i%2^f<2^f:=Nat.mod_lt _ (Nat.two_pow_pos f);rw [e,bits_join .i64 63 au BF f _ _ xo ax xo xo (by rw [<-hc2];omega) xo];rw [Int.natCast_add,hc2]
theorem YJ (a X q Y Z:Nat) (hX:1<=X) (hX2:X<=16384) (hY:1<=Y) (hY2:Y<=16384) (hq:q<=16384) (hZ:q*(Y-1)=Z) (hV:a+(X-1+Z)<=16384):
    wrap64 ((a:Int)+wrap64 (wrap64 (wrap64 (X:Int)-1)+wrap64 (wrap64 (((X+q:Nat):Int)-wrap64 (X:Int))*wrap64 (wrap64 (Y:Int)-1))))=((a+(X-1+Z):Nat):Int):=by
 have h1:(q:Int)*((Y:Int)-1)=(Z:Int):=by rw [<-hZ,Int.natCast_mul,Int.natCast_sub hY];rfl
 rw [wrap64_in (x:=(X:Int)) xo xo,wrap64_in (x:=(Y:Int)) xo xo,wrap64_in (x:=(X:Int)-1) xo xo,wrap64_in (x:=(Y:Int)-1) xo xo];rw [show ((X+q:Nat):Int)-(X:Int)=(q:Int) by omega,wrap64_in (x:=(q:Int)) xo xo,h1,wrap64_in (x:=(Z:Int)) xo xo];rw [wrap64_in (x:=(X:Int)-1+(Z:Int)) xo xo,wrap64_in xo xo];omega
theorem abv {a u f i v:Nat} (hu:u<=13) (hf:f<=13) (huf:u+f<=13) (hv:v<=13) (hi:i<2^(u+f)) (hV:a+(2^u-1+i/2^f*(2^v-1))<=16384):
    wrap64 ((a:Int)+wrap64 (wrap64 (wrap64 (2^u)-1)+wrap64 (wrap64 ((2^(u+f)+(i:Int))/2^f-wrap64 (2^u))*wrap64 (wrap64 (2^v)-1))))=((a+(2^u-1+i/2^f*(2^v-1)):Nat):Int):=by
 have hcu:((2^u:Nat):Int)=2^u:=by push_cast;rfl
 have hcv:((2^v:Nat):Int)=2^v:=by push_cast;rfl
 have hcf:((2^f:Nat):Int)=2^f:=by push_cast;rfl
 have hcs:((2^(u+f):Nat):Int)=2^(u+f):=by push_cast;rfl
 have e:(2^(u+f)+(i:Int))/2^f=((2^u+i/2^f:Nat):Int):=by
  rw [<-hcs,<-hcf,<-Int.natCast_add,<-Int.natCast_ediv,Nat.pow_add,Nat.add_comm,Nat.add_mul_div_right _ _ (Nat.two_pow_pos f),Nat.add_comm]
 have hq:i/2^f<=16384:=Nat.le_trans (Nat.div_le_self _ _) (Nat.le_trans (Nat.le_of_lt hi) (Nat.pow_le_pow_right xo (by omega:u+f<=14)));rw [e,<-hcu,<-hcv];exact YJ a (2^u) (i/2^f) (2^v) _ (Nat.two_pow_pos u) (Nat.pow_le_pow_right xo (by omega:u<=14)) (Nat.two_pow_pos v) (Nat.pow_le_pow_right xo (by omega:v<=14)) hq rfl hV
def QR (l n:Int):Int:=if yE l n=0 then (oJ l.toNat n.toNat:Nat) else 0
theorem qf (l n:Int) (w:World):
    Calls Tryz.prog 180 #[.int .i64 l,.int .i64 n] w (Gives w (.tuple #[.int .i64 (QR l n),.int .i64 (yE l n)])):=by
 by_cases h:yE l n=0
 . obtain ⟨h1,h2,h3,h4⟩:=JE h;have hp:=(Ba l h2).2;obtain ⟨N,rfl⟩:=Int.eq_ofNat_of_zero_le (show 0<=n by omega);obtain ⟨L,rfl⟩:=Int.eq_ofNat_of_zero_le (show 0<=l by omega);have hN:N<2^L:=by
    have e:((2^L:Nat):Int)=2^L:=by push_cast;rfl
    simp only [Int.toNat_natCast] at h4;omega
   have hr:QR L N=(oJ L N:Nat):=by rw [QR,h];rfl
   have hd:Zx L N=(N.log2:Nat):=by rw [Zx,h];rfl
   have hD:=fun w=>F8 L N w
   rw [hd,h] at hD;rw [hr,h];obtain ⟨hv,-⟩:=kK (L:=L) (n:=N) xo xo hN;have hv2:oJ L N<=16384:=by
    have:2^L<=2^14:=Nat.pow_le_pow_right xo xo;omega
   have hdL:N.log2<L:=xg xo hN;obtain ⟨k1,k2⟩:=GR (n:=N) xo;have hvp:pos L N.log2 (N-2^N.log2)=oJ L N:=rfl;have hNN:N=2^N.log2+(N-2^N.log2):=xo;generalize oJ L N=V at *;generalize N-2^N.log2=J at *;generalize hdd:N.log2=d at *;have HD:=hid hD;have HV:=hid hvp;have HN:=hid hNN;have HJ:=hid k2;clear hD h hp h4 hr hd hv hN hvp hNN hdd k1 k2;go_enter Tryz.func180,Tryz.ntmps180
   go_wp2
   go_step3
   go_wp2_with fail
   refine (HD.out _).mono ?_;rintro e w1 ⟨rfl,hb1⟩;have HB:=hid hb1;clear hb1;go_wp2
   go_step3
   go_wp2
   go_loopg [0,1,4,6] L (fun g x y z t wr=>∃(M e i a:Nat),M=g/\1<=M/\M<=14/\e<M/\Hid (i<2^e)/\x= .int .i64 M/\y= .int .i64 ((2^e+i:Nat):Int)/\t= .int .i64 e/\z= .int .i64 a/\Hid (a+pos M e i=V)/\Hid (Below w.heap.size w wr))
   case atStart=>exact ⟨L,d,J,0,rfl,by omega,by omega,hdL,HJ,rfl,by rw [<-HN.out],rfl,rfl,hid (by rw [HV.out];omega),HB⟩
   case round=>
    obtain ⟨M,e,i,a,rfl,m1,m2,m3,HI,rfl,rfl,rfl,rfl,HP,HB⟩:=hrel;by_cases hM:M=1
    . subst hM;have hpv:=HP.out;rw [Gz] at hpv;obtain rfl:a=V:=xo;go_wp2
      try rw [Exit.noGoto_ret]
      go_ret2
      exact ⟨rfl,HB.out⟩
    . have hM2:2<=M:=xo;obtain ⟨u,hu⟩:∃u:Nat,(M:Int)/2=u:=⟨M/2,by omega⟩
      obtain ⟨v,hv⟩:∃v:Nat,((M:Int)+1)/2=v:=⟨(M+1)/2,by omega⟩
      have hS:=fun w=>Lp M xo xo w
      rw [hu,hv] at hS;have HS:=hid hS;have hu2:M/2=u:=xo;have hv2:M-M/2=v:=xo;have VV:1<=u/\u<=7:=xo;have hv7:1<=v/\v<=7:=xo;obtain ⟨u1,u7⟩:=VV;obtain ⟨v1,v7⟩:=hv7;have huv:u<M/\v<M:=xo;obtain ⟨huM,hvM⟩:=huv;clear hS hu hv;by_cases hlt:e<u
      . have hpu:=Gy i hM2 (by rw [hu2];exact hlt);rw [hu2] at hpu;have HP2:=hid (show a+pos u e i=V by rw [<-hpu];exact HP.out);clear hpu hu2 hv2 hM;go_wp2_with fail
        refine (HS.out _).mono ?_;rintro e' w' ⟨rfl,rfl⟩;go_wp2
        go_roundg u
        case measure=>omega
        case rel=>exact ⟨u,e,i,a,rfl,by omega,by omega,hlt,HI,rfl,rfl,rfl,rfl,HP2,HB⟩
      . obtain ⟨f,hf⟩:∃f,e=u+f:=⟨e-u,by omega⟩
        have hpl:=GG i hM2 (by rw [hu2];exact hlt);have hv3:M-u=v:=xo;have hef:e-u=f:=xo;rw [hu2,hv3,hef] at hpl;obtain ⟨q,hq⟩:∃q,i/2^f=q:=⟨_,rfl⟩
        obtain ⟨r,hr⟩:∃r,i%2^f=r:=⟨_,rfl⟩
        rw [hq,hr] at hpl;go_wp2_with fail
        refine (HS.out _).mono ?_;rintro e' w' ⟨rfl,rfl⟩;go_wp2
        go_quiet (fail)
        go_wp2
        go_quiet (fail)
        go_wp2
        go_roundg v
        case measure=>omega
        case rel=>
         have hi:=HI.out;rw [hf] at hi;have hpv:=HP.out;rw [hpl] at hpv;refine ⟨v,f,r,a+(2^u-1+q*(2^v-1)),rfl,by omega,by omega,by omega,hid (by rw [<-hr];exact Nat.mod_lt _ (Nat.two_pow_pos f)),rfl,?_,?_,?_,hid (by rw [<-hpv];omega),hid (below_drewN (below_drewN HB.out _) _)⟩
         . rw [<-hr,<-VN xo xo xo hi]
         . congr 1;omega
         . rw [<-hq,<-abv xo xo xo xo hi (by rw [hq];omega)]
 . have h2:=VG h;have hr:QR l n=0:=by rw [QR,h2];rfl
   have hd:Zx l n=0:=by rw [Zx,h2];rfl
   have hD:=fun w=>F8 l n w
   rw [hd,h2] at hD;rw [hr,h2];have HD:=hid hD;clear hD h h2 hr hd;go_enter Tryz.func180,Tryz.ntmps180
   go_wp2
   go_step3
   go_wp2_with fail
   refine (HD.out _).mono ?_;rintro e w1 ⟨rfl,hb1⟩;go_wp2
   try rw [Exit.noGoto_ret]
   go_ret2
   exact ⟨rfl,hb1⟩
end
section
open Go.RowKit
section
variable {P:Program} {ops:Array Oper} {Q:Exit->Act->World->Prop}
def aaN (P:Program) (ops:Array Oper) (Q:Exit->Act->World->Prop) (D:List Nat) (t0:Array Value) (n:Nat) (ds:List Deferred) (J:World->Prop) (Ext:World->World->Prop) (G:Nat->Value->World->Prop) (R:Nat->Nat->Value->Value->Prop) (k:Nat) (o:Oper):Prop:=
  ∀ (u:Nat->Value) (a:Act) (w:World),(∀t,t<n->a.tmps.getD t undef=wO D u t0 t)->J w->
    (∀(j:Nat) (p:Oper),(o.after.any fun e=>Region.binds .any e&&e.on==j)=true->ops[j]? =some p->G j (valOf u p) w)->
    ∀Dn:Nat->Prop,(∀(j:Nat) (p:Oper),Dn j->ops[j]? =some p->G j (valOf u p) w)->
    ∀K:Act->World->Prop,(∀v w',(o.dst=none->v=undef)->J w'->G k v w'->(∀(j:Nat) (p:Oper),Dn j->ops[j]? =some p->R j k (valOf u p) v/\R k j v (valOf u p))->Ext w w'->K (a.put o.dst v) w')->Oper.wp P o a w K Q
def Iq (P:Program) (ops:Array Oper) (Q:Exit->Act->World->Prop) (D:List Nat) (t0:Array Value) (n:Nat) (ds:List Deferred) (J:World->Prop) (Ext:World->World->Prop) (G:Nat->Value->World->Prop) (R:Nat->Nat->Value->Value->Prop):Nat->List Oper->Prop
  | _,[]=>True
  | k,o::rest=>aaN P ops Q D t0 n ds J Ext G R k o/\Iq P ops Q D t0 n ds J Ext G R (k+1) rest
theorem Iq.at {D:List Nat} {t0:Array Value} {n:Nat} {ds:List Deferred} {J:World->Prop} {Ext:World->World->Prop} {G:Nat->Value->World->Prop} {R:Nat->Nat->Value->Value->Prop}:∀ {l:List Oper} {k:Nat},Iq P ops Q D t0 n ds J Ext G R k l->∀ {i:Nat} {o:Oper},l[i]? =some o->aaN P ops Q D t0 n ds J Ext G R (k+i) o
  | [],_,_,i,o,ho=>by simp at ho
  | x::rest,k,h,0,o,ho=>by simp at ho;subst ho;exact h.1
  | x::rest,k,h,i+1,o,ho=>by
   have:=Iq.at h.2 (i:=i) (o:=o) (by simpa using ho);rwa [Nat.add_assoc,Nat.add_comm 1 i] at this
end
def Ir (x y:Value):Prop:=∀l a b l' a' b',x= .agg #[l,a,b]->y= .agg #[l',a',b']->(∀p q,a.ownBlock=some p->a'.ownBlock=some q->p≠q)/\(∀p q,b.ownBlock=some p->b'.ownBlock=some q->p≠q)
theorem Ir.symm {x y:Value} (h:Ir x y):Ir y x:=fun l a b l' a' b' h1 h2=>by
 obtain ⟨k1,k2⟩:=h _ _ _ _ _ _ h2 h1;exact ⟨fun p q hp hq e=>k1 q p hq hp e.symm,fun p q hp hq e=>k2 q p hq hp e.symm⟩
end
section
open Go.RowKit Go.Shelf
attribute [local go_sem] Oper.semAt_some
theorem DY (l k:Int) (w:World):
    Calls Tryz.prog 179 #[.int .i64 l,.int .i64 k] w fun e w'=>e= .returned (.tuple #[.int .i64 (R_ l k),.int .i64 (Si l k)])/\w=w':=by
 by_cases hl:1<=l/\l<=14
 . obtain ⟨h1,h2⟩:=hl;obtain ⟨hp1,hp2⟩:=wZ (l.toNat-1) xo;by_cases hc:0<=k/\k<2^(l.toNat-1)
   . obtain ⟨hk,hm⟩:=hc;have hv:Si l k=0:=by simp only [Si,h1,h2,hk,hm,and_self,if_true]
     have hr:R_ l k=2^(l.toNat-1)+k:=by rw [R_,hv];rfl
     rw [hv,hr];clear hv hr;go_enter Tryz.func179,Tryz.ntmps179
     go_wp2_with (go_at_call 208;refine (tu _ h1 h2 _).mono ?_;rintro e w' ⟨rfl,rfl⟩)
     go_ret2
     exact ⟨rfl,rfl⟩
   . have hv:Si l k=2:=by simp only [Si,hc,and_false,if_false]
     have hr:R_ l k=0:=by rw [R_,hv];rfl
     rw [hv,hr];clear hv hr;have hsp:k<0\/(0<=k/\2^(l.toNat-1)<=k):=xo;clear hc;rcases hsp with hk | ⟨hk,hm⟩
     all_goals
       go_enter Tryz.func179,Tryz.ntmps179
       go_wp2_with (go_at_call 208;refine (tu _ h1 h2 _).mono ?_;rintro e w' ⟨rfl,rfl⟩)
       go_ret2
       exact ⟨rfl,rfl⟩
 . have hv:Si l k=2:=by simp only [Si,hl,false_and,if_false]
   have hr:R_ l k=0:=by rw [R_,hv];rfl
   rw [hv,hr];clear hv hr;go_enter Tryz.func179,Tryz.ntmps179
   go_wp2_with (go_at_call 208;refine (BU _ xo _).mono ?_;rintro e w' ⟨rfl,rfl⟩)
   go_ret2
   exact ⟨rfl,rfl⟩
end
end Go.Proofs.YtbedhbpgnfffmaaGreatDoor

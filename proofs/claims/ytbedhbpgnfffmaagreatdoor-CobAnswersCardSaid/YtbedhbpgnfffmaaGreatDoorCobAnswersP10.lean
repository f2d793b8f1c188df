/- Merged: GPut, SlLayW, SlClr, GPutOk, Narrow, GTake, SlAt, GTakeOk, GapNm, GapRes, PmGtPl, PmNums, PmHp, PmWkPl. -/
import Derived.Test.YtbedhbpgnfffmaaGreatDoorCobAnswersP9
import Derived.Test.YtbedhbpgnfffmaaGreatDoorCobAnswersP8
import Derived.Test.YtbedhbpgnfffmaaGreatDoorCobAnswersP6
import Derived.Test.YtbedhbpgnfffmaaGreatDoorCobAnswersP7
import Derived.Test.YtbedhbpgnfffmaaGreatDoorCobAnswersP3
namespace Go.Proofs.YtbedhbpgnfffmaaGreatDoor
set_option maxRecDepth 100000
set_option maxHeartbeats 40000000
set_option linter.unusedVariables false
set_option linter.unusedSimpArgs false
section
open Go.RowKit Go.Shelf Go.Sort
attribute [local go_sem] Oper.semAt_some
def XO (base a at_ H:Nat) (t:Int):dN RB:=⟨fun v w=>∃y,v= .tuple #[.int .i64 t,y]/\w.ownsRow base 157 2 y (H+1) ((lC (mP a at_ (H+1))).map (Value.int .i64)),fun _ _ _ h ⟨y,e,h1⟩=>⟨y,e,ay h1 h⟩⟩
def paR (base a at_ H:Nat):dN RB:=⟨fun v w=>w.ownsRow base 157 2 v (H+1) ((lC (mP a at_ (H+1))).map (Value.int .i64)),fun _ _ _ h h1=>ay h1 h⟩
def abb (base:Nat) (c:aW) (x:Value):dN RB:=⟨fun v w=>∃y,v= .tuple #[y,x]/\(dN.sl base c).holds y w,fun _ _ _ h ⟨y,e,h1⟩=>⟨y,e,(dN.sl base c).stays _ _ _ h h1⟩⟩
theorem Wv (c:bY) (ai:Int) (wa ka va ca:Option Addr) (wc kc vc cc lw n lv lc:Nat) (laid:Int) (k x y e:Int) (he:e≠0) (w:World) (CK:Hid (∀W,Below w.heap.size w W->Calls Tryz.prog 50 #[.agg #[.int .u8 c.tag,.int .i64 c.most,.int .i64 c.ai,.int .i64 c.least,.int .i64 c.den,.int .i64 c.ll,.int .i64 c.rl,.int .i64 c.rh,.int .i64 c.lh],.agg #[.int .i64 ai,.slice wa lw wc,.slice ka n kc,.slice va lv vc,.slice ca lc cc,.int .u64 laid]] W (aC W (.int .i64 e)))):
    Calls Tryz.prog 65 #[.agg #[.int .u8 c.tag,.int .i64 c.most,.int .i64 c.ai,.int .i64 c.least,.int .i64 c.den,.int .i64 c.ll,.int .i64 c.rl,.int .i64 c.rh,.int .i64 c.lh],.agg #[.int .i64 ai,.slice wa lw wc,.slice ka n kc,.slice va lv vc,.slice ca lc cc,.int .u64 laid],.int .i64 k,.agg #[.int .i64 x,.int .i64 y]] w (dm w ⟨0,[],[],[],[],0⟩ (.int .i64 e)):=by
 have ge:(e != 0)=true:=by simpa using he
 clear he;go_enter Tryz.func65,Tryz.ntmps65
 go_wp2
 refine iQ 0 rfl ?_;go_wp2_with fail
 refine (CK.out _ aH).mono ?_;rintro e w1 ⟨rfl,hb1⟩;have aA:=hb1.size;try simp only [World.size_alloc,World.size_setCell] at aA
 have hh:=zu hb1 (uj (uj (uj (zC (b:=w.heap.size) ax))));obtain ⟨lN,lM,lL,lK,lJ,lI,lH,lG,lF⟩:=hh;have lQ:=aP hb1 (dB (dB (dB (bV (b:=w.heap.size) ax))));have hh:=jl hb1 (jI (jI (jA (b:=w.heap.size+1) ax)));obtain ⟨aO,aN,aK,aU,aT,aV⟩:=hh;have bF:=aP hb1 (dB (dB (bV (b:=w.heap.size+1) ax)));have hh:=bc2 hb1 (OB (TF (b:=w.heap.size+1+1) ax));obtain ⟨kH,kG⟩:=hh;have nR:=aP hb1 (dB (bV (b:=w.heap.size+1+1) ax));have hh:=jl hb1 (jA (b:=w.heap.size+1+1+1) ax);obtain ⟨a_,aZ,bf,dh,df,cZ⟩:=hh;have hh:=Qs hb1 (bV (b:=w.heap.size+1+1+1) ax) (zB (b:=w.heap.size+1+1+1) ax);obtain ⟨bQ,bP,bT,dQ,dP,dO⟩:=hh;have bW:=aP hb1 (bV (b:=w.heap.size+1+1+1) ax);have hB1:Below w.heap.size w w1:=aH;have HB1:=hid hB1;have hz1:w.heap.size+1+1+1<w1.heap.size:=bW;clear hb1 hB1;go_wp2
 simp only [Exit.jump];have HC:=hid (mW ⟨a_,aZ,bf,dh,df,cZ⟩);exact jG (W:=w1) (b:=w.heap.size+1+1+1) [.int .i64 0,.slice none 0 0,.slice none 0 0,.slice none 0 0,.slice none 0 0,.int .u64 0] HC rfl rfl (fun _ h=>aF rfl rfl (ag _ Tryz.underlying29 rfl xk h)) fun _ s=>⟨_,_,_,_,rfl,World.ownsRow_nil _ _ _ _,World.ownsRow_nil _ _ _ _,World.ownsRow_nil _ _ _ _,World.ownsRow_nil _ _ _ _,s.be HB1.out⟩
theorem Wu (c:bY) (ai:Int) (wa ka va ca:Option Addr) (wc kc vc cc lw n lv lc:Nat) (laid:Int) (k x y many:Int) (hk:k<0) (w:World) (CK:Hid (∀W,Below w.heap.size w W->Calls Tryz.prog 50 #[.agg #[.int .u8 c.tag,.int .i64 c.most,.int .i64 c.ai,.int .i64 c.least,.int .i64 c.den,.int .i64 c.ll,.int .i64 c.rl,.int .i64 c.rh,.int .i64 c.lh],.agg #[.int .i64 ai,.slice wa lw wc,.slice ka n kc,.slice va lv vc,.slice ca lc cc,.int .u64 laid]] W (aC W (.int .i64 0)))) (AM:Hid (∀W,Below w.heap.size w W->Calls Tryz.prog 96 #[.agg #[.int .i64 ai,.slice wa lw wc,.slice ka n kc,.slice va lv vc,.slice ca lc cc,.int .u64 laid],.int .i64 0,.int .i64 n] W (aC W (.int .i64 many)))):
    Calls Tryz.prog 65 #[.agg #[.int .u8 c.tag,.int .i64 c.most,.int .i64 c.ai,.int .i64 c.least,.int .i64 c.den,.int .i64 c.ll,.int .i64 c.rl,.int .i64 c.rh,.int .i64 c.lh],.agg #[.int .i64 ai,.slice wa lw wc,.slice ka n kc,.slice va lv vc,.slice ca lc cc,.int .u64 laid],.int .i64 k,.agg #[.int .i64 x,.int .i64 y]] w (dm w ⟨0,[],[],[],[],0⟩ (.int .i64 2)):=by
 have g1:decide (k<0)=true:=by simpa using hk
 go_enter Tryz.func65,Tryz.ntmps65
 go_wp2
 refine iQ 0 rfl ?_;go_wp2_with fail
 refine (CK.out _ aH).mono ?_;rintro e w1 ⟨rfl,hb1⟩;have aA:=hb1.size;try simp only [World.size_alloc,World.size_setCell] at aA
 have hh:=zu hb1 (uj (uj (uj (zC (b:=w.heap.size) ax))));obtain ⟨lN,lM,lL,lK,lJ,lI,lH,lG,lF⟩:=hh;have lQ:=aP hb1 (dB (dB (dB (bV (b:=w.heap.size) ax))));have hh:=jl hb1 (jI (jI (jA (b:=w.heap.size+1) ax)));obtain ⟨aO,aN,aK,aU,aT,aV⟩:=hh;have bF:=aP hb1 (dB (dB (bV (b:=w.heap.size+1) ax)));have hh:=bc2 hb1 (OB (TF (b:=w.heap.size+1+1) ax));obtain ⟨kH,kG⟩:=hh;have nR:=aP hb1 (dB (bV (b:=w.heap.size+1+1) ax));have hh:=jl hb1 (jA (b:=w.heap.size+1+1+1) ax);obtain ⟨a_,aZ,bf,dh,df,cZ⟩:=hh;have hh:=Qs hb1 (bV (b:=w.heap.size+1+1+1) ax) (zB (b:=w.heap.size+1+1+1) ax);obtain ⟨bQ,bP,bT,dQ,dP,dO⟩:=hh;have bW:=aP hb1 (bV (b:=w.heap.size+1+1+1) ax);have hB1:Below w.heap.size w w1:=aH;have HB1:=hid hB1;have hz1:w.heap.size+1+1+1<w1.heap.size:=bW;clear hb1 hB1;go_upto_region 5 with (fail)
 generalize hw2:w1.alloc _=w2;have hh:=WG hw2 (uj (⟨lN,lM,lL,lK,lJ,lI,lH,lG,lF⟩));clear lN lM lL lK lJ lI lH lG lF;obtain ⟨lN,lM,lL,lK,lJ,lI,lH,lG,lF⟩:=hh;replace lQ:=kT hw2 (dB (lQ));have hh:=Dy hw2 (jI (⟨aO,aN,aK,aU,aT,aV⟩));clear aO aN aK aU aT aV;obtain ⟨aO,aN,aK,aU,aT,aV⟩:=hh;replace bF:=kT hw2 (dB (bF));have hh:=Zw hw2 (OB (⟨kH,kG⟩));clear kH kG;obtain ⟨kH,kG⟩:=hh;replace nR:=kT hw2 (dB (nR));have hh:=Dy hw2 (jI (⟨a_,aZ,bf,dh,df,cZ⟩));clear a_ aZ bf dh df cZ;obtain ⟨a_,aZ,bf,dh,df,cZ⟩:=hh;have hh:=ef6 hw2 (La bW ⟨bQ,bP,bT,dQ,dP,dO⟩);clear bQ bP bT dQ dP dO;obtain ⟨bQ,bP,bT,dQ,dP,dO⟩:=hh;replace bW:=kT hw2 (dB (bW));have zn:=ec1 hw2 (Xl (b:=w1.heap.size) ax);have Dx:=ef1 hw2 (Xk (b:=w1.heap.size) ax);have qg:=kT hw2 (bV (b:=w1.heap.size) ax);have hb2:Below w1.heap.size w1 w2:=by rw [<-hw2];exact br.alloc (Nat.le_refl _) _
 have HB2:=xv hb2 HB1;clear hw2 hb2;go_wp2_with fail
 refine (AM.out _ HB2.out).mono ?_;rintro e w3 ⟨rfl,hb3⟩;have kD:=hb3.size;simp (disch:=omega) only [jK hb3,rX hb3] at *;replace lQ:=aP hb3 lQ;replace bF:=aP hb3 bF;replace nR:=aP hb3 nR;replace bW:=aP hb3 bW;replace qg:=aP hb3 qg;have HB3:=xv hb3 HB2;have YT:w.heap.size+1+1+1<w3.heap.size:=bW;have YS:w1.heap.size<w3.heap.size:=qg;clear hb3;go_wp2
 simp only [Exit.jump];have HC:=hid (mW ⟨a_,aZ,bf,dh,df,cZ⟩);exact jG (W:=w3) (b:=w.heap.size+1+1+1) [.int .i64 0,.slice none 0 0,.slice none 0 0,.slice none 0 0,.slice none 0 0,.int .u64 0] HC rfl rfl (fun _ h=>aF rfl rfl (ag _ Tryz.underlying29 rfl xk h)) fun _ s=>⟨_,_,_,_,rfl,World.ownsRow_nil _ _ _ _,World.ownsRow_nil _ _ _ _,World.ownsRow_nil _ _ _ _,World.ownsRow_nil _ _ _ _,s.be HB3.out⟩
theorem Wx (c:bY) (ai:Int) (wa ka va ca:Option Addr) (wc kc vc cc lw n lv lc:Nat) (laid:Int) (k x y many:Int) (hk:¬k<0) (hm:many<k) (w:World) (CK:Hid (∀W,Below w.heap.size w W->Calls Tryz.prog 50 #[.agg #[.int .u8 c.tag,.int .i64 c.most,.int .i64 c.ai,.int .i64 c.least,.int .i64 c.den,.int .i64 c.ll,.int .i64 c.rl,.int .i64 c.rh,.int .i64 c.lh],.agg #[.int .i64 ai,.slice wa lw wc,.slice ka n kc,.slice va lv vc,.slice ca lc cc,.int .u64 laid]] W (aC W (.int .i64 0)))) (AM:Hid (∀W,Below w.heap.size w W->Calls Tryz.prog 96 #[.agg #[.int .i64 ai,.slice wa lw wc,.slice ka n kc,.slice va lv vc,.slice ca lc cc,.int .u64 laid],.int .i64 0,.int .i64 n] W (aC W (.int .i64 many)))):
    Calls Tryz.prog 65 #[.agg #[.int .u8 c.tag,.int .i64 c.most,.int .i64 c.ai,.int .i64 c.least,.int .i64 c.den,.int .i64 c.ll,.int .i64 c.rl,.int .i64 c.rh,.int .i64 c.lh],.agg #[.int .i64 ai,.slice wa lw wc,.slice ka n kc,.slice va lv vc,.slice ca lc cc,.int .u64 laid],.int .i64 k,.agg #[.int .i64 x,.int .i64 y]] w (dm w ⟨0,[],[],[],[],0⟩ (.int .i64 2)):=by
 have g1:decide (k<0)=false:=by simpa using hk
 have g2:decide (many<k)=true:=by simpa using hm
 go_enter Tryz.func65,Tryz.ntmps65
 go_wp2
 refine iQ 0 rfl ?_;go_wp2_with fail
 refine (CK.out _ aH).mono ?_;rintro e w1 ⟨rfl,hb1⟩;have aA:=hb1.size;try simp only [World.size_alloc,World.size_setCell] at aA
 have hh:=zu hb1 (uj (uj (uj (zC (b:=w.heap.size) ax))));obtain ⟨lN,lM,lL,lK,lJ,lI,lH,lG,lF⟩:=hh;have lQ:=aP hb1 (dB (dB (dB (bV (b:=w.heap.size) ax))));have hh:=jl hb1 (jI (jI (jA (b:=w.heap.size+1) ax)));obtain ⟨aO,aN,aK,aU,aT,aV⟩:=hh;have bF:=aP hb1 (dB (dB (bV (b:=w.heap.size+1) ax)));have hh:=bc2 hb1 (OB (TF (b:=w.heap.size+1+1) ax));obtain ⟨kH,kG⟩:=hh;have nR:=aP hb1 (dB (bV (b:=w.heap.size+1+1) ax));have hh:=jl hb1 (jA (b:=w.heap.size+1+1+1) ax);obtain ⟨a_,aZ,bf,dh,df,cZ⟩:=hh;have hh:=Qs hb1 (bV (b:=w.heap.size+1+1+1) ax) (zB (b:=w.heap.size+1+1+1) ax);obtain ⟨bQ,bP,bT,dQ,dP,dO⟩:=hh;have bW:=aP hb1 (bV (b:=w.heap.size+1+1+1) ax);have hB1:Below w.heap.size w w1:=aH;have HB1:=hid hB1;have hz1:w.heap.size+1+1+1<w1.heap.size:=bW;clear hb1 hB1;go_upto_region 5 with (fail)
 generalize hw2:w1.alloc _=w2;have hh:=WG hw2 (uj (⟨lN,lM,lL,lK,lJ,lI,lH,lG,lF⟩));clear lN lM lL lK lJ lI lH lG lF;obtain ⟨lN,lM,lL,lK,lJ,lI,lH,lG,lF⟩:=hh;replace lQ:=kT hw2 (dB (lQ));have hh:=Dy hw2 (jI (⟨aO,aN,aK,aU,aT,aV⟩));clear aO aN aK aU aT aV;obtain ⟨aO,aN,aK,aU,aT,aV⟩:=hh;replace bF:=kT hw2 (dB (bF));have hh:=Zw hw2 (OB (⟨kH,kG⟩));clear kH kG;obtain ⟨kH,kG⟩:=hh;replace nR:=kT hw2 (dB (nR));have hh:=Dy hw2 (jI (⟨a_,aZ,bf,dh,df,cZ⟩));clear a_ aZ bf dh df cZ;obtain ⟨a_,aZ,bf,dh,df,cZ⟩:=hh;have hh:=ef6 hw2 (La bW ⟨bQ,bP,bT,dQ,dP,dO⟩);clear bQ bP bT dQ dP dO;obtain ⟨bQ,bP,bT,dQ,dP,dO⟩:=hh;replace bW:=kT hw2 (dB (bW));have zn:=ec1 hw2 (Xl (b:=w1.heap.size) ax);have Dx:=ef1 hw2 (Xk (b:=w1.heap.size) ax);have qg:=kT hw2 (bV (b:=w1.heap.size) ax);have hb2:Below w1.heap.size w1 w2:=by rw [<-hw2];exact br.alloc (Nat.le_refl _) _
 have HB2:=xv hb2 HB1;clear hw2 hb2;go_wp2_with fail
 refine (AM.out _ HB2.out).mono ?_;rintro e w3 ⟨rfl,hb3⟩;have kD:=hb3.size;simp (disch:=omega) only [jK hb3,rX hb3] at *;replace lQ:=aP hb3 lQ;replace bF:=aP hb3 bF;replace nR:=aP hb3 nR;replace bW:=aP hb3 bW;replace qg:=aP hb3 qg;have HB3:=xv hb3 HB2;have YT:w.heap.size+1+1+1<w3.heap.size:=bW;have YS:w1.heap.size<w3.heap.size:=qg;clear hb3;go_wp2
 simp only [Exit.jump];have HC:=hid (mW ⟨a_,aZ,bf,dh,df,cZ⟩);exact jG (W:=w3) (b:=w.heap.size+1+1+1) [.int .i64 0,.slice none 0 0,.slice none 0 0,.slice none 0 0,.slice none 0 0,.int .u64 0] HC rfl rfl (fun _ h=>aF rfl rfl (ag _ Tryz.underlying29 rfl xk h)) fun _ s=>⟨_,_,_,_,rfl,World.ownsRow_nil _ _ _ _,World.ownsRow_nil _ _ _ _,World.ownsRow_nil _ _ _ _,World.ownsRow_nil _ _ _ _,s.be HB3.out⟩
theorem SY (c:bY) (ai:Int) (wa ka va ca:Option Addr) (wc kc vc cc lw n lv lc:Nat) (laid:Int) (k x y many:Int) (hk:¬k<0) (hm:¬many<k) (hf:many=c.most) (w:World) (CK:Hid (∀W,Below w.heap.size w W->Calls Tryz.prog 50 #[.agg #[.int .u8 c.tag,.int .i64 c.most,.int .i64 c.ai,.int .i64 c.least,.int .i64 c.den,.int .i64 c.ll,.int .i64 c.rl,.int .i64 c.rh,.int .i64 c.lh],.agg #[.int .i64 ai,.slice wa lw wc,.slice ka n kc,.slice va lv vc,.slice ca lc cc,.int .u64 laid]] W (aC W (.int .i64 0)))) (AM:Hid (∀W,Below w.heap.size w W->Calls Tryz.prog 96 #[.agg #[.int .i64 ai,.slice wa lw wc,.slice ka n kc,.slice va lv vc,.slice ca lc cc,.int .u64 laid],.int .i64 0,.int .i64 n] W (aC W (.int .i64 many)))):
    Calls Tryz.prog 65 #[.agg #[.int .u8 c.tag,.int .i64 c.most,.int .i64 c.ai,.int .i64 c.least,.int .i64 c.den,.int .i64 c.ll,.int .i64 c.rl,.int .i64 c.rh,.int .i64 c.lh],.agg #[.int .i64 ai,.slice wa lw wc,.slice ka n kc,.slice va lv vc,.slice ca lc cc,.int .u64 laid],.int .i64 k,.agg #[.int .i64 x,.int .i64 y]] w (dm w ⟨0,[],[],[],[],0⟩ (.int .i64 9)):=by
 have g1:decide (k<0)=false:=by simpa using hk
 have g2:decide (many<k)=false:=by simpa using hm
 have g3:(many==c.most)=true:=by rw [beq_iff_eq];exact hf
 clear hf;go_enter Tryz.func65,Tryz.ntmps65
 go_wp2
 refine iQ 0 rfl ?_;go_wp2_with fail
 refine (CK.out _ aH).mono ?_;rintro e w1 ⟨rfl,hb1⟩;have aA:=hb1.size;try simp only [World.size_alloc,World.size_setCell] at aA
 have hh:=zu hb1 (uj (uj (uj (zC (b:=w.heap.size) ax))));obtain ⟨lN,lM,lL,lK,lJ,lI,lH,lG,lF⟩:=hh;have lQ:=aP hb1 (dB (dB (dB (bV (b:=w.heap.size) ax))));have hh:=jl hb1 (jI (jI (jA (b:=w.heap.size+1) ax)));obtain ⟨aO,aN,aK,aU,aT,aV⟩:=hh;have bF:=aP hb1 (dB (dB (bV (b:=w.heap.size+1) ax)));have hh:=bc2 hb1 (OB (TF (b:=w.heap.size+1+1) ax));obtain ⟨kH,kG⟩:=hh;have nR:=aP hb1 (dB (bV (b:=w.heap.size+1+1) ax));have hh:=jl hb1 (jA (b:=w.heap.size+1+1+1) ax);obtain ⟨a_,aZ,bf,dh,df,cZ⟩:=hh;have hh:=Qs hb1 (bV (b:=w.heap.size+1+1+1) ax) (zB (b:=w.heap.size+1+1+1) ax);obtain ⟨bQ,bP,bT,dQ,dP,dO⟩:=hh;have bW:=aP hb1 (bV (b:=w.heap.size+1+1+1) ax);have hB1:Below w.heap.size w w1:=aH;have HB1:=hid hB1;have hz1:w.heap.size+1+1+1<w1.heap.size:=bW;clear hb1 hB1;go_upto_region 5 with (fail)
 generalize hw2:w1.alloc _=w2;have hh:=WG hw2 (uj (⟨lN,lM,lL,lK,lJ,lI,lH,lG,lF⟩));clear lN lM lL lK lJ lI lH lG lF;obtain ⟨lN,lM,lL,lK,lJ,lI,lH,lG,lF⟩:=hh;replace lQ:=kT hw2 (dB (lQ));have hh:=Dy hw2 (jI (⟨aO,aN,aK,aU,aT,aV⟩));clear aO aN aK aU aT aV;obtain ⟨aO,aN,aK,aU,aT,aV⟩:=hh;replace bF:=kT hw2 (dB (bF));have hh:=Zw hw2 (OB (⟨kH,kG⟩));clear kH kG;obtain ⟨kH,kG⟩:=hh;replace nR:=kT hw2 (dB (nR));have hh:=Dy hw2 (jI (⟨a_,aZ,bf,dh,df,cZ⟩));clear a_ aZ bf dh df cZ;obtain ⟨a_,aZ,bf,dh,df,cZ⟩:=hh;have hh:=ef6 hw2 (La bW ⟨bQ,bP,bT,dQ,dP,dO⟩);clear bQ bP bT dQ dP dO;obtain ⟨bQ,bP,bT,dQ,dP,dO⟩:=hh;replace bW:=kT hw2 (dB (bW));have zn:=ec1 hw2 (Xl (b:=w1.heap.size) ax);have Dx:=ef1 hw2 (Xk (b:=w1.heap.size) ax);have qg:=kT hw2 (bV (b:=w1.heap.size) ax);have hb2:Below w1.heap.size w1 w2:=by rw [<-hw2];exact br.alloc (Nat.le_refl _) _
 have HB2:=xv hb2 HB1;clear hw2 hb2;go_wp2_with fail
 refine (AM.out _ HB2.out).mono ?_;rintro e w3 ⟨rfl,hb3⟩;have kD:=hb3.size;simp (disch:=omega) only [jK hb3,rX hb3] at *;replace lQ:=aP hb3 lQ;replace bF:=aP hb3 bF;replace nR:=aP hb3 nR;replace bW:=aP hb3 bW;replace qg:=aP hb3 qg;have HB3:=xv hb3 HB2;have YT:w.heap.size+1+1+1<w3.heap.size:=bW;have YS:w1.heap.size<w3.heap.size:=qg;clear hb3;go_wp2
 simp only [Exit.jump];have HC:=hid (mW ⟨a_,aZ,bf,dh,df,cZ⟩);exact jG (W:=w3) (b:=w.heap.size+1+1+1) [.int .i64 0,.slice none 0 0,.slice none 0 0,.slice none 0 0,.slice none 0 0,.int .u64 0] HC rfl rfl (fun _ h=>aF rfl rfl (ag _ Tryz.underlying29 rfl xk h)) fun _ s=>⟨_,_,_,_,rfl,World.ownsRow_nil _ _ _ _,World.ownsRow_nil _ _ _ _,World.ownsRow_nil _ _ _ _,World.ownsRow_nil _ _ _ _,s.be HB3.out⟩
theorem SS (c:bY) (ai:Int) (wa ka va ca:Option Addr) (wc kc vc cc lw n lv lc:Nat) (laid:Int) (a H h at_ k kk:Nat) (x y many t ah:Int) (d:aW) (hk2:¬many<(k:Int)) (hf:many≠c.most) (hh:h<=H) (hH:H<=14) (ht:t+1=(h:Nat)) (htH:t≠(H:Nat)) (hkk:(k:Int)-ah=(kk:Nat)) (hk6:kk<=65536) (w:World) (CK:Hid (∀W,Below w.heap.size w W->Calls Tryz.prog 50 #[.agg #[.int .u8 c.tag,.int .i64 c.most,.int .i64 c.ai,.int .i64 c.least,.int .i64 c.den,.int .i64 c.ll,.int .i64 c.rl,.int .i64 c.rh,.int .i64 c.lh],.agg #[.int .i64 ai,.slice wa lw wc,.slice ka n kc,.slice va lv vc,.slice ca lc cc,.int .u64 laid]] W (aC W (.int .i64 0)))) (AM:Hid (∀W,Below w.heap.size w W->Calls Tryz.prog 96 #[.agg #[.int .i64 ai,.slice wa lw wc,.slice ka n kc,.slice va lv vc,.slice ca lc cc,.int .u64 laid],.int .i64 0,.int .i64 n] W (aC W (.int .i64 many))))
    (HM:Hid (∀W,Below w.heap.size w W->Calls Tryz.prog 117 #[.agg #[.int .i64 ai,.slice wa lw wc,.slice ka n kc,.slice va lv vc,.slice ca lc cc,.int .u64 laid],.int .i64 k] W (aC W (.int .i64 at_))))
    (HI:Hid (∀W b2,Below w.heap.size w W->W.cell? ⟨w.heap.size,0,none⟩=some (.int .u8 c.tag)->W.cell? ⟨w.heap.size,1,none⟩=some (.int .i64 c.most)->W.cell? ⟨w.heap.size,2,none⟩=some (.int .i64 c.ai)->W.cell? ⟨w.heap.size,3,none⟩=some (.int .i64 c.least)->W.cell? ⟨w.heap.size,4,none⟩=some (.int .i64 c.den)->W.cell? ⟨w.heap.size,5,none⟩=some (.int .i64 c.ll)->W.cell? ⟨w.heap.size,6,none⟩=some (.int .i64 c.rl)->W.cell? ⟨w.heap.size,7,none⟩=some (.int .i64 c.rh)->W.cell? ⟨w.heap.size,8,none⟩=some (.int .i64 c.lh)->W.cell? ⟨b2,0,none⟩=some (.int .i64 n)->Calls Tryz.prog 116 #[.agg #[.int .i64 ai,.slice wa lw wc,.slice ka n kc,.slice va lv vc,.slice ca lc cc,.int .u64 laid],.int .i64 at_,.func (.func 115) #[] #[.pointer (some ⟨w.heap.size,0,none⟩),.pointer (some ⟨b2,0,none⟩)]] W (QD W a at_ H t)))
    (AH:Hid (∀W,Below w.heap.size w W->Calls Tryz.prog 96 #[.agg #[.int .i64 ai,.slice wa lw wc,.slice ka n kc,.slice va lv vc,.slice ca lc cc,.int .u64 laid],.int .i64 0,.int .i64 ((dJ a h at_*2^(a+h):Nat):Int)] W (aC W (.int .i64 ah))))
    (WI:Hid (∀W,Below w.heap.size w W->Calls Tryz.prog 118 #[.agg #[.int .i64 ai,.slice wa lw wc,.slice ka n kc,.slice va lv vc,.slice ca lc cc,.int .u64 laid],.int .i64 ((dJ a h at_*2^(a+h):Nat):Int),.int .i64 (((dJ a h at_*2^(a+h):Nat):Int)+((2^(a+h):Nat):Int)),.int .i64 kk,.agg #[.int .i64 x,.int .i64 y]] W (dm W d (.int .i64 0)))):
    Calls Tryz.prog 65 #[.agg #[.int .u8 c.tag,.int .i64 c.most,.int .i64 c.ai,.int .i64 c.least,.int .i64 c.den,.int .i64 c.ll,.int .i64 c.rl,.int .i64 c.rh,.int .i64 c.lh],.agg #[.int .i64 ai,.slice wa lw wc,.slice ka n kc,.slice va lv vc,.slice ca lc cc,.int .u64 laid],.int .i64 k,.agg #[.int .i64 x,.int .i64 y]] w (dm w d (.int .i64 0)):=by
 have g1:decide ((k:Int)<0)=false:=by simp
 have g2:decide (many<(k:Int))=false:=by simpa using hk2
 have g3:(many==c.most)=false:=by rw [beq_eq_false_iff_ne];exact hf
 have g4:(t==(H:Int))=false:=by rw [beq_eq_false_iff_ne];exact htH
 have hw1:IntKind.i64.wrap (((H+1:Nat):Int)-1)=(H:Int):=by rw [show ((H+1:Nat):Int)-1=(H:Int) by omega];exact IntWalk.i64_in _ xo
 have afG:IntKind.i64.wrap (H:Int)=(H:Int):=IntWalk.i64_in _ xo;have hw2:IntKind.i64.wrap (t+1)=(h:Int):=by rw [ht];exact IntWalk.i64_in _ xo
 have hw3:IntKind.i64.wrap ((k:Int)-ah)=(kk:Int):=by rw [hkk];exact IntWalk.i64_in _ xo
 have HWG:=hid (EH (a:=a) (at_:=at_) (show h<H+1 by omega));have HWL:=hid (pI a at_ (H+1));have HHH:=hid (And.intro hh hH);clear ht htH hkk hf hk6 hh hH;go_enter Tryz.func65,Tryz.ntmps65
 go_wp2
 refine iQ 0 rfl ?_;go_wp2_with fail
 refine (CK.out _ aH).mono ?_;rintro e w1 ⟨rfl,hb1⟩;have aA:=hb1.size;try simp only [World.size_alloc,World.size_setCell] at aA
 have hh:=zu hb1 (uj (uj (uj (zC (b:=w.heap.size) ax))));obtain ⟨lN,lM,lL,lK,lJ,lI,lH,lG,lF⟩:=hh;have lQ:=aP hb1 (dB (dB (dB (bV (b:=w.heap.size) ax))));have hh:=jl hb1 (jI (jI (jA (b:=w.heap.size+1) ax)));obtain ⟨aO,aN,aK,aU,aT,aV⟩:=hh;have bF:=aP hb1 (dB (dB (bV (b:=w.heap.size+1) ax)));have hh:=bc2 hb1 (OB (TF (b:=w.heap.size+1+1) ax));obtain ⟨kH,kG⟩:=hh;have nR:=aP hb1 (dB (bV (b:=w.heap.size+1+1) ax));have hh:=jl hb1 (jA (b:=w.heap.size+1+1+1) ax);obtain ⟨a_,aZ,bf,dh,df,cZ⟩:=hh;have hh:=Qs hb1 (bV (b:=w.heap.size+1+1+1) ax) (zB (b:=w.heap.size+1+1+1) ax);obtain ⟨bQ,bP,bT,dQ,dP,dO⟩:=hh;have bW:=aP hb1 (bV (b:=w.heap.size+1+1+1) ax);have hB1:Below w.heap.size w w1:=aH;have HB1:=hid hB1;have hz1:w.heap.size+1+1+1<w1.heap.size:=bW;clear hb1 hB1;go_upto_region 5 with (fail)
 generalize hw2:w1.alloc _=w2;have hh:=WG hw2 (uj (⟨lN,lM,lL,lK,lJ,lI,lH,lG,lF⟩));clear lN lM lL lK lJ lI lH lG lF;obtain ⟨lN,lM,lL,lK,lJ,lI,lH,lG,lF⟩:=hh;replace lQ:=kT hw2 (dB (lQ));have hh:=Dy hw2 (jI (⟨aO,aN,aK,aU,aT,aV⟩));clear aO aN aK aU aT aV;obtain ⟨aO,aN,aK,aU,aT,aV⟩:=hh;replace bF:=kT hw2 (dB (bF));have hh:=Zw hw2 (OB (⟨kH,kG⟩));clear kH kG;obtain ⟨kH,kG⟩:=hh;replace nR:=kT hw2 (dB (nR));have hh:=Dy hw2 (jI (⟨a_,aZ,bf,dh,df,cZ⟩));clear a_ aZ bf dh df cZ;obtain ⟨a_,aZ,bf,dh,df,cZ⟩:=hh;have hh:=ef6 hw2 (La bW ⟨bQ,bP,bT,dQ,dP,dO⟩);clear bQ bP bT dQ dP dO;obtain ⟨bQ,bP,bT,dQ,dP,dO⟩:=hh;replace bW:=kT hw2 (dB (bW));have zn:=ec1 hw2 (Xl (b:=w1.heap.size) ax);have Dx:=ef1 hw2 (Xk (b:=w1.heap.size) ax);have qg:=kT hw2 (bV (b:=w1.heap.size) ax);have hb2:Below w1.heap.size w1 w2:=by rw [<-hw2];exact br.alloc (Nat.le_refl _) _
 have HB2:=xv hb2 HB1;clear hw2 hb2;go_wp2_with fail
 refine (AM.out _ HB2.out).mono ?_;rintro e w3 ⟨rfl,hb3⟩;have kD:=hb3.size;simp (disch:=omega) only [jK hb3,rX hb3] at *;replace lQ:=aP hb3 lQ;replace bF:=aP hb3 bF;replace nR:=aP hb3 nR;replace bW:=aP hb3 bW;replace qg:=aP hb3 qg;have HB3:=xv hb3 HB2;have YT:w.heap.size+1+1+1<w3.heap.size:=bW;have YS:w1.heap.size<w3.heap.size:=qg;clear hb3;go_upto_region 13 with (fail)
 generalize hw4:w3.alloc _=w4;have hh:=WG hw4 (uj (⟨lN,lM,lL,lK,lJ,lI,lH,lG,lF⟩));clear lN lM lL lK lJ lI lH lG lF;obtain ⟨lN,lM,lL,lK,lJ,lI,lH,lG,lF⟩:=hh;replace lQ:=kT hw4 (dB (lQ));have hh:=Dy hw4 (jI (⟨aO,aN,aK,aU,aT,aV⟩));clear aO aN aK aU aT aV;obtain ⟨aO,aN,aK,aU,aT,aV⟩:=hh;replace bF:=kT hw4 (dB (bF));have hh:=Zw hw4 (OB (⟨kH,kG⟩));clear kH kG;obtain ⟨kH,kG⟩:=hh;replace nR:=kT hw4 (dB (nR));have hh:=Dy hw4 (jI (⟨a_,aZ,bf,dh,df,cZ⟩));clear a_ aZ bf dh df cZ;obtain ⟨a_,aZ,bf,dh,df,cZ⟩:=hh;have hh:=ef6 hw4 (La bW ⟨bQ,bP,bT,dQ,dP,dO⟩);clear bQ bP bT dQ dP dO;obtain ⟨bQ,bP,bT,dQ,dP,dO⟩:=hh;replace bW:=kT hw4 (dB (bW));replace zn:=ec1 hw4 (au1 (zn));replace Dx:=ef1 hw4 (aeo qg Dx);replace qg:=kT hw4 (dB (qg));have hh:=Zw hw4 (TF (b:=w3.heap.size) ax);obtain ⟨Tv,WX⟩:=hh;have hh:=ef2 hw4 (ZV (b:=w3.heap.size) ax);obtain ⟨Zt,Zr⟩:=hh;have IK:=kT hw4 (bV (b:=w3.heap.size) ax);have hb4:Below w3.heap.size w3 w4:=by rw [<-hw4];exact br.alloc (Nat.le_refl _) _
 have HB4:=xv hb4 HB3;have HI4:=hid (fun W (hb:Below w4.heap.size w4 W)=>HI.out W w1.heap.size (aj hb HB4.out HB4.out.size) ((hb.cell (p:=⟨w.heap.size,0,none⟩) lQ).trans lN) ((hb.cell (p:=⟨w.heap.size,1,none⟩) lQ).trans lM) ((hb.cell (p:=⟨w.heap.size,2,none⟩) lQ).trans lL) ((hb.cell (p:=⟨w.heap.size,3,none⟩) lQ).trans lK) ((hb.cell (p:=⟨w.heap.size,4,none⟩) lQ).trans lJ) ((hb.cell (p:=⟨w.heap.size,5,none⟩) lQ).trans lI) ((hb.cell (p:=⟨w.heap.size,6,none⟩) lQ).trans lH) ((hb.cell (p:=⟨w.heap.size,7,none⟩) lQ).trans lG) ((hb.cell (p:=⟨w.heap.size,8,none⟩) lQ).trans lF) ((hb.cell (p:=⟨w1.heap.size,0,none⟩) qg).trans zn));have abB:w1.heap.size<w4.heap.size:=qg;clear hw4 hb4 HI;refine di 10 xk (N:=111) rfl xk xk au (fun w'=>Below w4.heap.size w4 w') RB (gU [.is (.agg #[.int .i64 ai,.slice wa lw wc,.slice ka n kc,.slice va lv vc,.slice ca lc cc,.int .u64 laid]),.is (.agg #[.int .i64 ai,.slice wa lw wc,.slice ka n kc,.slice va lv vc,.slice ca lc cc,.int .u64 laid]),.is (.int .i64 k),.is (.int .i64 at_),.is (.func (.func 115) #[] #[.pointer (some ⟨w.heap.size,0,none⟩),.pointer (some ⟨w1.heap.size,0,none⟩)]),XO w4.heap.size a at_ H t,XO w4.heap.size a at_ H t,.is (.int .i64 t),paR w4.heap.size a at_ H,.is (.int .i64 t)]) (dA _) br.drew ?steps ?fin
 case steps=>
  refine ⟨?o0,?o1,?o2,?o3,?o4,?o5,?o6,?o7,?o8,?o9,trivial⟩<;>intro u a w' ev hJ hd K hK
  case o0=>
   have e5:tg a 5= .pointer (some ⟨w.heap.size+1,0,none⟩):=ev 5 au;have g0:=jb hJ aO;have g1:=jb hJ aN;have g2:=jb hJ aK;have g3:=jb hJ aU;have g4:=jb hJ aT;have g5:=jb hJ aV;have HK:=hid hK;clear hK ev hd;go_simp;exact HK.out _ _ aS hJ rfl br
  case o1=>
   have e5:tg a 5= .pointer (some ⟨w.heap.size+1,0,none⟩):=ev 5 au;have g0:=jb hJ aO;have g1:=jb hJ aN;have g2:=jb hJ aK;have g3:=jb hJ aU;have g4:=jb hJ aT;have g5:=jb hJ aV;have HK:=hid hK;clear hK ev hd;go_simp;exact HK.out _ _ aS hJ rfl br
  case o2=>
   have e2:tg a 2= .int .i64 k:=ev 2 au;have HK:=hid hK;clear hK ev hd;go_simp;exact HK.out _ _ aS hJ rfl br
  case o3=>
   have e49:tg a 49= .agg #[.int .i64 ai,.slice wa lw wc,.slice ka n kc,.slice va lv vc,.slice ca lc cc,.int .u64 laid]:=(ev 49 au).trans (hd 1 _ xk rfl);have e50:tg a 50= .int .i64 k:=(ev 50 au).trans (hd 2 _ xk rfl);have HK:=hid hK;have HC:=hid (HM.out w' (aj hJ HB4.out HB4.out.size));have lY:=hJ.size;clear hK ev hd;go_simp;refine HC.out.mono ?_;rintro e w'' ⟨rfl,hb⟩;exact HK.out _ _ aS (hJ.trans (hb.mono lY)) rfl hb
  case o4=>
   have e13:tg a 13= .func (.func 115) #[] #[.pointer (some ⟨w.heap.size,0,none⟩),.pointer (some ⟨w1.heap.size,0,none⟩)]:=ev 13 au;have HK:=hid hK;clear hK ev hd;go_simp;exact HK.out _ _ aS hJ rfl br
  case o5=>
   have e48:tg a 48= .agg #[.int .i64 ai,.slice wa lw wc,.slice ka n kc,.slice va lv vc,.slice ca lc cc,.int .u64 laid]:=(ev 48 au).trans (hd 0 _ xk rfl);have e51:tg a 51= .int .i64 at_:=(ev 51 au).trans (hd 3 _ xk rfl);have e52:tg a 52= .func (.func 115) #[] #[.pointer (some ⟨w.heap.size,0,none⟩),.pointer (some ⟨w1.heap.size,0,none⟩)]:=(ev 52 au).trans (hd 4 _ xk rfl);have HK:=hid hK;have HC:=hid (HI4.out w' hJ);have lY:=hJ.size;have HJ:=hid hJ;clear hK ev hd hJ;go_simp;refine HC.out.mono ?_;rintro e w'' ⟨y,rfl,hy,hb⟩;exact HK.out _ _ aS (HJ.out.trans (hb.mono lY)) (⟨y,rfl,az hy lY⟩) hb
  case o6=>
   obtain ⟨y,ht,hy⟩:(XO w4.heap.size _ at_ H t).holds (u 53) w':=hd 5 _ xk rfl;have e53:tg a 53=_:=(ev 53 au).trans ht;have HK:=hid hK;have HY:=hid hy;clear hK ev hd hy;go_simp;exact HK.out _ _ aS hJ (⟨y,rfl,HY.out⟩) br
  case o7=>
   obtain ⟨y,ht,hy⟩:(XO w4.heap.size _ at_ H t).holds (u 47) w':=hd 6 _ xk rfl;have e47:tg a 47=_:=(ev 47 au).trans ht;have HK:=hid hK;have HY:=hid hy;clear hK ev hd hy;go_simp;exact HK.out _ _ aS hJ (rfl) br
  case o8=>
   obtain ⟨y,ht,hy⟩:(XO w4.heap.size _ at_ H t).holds (u 47) w':=hd 6 _ xk rfl;have e47:tg a 47=_:=(ev 47 au).trans ht;have HK:=hid hK;have HY:=hid hy;clear hK ev hd hy;go_simp;exact HK.out _ _ aS hJ (HY.out) br
  case o9=>
   have e54:tg a 54= .int .i64 t:=(ev 54 au).trans (hd 7 _ xk rfl);have HK:=hid hK;clear hK ev hd;go_simp;exact HK.out _ _ aS hJ rfl br
 case fin=>
  intro u w5 hJ hG;have h16:u 16= .int .i64 t:=hG 9 _ rfl;have V3:w5.ownsRow w4.heap.size 157 2 (u 55) (H+1) ((lC (mP a at_ (H+1))).map (Value.int .i64)):=hG 8 _ rfl;obtain ⟨ra,rc,h55,hi5,-,-,hrc,-⟩:=ak V3;have xB:=xv hJ HB4;have x8:=hJ.size;simp (disch:=omega) only [jK hJ,rX hJ] at *;replace lQ:=aP hJ lQ;replace bF:=aP hJ bF;replace nR:=aP hJ nR;replace bW:=aP hJ bW;replace qg:=aP hJ qg;replace IK:=aP hJ IK;have Um:w4.heap.size<=w5.heap.size:=hJ.size;have hlt:h<H+1:=by have:=HHH.out;omega
  have hpr:=Gx (l:=mP a at_ (H+1)) (i:=h) (by rw [HWL.out];exact hlt);rw [HWG.out] at hpr;obtain ⟨pb,po,lo,hi,rfl,hx,hy,hc0,hc1,-⟩:=hi5.ab3 (i:=h) (by rw [gp,HWL.out];omega);have ex:((dJ a h at_*2^(a+h):Nat):Int)=lo:=by rw [<-hx.out,hpr.1]
  have ey:((dJ a h at_*2^(a+h):Nat):Int)+((2^(a+h):Nat):Int)=hi:=by rw [<-hy.out,hpr.2]
  rw [ey,ex] at WI;rw [ex] at AH;clear hG hJ V3 hi5 hpr hx hy ex ey HWG HWL HHH;simp only [aX,kR,dstsOf,List.take_succ_cons,List.take_zero,List.filterMap_cons,List.filterMap_nil,List.contains_cons,List.contains_nil,Nat.reduceBEq,Bool.or_false,Bool.false_or,Bool.or_true,Bool.true_or,if_true,if_false,Bool.false_eq_true,Nat.reduceAdd,Nat.zero_add,List.drop_succ_cons,List.drop_zero,h16,h55];go_upto_region 16 with (fail)
  generalize jc:w5.setCell _ _=w5a;replace lN:w5a.cell? ⟨w.heap.size,0,none⟩=some (.int .u8 c.tag):=by rw [<-jc];(exact dC)
  replace lM:w5a.cell? ⟨w.heap.size,1,none⟩=some (.int .i64 c.most):=by rw [<-jc];(exact dC)
  replace lL:w5a.cell? ⟨w.heap.size,2,none⟩=some (.int .i64 c.ai):=by rw [<-jc];(exact dC)
  replace lK:w5a.cell? ⟨w.heap.size,3,none⟩=some (.int .i64 c.least):=by rw [<-jc];(exact dC)
  replace lJ:w5a.cell? ⟨w.heap.size,4,none⟩=some (.int .i64 c.den):=by rw [<-jc];(exact dC)
  replace lI:w5a.cell? ⟨w.heap.size,5,none⟩=some (.int .i64 c.ll):=by rw [<-jc];(exact dC)
  replace lH:w5a.cell? ⟨w.heap.size,6,none⟩=some (.int .i64 c.rl):=by rw [<-jc];(exact dC)
  replace lG:w5a.cell? ⟨w.heap.size,7,none⟩=some (.int .i64 c.rh):=by rw [<-jc];(exact dC)
  replace lF:w5a.cell? ⟨w.heap.size,8,none⟩=some (.int .i64 c.lh):=by rw [<-jc];(exact dC)
  replace lQ:w.heap.size<w5a.heap.size:=by rw [<-jc];(exact gW)
  replace aO:w5a.cell? ⟨w.heap.size+1,0,none⟩=some (.int .i64 ai):=by rw [<-jc];(exact dC)
  replace aN:w5a.cell? ⟨w.heap.size+1,1,none⟩=some (.slice wa lw wc):=by rw [<-jc];(exact dC)
  replace aK:w5a.cell? ⟨w.heap.size+1,2,none⟩=some (.slice ka n kc):=by rw [<-jc];(exact dC)
  replace aU:w5a.cell? ⟨w.heap.size+1,3,none⟩=some (.slice va lv vc):=by rw [<-jc];(exact dC)
  replace aT:w5a.cell? ⟨w.heap.size+1,4,none⟩=some (.slice ca lc cc):=by rw [<-jc];(exact dC)
  replace aV:w5a.cell? ⟨w.heap.size+1,5,none⟩=some (.int .u64 laid):=by rw [<-jc];(exact dC)
  replace bF:w.heap.size+1<w5a.heap.size:=by rw [<-jc];(exact gW)
  replace kH:w5a.cell? ⟨w.heap.size+1+1,0,none⟩=some (.int .i64 x):=by rw [<-jc];(exact dC)
  replace kG:w5a.cell? ⟨w.heap.size+1+1,1,none⟩=some (.int .i64 y):=by rw [<-jc];(exact dC)
  replace nR:w.heap.size+1+1<w5a.heap.size:=by rw [<-jc];(exact gW)
  replace a_:w5a.cell? ⟨w.heap.size+1+1+1,0,none⟩=some (.int .i64 0):=by rw [<-jc];(exact dC)
  replace bQ:w5a.frozen? ⟨w.heap.size+1+1+1,0,none⟩=false:=by rw [<-jc];(exact dC)
  replace aZ:w5a.cell? ⟨w.heap.size+1+1+1,1,none⟩=some (.slice none 0 0):=by rw [<-jc];(exact dC)
  replace bP:w5a.frozen? ⟨w.heap.size+1+1+1,1,none⟩=false:=by rw [<-jc];(exact dC)
  replace bf:w5a.cell? ⟨w.heap.size+1+1+1,2,none⟩=some (.slice none 0 0):=by rw [<-jc];(exact dC)
  replace bT:w5a.frozen? ⟨w.heap.size+1+1+1,2,none⟩=false:=by rw [<-jc];(exact dC)
  replace dh:w5a.cell? ⟨w.heap.size+1+1+1,3,none⟩=some (.slice none 0 0):=by rw [<-jc];(exact dC)
  replace dQ:w5a.frozen? ⟨w.heap.size+1+1+1,3,none⟩=false:=by rw [<-jc];(exact dC)
  replace df:w5a.cell? ⟨w.heap.size+1+1+1,4,none⟩=some (.slice none 0 0):=by rw [<-jc];(exact dC)
  replace dP:w5a.frozen? ⟨w.heap.size+1+1+1,4,none⟩=false:=by rw [<-jc];(exact dC)
  replace cZ:w5a.cell? ⟨w.heap.size+1+1+1,5,none⟩=some (.int .u64 0):=by rw [<-jc];(exact dC)
  replace dO:w5a.frozen? ⟨w.heap.size+1+1+1,5,none⟩=false:=by rw [<-jc];(exact dC)
  replace bW:w.heap.size+1+1+1<w5a.heap.size:=by rw [<-jc];(exact gW)
  replace zn:w5a.cell? ⟨w1.heap.size,0,none⟩=some (.int .i64 n):=by rw [<-jc];(exact dC)
  replace Dx:w5a.frozen? ⟨w1.heap.size,0,none⟩=false:=by rw [<-jc];(exact dC)
  replace qg:w1.heap.size<w5a.heap.size:=by rw [<-jc];(exact gW)
  replace Tv:w5a.cell? ⟨w3.heap.size,0,none⟩=some (.int .i64 lo):=by rw [<-jc];(exact dC)
  replace Zt:w5a.frozen? ⟨w3.heap.size,0,none⟩=false:=by rw [<-jc];(exact dC)
  replace WX:w5a.cell? ⟨w3.heap.size,1,none⟩=some (.int .i64 0):=by rw [<-jc];(exact dC)
  replace Zr:w5a.frozen? ⟨w3.heap.size,1,none⟩=false:=by rw [<-jc];(exact dC)
  replace IK:w3.heap.size<w5a.heap.size:=by rw [<-jc];(exact gW)
  have ag1:Hid (Below w.heap.size w w5a):=by rw [<-jc];exact hid (xB.out.setCell (by dsimp only;have:=HB3.out.size;omega) _)
  clear jc;generalize hw6:w5a.setCell _ _=w6;replace lN:w6.cell? ⟨w.heap.size,0,none⟩=some (.int .u8 c.tag):=by rw [<-hw6];(exact dC)
  replace lM:w6.cell? ⟨w.heap.size,1,none⟩=some (.int .i64 c.most):=by rw [<-hw6];(exact dC)
  replace lL:w6.cell? ⟨w.heap.size,2,none⟩=some (.int .i64 c.ai):=by rw [<-hw6];(exact dC)
  replace lK:w6.cell? ⟨w.heap.size,3,none⟩=some (.int .i64 c.least):=by rw [<-hw6];(exact dC)
  replace lJ:w6.cell? ⟨w.heap.size,4,none⟩=some (.int .i64 c.den):=by rw [<-hw6];(exact dC)
  replace lI:w6.cell? ⟨w.heap.size,5,none⟩=some (.int .i64 c.ll):=by rw [<-hw6];(exact dC)
  replace lH:w6.cell? ⟨w.heap.size,6,none⟩=some (.int .i64 c.rl):=by rw [<-hw6];(exact dC)
  replace lG:w6.cell? ⟨w.heap.size,7,none⟩=some (.int .i64 c.rh):=by rw [<-hw6];(exact dC)
  replace lF:w6.cell? ⟨w.heap.size,8,none⟩=some (.int .i64 c.lh):=by rw [<-hw6];(exact dC)
  replace lQ:w.heap.size<w6.heap.size:=by rw [<-hw6];(exact gW)
  replace aO:w6.cell? ⟨w.heap.size+1,0,none⟩=some (.int .i64 ai):=by rw [<-hw6];(exact dC)
  replace aN:w6.cell? ⟨w.heap.size+1,1,none⟩=some (.slice wa lw wc):=by rw [<-hw6];(exact dC)
  replace aK:w6.cell? ⟨w.heap.size+1,2,none⟩=some (.slice ka n kc):=by rw [<-hw6];(exact dC)
  replace aU:w6.cell? ⟨w.heap.size+1,3,none⟩=some (.slice va lv vc):=by rw [<-hw6];(exact dC)
  replace aT:w6.cell? ⟨w.heap.size+1,4,none⟩=some (.slice ca lc cc):=by rw [<-hw6];(exact dC)
  replace aV:w6.cell? ⟨w.heap.size+1,5,none⟩=some (.int .u64 laid):=by rw [<-hw6];(exact dC)
  replace bF:w.heap.size+1<w6.heap.size:=by rw [<-hw6];(exact gW)
  replace kH:w6.cell? ⟨w.heap.size+1+1,0,none⟩=some (.int .i64 x):=by rw [<-hw6];(exact dC)
  replace kG:w6.cell? ⟨w.heap.size+1+1,1,none⟩=some (.int .i64 y):=by rw [<-hw6];(exact dC)
  replace nR:w.heap.size+1+1<w6.heap.size:=by rw [<-hw6];(exact gW)
  replace a_:w6.cell? ⟨w.heap.size+1+1+1,0,none⟩=some (.int .i64 0):=by rw [<-hw6];(exact dC)
  replace bQ:w6.frozen? ⟨w.heap.size+1+1+1,0,none⟩=false:=by rw [<-hw6];(exact dC)
  replace aZ:w6.cell? ⟨w.heap.size+1+1+1,1,none⟩=some (.slice none 0 0):=by rw [<-hw6];(exact dC)
  replace bP:w6.frozen? ⟨w.heap.size+1+1+1,1,none⟩=false:=by rw [<-hw6];(exact dC)
  replace bf:w6.cell? ⟨w.heap.size+1+1+1,2,none⟩=some (.slice none 0 0):=by rw [<-hw6];(exact dC)
  replace bT:w6.frozen? ⟨w.heap.size+1+1+1,2,none⟩=false:=by rw [<-hw6];(exact dC)
  replace dh:w6.cell? ⟨w.heap.size+1+1+1,3,none⟩=some (.slice none 0 0):=by rw [<-hw6];(exact dC)
  replace dQ:w6.frozen? ⟨w.heap.size+1+1+1,3,none⟩=false:=by rw [<-hw6];(exact dC)
  replace df:w6.cell? ⟨w.heap.size+1+1+1,4,none⟩=some (.slice none 0 0):=by rw [<-hw6];(exact dC)
  replace dP:w6.frozen? ⟨w.heap.size+1+1+1,4,none⟩=false:=by rw [<-hw6];(exact dC)
  replace cZ:w6.cell? ⟨w.heap.size+1+1+1,5,none⟩=some (.int .u64 0):=by rw [<-hw6];(exact dC)
  replace dO:w6.frozen? ⟨w.heap.size+1+1+1,5,none⟩=false:=by rw [<-hw6];(exact dC)
  replace bW:w.heap.size+1+1+1<w6.heap.size:=by rw [<-hw6];(exact gW)
  replace zn:w6.cell? ⟨w1.heap.size,0,none⟩=some (.int .i64 n):=by rw [<-hw6];(exact dC)
  replace Dx:w6.frozen? ⟨w1.heap.size,0,none⟩=false:=by rw [<-hw6];(exact dC)
  replace qg:w1.heap.size<w6.heap.size:=by rw [<-hw6];(exact gW)
  replace Tv:w6.cell? ⟨w3.heap.size,0,none⟩=some (.int .i64 lo):=by rw [<-hw6];(exact dC)
  replace Zt:w6.frozen? ⟨w3.heap.size,0,none⟩=false:=by rw [<-hw6];(exact dC)
  replace WX:w6.cell? ⟨w3.heap.size,1,none⟩=some (.int .i64 hi):=by rw [<-hw6];(exact dC)
  replace Zr:w6.frozen? ⟨w3.heap.size,1,none⟩=false:=by rw [<-hw6];(exact dC)
  replace IK:w3.heap.size<w6.heap.size:=by rw [<-hw6];(exact gW)
  have IR:Hid (Below w.heap.size w w6):=by rw [<-hw6];exact hid (ag1.out.setCell (by dsimp only;have:=HB3.out.size;omega) _)
  clear hw6;have G9:w.heap.size+1+1+1<w6.heap.size:=bW;refine di 15 xk (N:=111) rfl xk xk au (fun w'=>Below w6.heap.size w6 w') RB (gU [.is (.agg #[.int .i64 ai,.slice wa lw wc,.slice ka n kc,.slice va lv vc,.slice ca lc cc,.int .u64 laid]),.is (.pointer (some ⟨w3.heap.size,0,none⟩)),.is (.int .i64 lo),.is (.pointer (some ⟨w3.heap.size,1,none⟩)),.is (.int .i64 hi),.is (.int .i64 k),.is (.agg #[.int .i64 ai,.slice wa lw wc,.slice ka n kc,.slice va lv vc,.slice ca lc cc,.int .u64 laid]),.is (.pointer (some ⟨w3.heap.size,0,none⟩)),.is (.int .i64 lo),.is (.int .i64 ah),.is (.int .i64 kk),.is (.agg #[.int .i64 x,.int .i64 y]),abb w6.heap.size d (.int .i64 0),.sl w6.heap.size d,.is (.int .i64 0)]) (dA _) br.drew ?steps ?fin
  case steps=>
   refine ⟨?o0,?o1,?o2,?o3,?o4,?o5,?o6,?o7,?o8,?o9,?o10,?o11,?o12,?o13,?o14,trivial⟩<;>intro u a w' ev hJ hd K hK
   case o0=>
    have e5:tg a 5= .pointer (some ⟨w.heap.size+1,0,none⟩):=ev 5 au;have g0:=jb hJ aO;have g1:=jb hJ aN;have g2:=jb hJ aK;have g3:=jb hJ aU;have g4:=jb hJ aT;have g5:=jb hJ aV;have HK:=hid hK;clear hK ev hd;go_simp;exact HK.out _ _ aS hJ rfl br
   case o1=>
    have e14:tg a 14= .pointer (some ⟨w3.heap.size,0,none⟩):=ev 14 au;have HK:=hid hK;clear hK ev hd;go_simp;exact HK.out _ _ aS hJ rfl br
   case o2=>
    have e67:tg a 67= .pointer (some ⟨w3.heap.size,0,none⟩):=(ev 67 au).trans (hd 1 _ xk rfl);have g0:=jb hJ Tv;have HK:=hid hK;clear hK ev hd;go_simp;exact HK.out _ _ aS hJ rfl br
   case o3=>
    have e14:tg a 14= .pointer (some ⟨w3.heap.size,0,none⟩):=ev 14 au;have HK:=hid hK;clear hK ev hd;go_simp;exact HK.out _ _ aS hJ rfl br
   case o4=>
    have e69:tg a 69= .pointer (some ⟨w3.heap.size,1,none⟩):=(ev 69 au).trans (hd 3 _ xk rfl);have g0:=jb hJ WX;have HK:=hid hK;clear hK ev hd;go_simp;exact HK.out _ _ aS hJ rfl br
   case o5=>
    have e2:tg a 2= .int .i64 k:=ev 2 au;have HK:=hid hK;clear hK ev hd;go_simp;exact HK.out _ _ aS hJ rfl br
   case o6=>
    have e5:tg a 5= .pointer (some ⟨w.heap.size+1,0,none⟩):=ev 5 au;have g0:=jb hJ aO;have g1:=jb hJ aN;have g2:=jb hJ aK;have g3:=jb hJ aU;have g4:=jb hJ aT;have g5:=jb hJ aV;have HK:=hid hK;clear hK ev hd;go_simp;exact HK.out _ _ aS hJ rfl br
   case o7=>
    have e14:tg a 14= .pointer (some ⟨w3.heap.size,0,none⟩):=ev 14 au;have HK:=hid hK;clear hK ev hd;go_simp;exact HK.out _ _ aS hJ rfl br
   case o8=>
    have e73:tg a 73= .pointer (some ⟨w3.heap.size,0,none⟩):=(ev 73 au).trans (hd 7 _ xk rfl);have g0:=jb hJ Tv;have HK:=hid hK;clear hK ev hd;go_simp;exact HK.out _ _ aS hJ rfl br
   case o9=>
    have e72:tg a 72= .agg #[.int .i64 ai,.slice wa lw wc,.slice ka n kc,.slice va lv vc,.slice ca lc cc,.int .u64 laid]:=(ev 72 au).trans (hd 6 _ xk rfl);have e74:tg a 74= .int .i64 lo:=(ev 74 au).trans (hd 8 _ xk rfl);have HK:=hid hK;have HC:=hid (AH.out w' (aj hJ IR.out IR.out.size));have lY:=hJ.size;clear hK ev hd;go_simp;refine HC.out.mono ?_;rintro e w'' ⟨rfl,hb⟩;exact HK.out _ _ aS (hJ.trans (hb.mono lY)) rfl hb
   case o10=>
    have e71:tg a 71= .int .i64 k:=(ev 71 au).trans (hd 5 _ xk rfl);have e75:tg a 75= .int .i64 ah:=(ev 75 au).trans (hd 9 _ xk rfl);have HK:=hid hK;clear hK ev hd;go_simp;exact HK.out _ _ aS hJ rfl br
   case o11=>
    have e7:tg a 7= .pointer (some ⟨w.heap.size+1+1,0,none⟩):=ev 7 au;have g0:=jb hJ kH;have g1:=jb hJ kG;have HK:=hid hK;clear hK ev hd;go_simp;exact HK.out _ _ aS hJ rfl br
   case o12=>
    have e66:tg a 66= .agg #[.int .i64 ai,.slice wa lw wc,.slice ka n kc,.slice va lv vc,.slice ca lc cc,.int .u64 laid]:=(ev 66 au).trans (hd 0 _ xk rfl);have e68:tg a 68= .int .i64 lo:=(ev 68 au).trans (hd 2 _ xk rfl);have e70:tg a 70= .int .i64 hi:=(ev 70 au).trans (hd 4 _ xk rfl);have e76:tg a 76= .int .i64 kk:=(ev 76 au).trans (hd 10 _ xk rfl);have e77:tg a 77= .agg #[.int .i64 x,.int .i64 y]:=(ev 77 au).trans (hd 11 _ xk rfl);have HK:=hid hK;have HC:=hid (WI.out w' (aj hJ IR.out IR.out.size));have lY:=hJ.size;have HJ:=hid hJ;clear hK ev hd hJ;go_simp;refine HC.out.mono ?_;rintro e w'' ⟨v1,v2,v3,v4,rfl,p1,p2,p3,p4,hb⟩;exact HK.out _ _ aS (HJ.out.trans (hb.mono lY)) (⟨_,rfl,v1,v2,v3,v4,rfl,az p1 lY,az p2 lY,az p3 lY,az p4 lY⟩) hb
   case o13=>
    obtain ⟨y,ht,hy⟩:(abb w6.heap.size d (.int .i64 0)).holds (u 78) w':=hd 12 _ xk rfl;have e78:tg a 78=_:=(ev 78 au).trans ht;have HK:=hid hK;have HY:=hid hy;clear hK ev hd hy;go_simp;exact HK.out _ _ aS hJ (HY.out) br
   case o14=>
    obtain ⟨y,ht,hy⟩:(abb w6.heap.size d (.int .i64 0)).holds (u 78) w':=hd 12 _ xk rfl;have e78:tg a 78=_:=(ev 78 au).trans ht;have HK:=hid hK;have HY:=hid hy;clear hK ev hd hy;go_simp;exact HK.out _ _ aS hJ (rfl) br
  case fin=>
   intro u2 w7 hJ hG;obtain ⟨v1,v2,v3,v4,h79,p1,p2,p3,p4⟩:(dN.sl w6.heap.size d).holds (u2 79) w7:=hG 13 _ rfl;have h80:u2 80= .int .i64 0:=hG 14 _ rfl;have HB7:=xv hJ IR;have VT:=hJ.size;simp (disch:=omega) only [jK hJ,rX hJ] at *;replace lQ:=aP hJ lQ;replace bF:=aP hJ bF;replace nR:=aP hJ nR;replace bW:=aP hJ bW;replace qg:=aP hJ qg;replace IK:=aP hJ IK;obtain ⟨a1,k1,rfl,-,-,-,-,-⟩:=ak p1;obtain ⟨a2,k2,rfl,-,-,-,-,-⟩:=ak p2;obtain ⟨a3,k3,rfl,-,-,-,-,-⟩:=ak p3;obtain ⟨a4,k4,rfl,-,-,-,-,-⟩:=ak p4;have HP:=hid (And.intro p1 (And.intro p2 (And.intro p3 p4)));clear p1 p2 p3 p4 hJ hG;simp only [aX,kR,dstsOf,List.take_succ_cons,List.take_zero,List.filterMap_cons,List.filterMap_nil,List.contains_cons,List.contains_nil,Nat.reduceBEq,Bool.or_false,Bool.false_or,Bool.or_true,Bool.true_or,if_true,if_false,Bool.false_eq_true,Nat.reduceAdd,Nat.zero_add,List.drop_succ_cons,List.drop_zero,h79,h80];go_wp2
   simp only [Exit.jump];have HC:=hid (mW ⟨a_,aZ,bf,dh,df,cZ⟩);exact jG (W:=w7) (b:=w.heap.size+1+1+1) [.int .i64 d.ai,.slice a1 d.ws.length k1,.slice a2 d.ks.length k2,.slice a3 d.vs.length k3,.slice a4 d.cs.length k4,.int .u64 d.laid] HC rfl rfl (fun _ h=>aF rfl rfl (ag _ Tryz.underlying29 rfl xk h)) fun _ s=>⟨_,_,_,_,rfl,s.ow G9 HP.out.1,s.ow G9 HP.out.2.1,s.ow G9 HP.out.2.2.1,s.ow G9 HP.out.2.2.2,s.be HB7.out⟩
theorem SX (c:bY) (ai:Int) (wa ka va ca:Option Addr) (wc kc vc cc lw n lv lc:Nat) (laid:Int) (a H at_ k size2:Nat) (x y many t:Int) (L:List (Int×Int)) (hL:L.length<=65536) (hkL:k<=L.length) (d:aW) (hk2:¬many<(k:Int)) (hf:many≠c.most) (hH:H<=14) (htH:t=(H:Nat)) (w:World) (CK:Hid (∀W,Below w.heap.size w W->Calls Tryz.prog 50 #[.agg #[.int .u8 c.tag,.int .i64 c.most,.int .i64 c.ai,.int .i64 c.least,.int .i64 c.den,.int .i64 c.ll,.int .i64 c.rl,.int .i64 c.rh,.int .i64 c.lh],.agg #[.int .i64 ai,.slice wa lw wc,.slice ka n kc,.slice va lv vc,.slice ca lc cc,.int .u64 laid]] W (aC W (.int .i64 0)))) (AM:Hid (∀W,Below w.heap.size w W->Calls Tryz.prog 96 #[.agg #[.int .i64 ai,.slice wa lw wc,.slice ka n kc,.slice va lv vc,.slice ca lc cc,.int .u64 laid],.int .i64 0,.int .i64 n] W (aC W (.int .i64 many))))
    (HM:Hid (∀W,Below w.heap.size w W->Calls Tryz.prog 117 #[.agg #[.int .i64 ai,.slice wa lw wc,.slice ka n kc,.slice va lv vc,.slice ca lc cc,.int .u64 laid],.int .i64 k] W (aC W (.int .i64 at_))))
    (HI:Hid (∀W b2,Below w.heap.size w W->W.cell? ⟨w.heap.size,0,none⟩=some (.int .u8 c.tag)->W.cell? ⟨w.heap.size,1,none⟩=some (.int .i64 c.most)->W.cell? ⟨w.heap.size,2,none⟩=some (.int .i64 c.ai)->W.cell? ⟨w.heap.size,3,none⟩=some (.int .i64 c.least)->W.cell? ⟨w.heap.size,4,none⟩=some (.int .i64 c.den)->W.cell? ⟨w.heap.size,5,none⟩=some (.int .i64 c.ll)->W.cell? ⟨w.heap.size,6,none⟩=some (.int .i64 c.rl)->W.cell? ⟨w.heap.size,7,none⟩=some (.int .i64 c.rh)->W.cell? ⟨w.heap.size,8,none⟩=some (.int .i64 c.lh)->W.cell? ⟨b2,0,none⟩=some (.int .i64 n)->Calls Tryz.prog 116 #[.agg #[.int .i64 ai,.slice wa lw wc,.slice ka n kc,.slice va lv vc,.slice ca lc cc,.int .u64 laid],.int .i64 at_,.func (.func 115) #[] #[.pointer (some ⟨w.heap.size,0,none⟩),.pointer (some ⟨b2,0,none⟩)]] W (QD W a at_ H t)))
    (PR:Hid (∀W,Below w.heap.size w W->Calls Tryz.prog 100 #[.agg #[.int .i64 ai,.slice wa lw wc,.slice ka n kc,.slice va lv vc,.slice ca lc cc,.int .u64 laid],.int .i64 0,.int .i64 n] W (sZ W L (.int .i64 0))))
    (CP:Hid (∀W,Below w.heap.size w W->Calls Tryz.prog 119 #[.agg #[.int .u8 c.tag,.int .i64 c.most,.int .i64 c.ai,.int .i64 c.least,.int .i64 c.den,.int .i64 c.ll,.int .i64 c.rl,.int .i64 c.rh,.int .i64 c.lh],.int .i64 (L.length+1:Nat)] W (aC W (.tuple #[.int .i64 size2,.int .i64 0]))))
    (IN:Hid (∀la pl W,Below w.heap.size w W->aQ .i64 W la (lC (insL L k (x,y)))->Calls Tryz.prog 120 #[.agg #[.int .i64 ai,.slice wa lw wc,.slice ka n kc,.slice va lv vc,.slice ca lc cc,.int .u64 laid],.int .i64 size2,.slice la (L.length+1) pl] W (dm W d (.int .i64 0)))):
    Calls Tryz.prog 65 #[.agg #[.int .u8 c.tag,.int .i64 c.most,.int .i64 c.ai,.int .i64 c.least,.int .i64 c.den,.int .i64 c.ll,.int .i64 c.rl,.int .i64 c.rh,.int .i64 c.lh],.agg #[.int .i64 ai,.slice wa lw wc,.slice ka n kc,.slice va lv vc,.slice ca lc cc,.int .u64 laid],.int .i64 k,.agg #[.int .i64 x,.int .i64 y]] w (dm w d (.int .i64 0)):=by
 have g1:decide ((k:Int)<0)=false:=by simp
 have g2:decide (many<(k:Int))=false:=by simpa using hk2
 have g3:(many==c.most)=false:=by rw [beq_eq_false_iff_ne];exact hf
 have g4:((H:Int)==(H:Int))=true:=by simp
 have hw1:IntKind.i64.wrap (((H+1:Nat):Int)-1)=(H:Int):=by rw [show ((H+1:Nat):Int)-1=(H:Int) by omega];exact IntWalk.i64_in _ xo
 have afG:IntKind.i64.wrap (H:Int)=(H:Int):=IntWalk.i64_in _ xo;have HWL:=hid (pI a at_ (H+1));have HRW:=hid (fun (w:World) la pl (h:aQ .i64 w la (lC L)) (hz:AtZ la L.length pl)=>And.intro (Jk h hkL) (Jl h rfl hz.le hkL (fun e=>(hz.no e).2)));have QE:=hid (show (lC (L.take k)).length=k*2 by rw [gp,List.length_take];omega);have HLD:=hid (show (lC (L.drop k)).length=(L.length-k)*2 by rw [gp,List.length_drop]);have HIN:=hid (JO L k (x,y));have XG:=hid hkL;have HMM:=hid hL;subst htH;clear hf hH hkL hL;generalize lC (insL L k (x,y))=Z at *;go_enter Tryz.func65,Tryz.ntmps65
 go_wp2
 refine iQ 0 rfl ?_;go_wp2_with fail
 refine (CK.out _ aH).mono ?_;rintro e w1 ⟨rfl,hb1⟩;have aA:=hb1.size;try simp only [World.size_alloc,World.size_setCell] at aA
 have hh:=zu hb1 (uj (uj (uj (zC (b:=w.heap.size) ax))));obtain ⟨lN,lM,lL,lK,lJ,lI,lH,lG,lF⟩:=hh;have lQ:=aP hb1 (dB (dB (dB (bV (b:=w.heap.size) ax))));have hh:=jl hb1 (jI (jI (jA (b:=w.heap.size+1) ax)));obtain ⟨aO,aN,aK,aU,aT,aV⟩:=hh;have bF:=aP hb1 (dB (dB (bV (b:=w.heap.size+1) ax)));have hh:=bc2 hb1 (OB (TF (b:=w.heap.size+1+1) ax));obtain ⟨kH,kG⟩:=hh;have nR:=aP hb1 (dB (bV (b:=w.heap.size+1+1) ax));have hh:=jl hb1 (jA (b:=w.heap.size+1+1+1) ax);obtain ⟨a_,aZ,bf,dh,df,cZ⟩:=hh;have hh:=Qs hb1 (bV (b:=w.heap.size+1+1+1) ax) (zB (b:=w.heap.size+1+1+1) ax);obtain ⟨bQ,bP,bT,dQ,dP,dO⟩:=hh;have bW:=aP hb1 (bV (b:=w.heap.size+1+1+1) ax);have hB1:Below w.heap.size w w1:=aH;have HB1:=hid hB1;have hz1:w.heap.size+1+1+1<w1.heap.size:=bW;clear hb1 hB1;go_upto_region 5 with (fail)
 generalize hw2:w1.alloc _=w2;have hh:=WG hw2 (uj (⟨lN,lM,lL,lK,lJ,lI,lH,lG,lF⟩));clear lN lM lL lK lJ lI lH lG lF;obtain ⟨lN,lM,lL,lK,lJ,lI,lH,lG,lF⟩:=hh;replace lQ:=kT hw2 (dB (lQ));have hh:=Dy hw2 (jI (⟨aO,aN,aK,aU,aT,aV⟩));clear aO aN aK aU aT aV;obtain ⟨aO,aN,aK,aU,aT,aV⟩:=hh;replace bF:=kT hw2 (dB (bF));have hh:=Zw hw2 (OB (⟨kH,kG⟩));clear kH kG;obtain ⟨kH,kG⟩:=hh;replace nR:=kT hw2 (dB (nR));have hh:=Dy hw2 (jI (⟨a_,aZ,bf,dh,df,cZ⟩));clear a_ aZ bf dh df cZ;obtain ⟨a_,aZ,bf,dh,df,cZ⟩:=hh;have hh:=ef6 hw2 (La bW ⟨bQ,bP,bT,dQ,dP,dO⟩);clear bQ bP bT dQ dP dO;obtain ⟨bQ,bP,bT,dQ,dP,dO⟩:=hh;replace bW:=kT hw2 (dB (bW));have zn:=ec1 hw2 (Xl (b:=w1.heap.size) ax);have Dx:=ef1 hw2 (Xk (b:=w1.heap.size) ax);have qg:=kT hw2 (bV (b:=w1.heap.size) ax);have hb2:Below w1.heap.size w1 w2:=by rw [<-hw2];exact br.alloc (Nat.le_refl _) _
 have HB2:=xv hb2 HB1;clear hw2 hb2;go_wp2_with fail
 refine (AM.out _ HB2.out).mono ?_;rintro e w3 ⟨rfl,hb3⟩;have kD:=hb3.size;simp (disch:=omega) only [jK hb3,rX hb3] at *;replace lQ:=aP hb3 lQ;replace bF:=aP hb3 bF;replace nR:=aP hb3 nR;replace bW:=aP hb3 bW;replace qg:=aP hb3 qg;have HB3:=xv hb3 HB2;have YT:w.heap.size+1+1+1<w3.heap.size:=bW;have YS:w1.heap.size<w3.heap.size:=qg;clear hb3;go_upto_region 13 with (fail)
 generalize hw4:w3.alloc _=w4;have hh:=WG hw4 (uj (⟨lN,lM,lL,lK,lJ,lI,lH,lG,lF⟩));clear lN lM lL lK lJ lI lH lG lF;obtain ⟨lN,lM,lL,lK,lJ,lI,lH,lG,lF⟩:=hh;replace lQ:=kT hw4 (dB (lQ));have hh:=Dy hw4 (jI (⟨aO,aN,aK,aU,aT,aV⟩));clear aO aN aK aU aT aV;obtain ⟨aO,aN,aK,aU,aT,aV⟩:=hh;replace bF:=kT hw4 (dB (bF));have hh:=Zw hw4 (OB (⟨kH,kG⟩));clear kH kG;obtain ⟨kH,kG⟩:=hh;replace nR:=kT hw4 (dB (nR));have hh:=Dy hw4 (jI (⟨a_,aZ,bf,dh,df,cZ⟩));clear a_ aZ bf dh df cZ;obtain ⟨a_,aZ,bf,dh,df,cZ⟩:=hh;have hh:=ef6 hw4 (La bW ⟨bQ,bP,bT,dQ,dP,dO⟩);clear bQ bP bT dQ dP dO;obtain ⟨bQ,bP,bT,dQ,dP,dO⟩:=hh;replace bW:=kT hw4 (dB (bW));replace zn:=ec1 hw4 (au1 (zn));replace Dx:=ef1 hw4 (aeo qg Dx);replace qg:=kT hw4 (dB (qg));have hh:=Zw hw4 (TF (b:=w3.heap.size) ax);obtain ⟨Tv,WX⟩:=hh;have hh:=ef2 hw4 (ZV (b:=w3.heap.size) ax);obtain ⟨Zt,Zr⟩:=hh;have IK:=kT hw4 (bV (b:=w3.heap.size) ax);have hb4:Below w3.heap.size w3 w4:=by rw [<-hw4];exact br.alloc (Nat.le_refl _) _
 have HB4:=xv hb4 HB3;have HI4:=hid (fun W (hb:Below w4.heap.size w4 W)=>HI.out W w1.heap.size (aj hb HB4.out HB4.out.size) ((hb.cell (p:=⟨w.heap.size,0,none⟩) lQ).trans lN) ((hb.cell (p:=⟨w.heap.size,1,none⟩) lQ).trans lM) ((hb.cell (p:=⟨w.heap.size,2,none⟩) lQ).trans lL) ((hb.cell (p:=⟨w.heap.size,3,none⟩) lQ).trans lK) ((hb.cell (p:=⟨w.heap.size,4,none⟩) lQ).trans lJ) ((hb.cell (p:=⟨w.heap.size,5,none⟩) lQ).trans lI) ((hb.cell (p:=⟨w.heap.size,6,none⟩) lQ).trans lH) ((hb.cell (p:=⟨w.heap.size,7,none⟩) lQ).trans lG) ((hb.cell (p:=⟨w.heap.size,8,none⟩) lQ).trans lF) ((hb.cell (p:=⟨w1.heap.size,0,none⟩) qg).trans zn));have abB:w1.heap.size<w4.heap.size:=qg;clear hw4 hb4 HI;refine di 10 xk (N:=111) rfl xk xk au (fun w'=>Below w4.heap.size w4 w') RB (gU [.is (.agg #[.int .i64 ai,.slice wa lw wc,.slice ka n kc,.slice va lv vc,.slice ca lc cc,.int .u64 laid]),.is (.agg #[.int .i64 ai,.slice wa lw wc,.slice ka n kc,.slice va lv vc,.slice ca lc cc,.int .u64 laid]),.is (.int .i64 k),.is (.int .i64 at_),.is (.func (.func 115) #[] #[.pointer (some ⟨w.heap.size,0,none⟩),.pointer (some ⟨w1.heap.size,0,none⟩)]),XO w4.heap.size a at_ H (H:Int),XO w4.heap.size a at_ H (H:Int),.is (.int .i64 (H:Int)),paR w4.heap.size a at_ H,.is (.int .i64 (H:Int))]) (dA _) br.drew ?steps ?fin
 case steps=>
  refine ⟨?o0,?o1,?o2,?o3,?o4,?o5,?o6,?o7,?o8,?o9,trivial⟩<;>intro u a w' ev hJ hd K hK
  case o0=>
   have e5:tg a 5= .pointer (some ⟨w.heap.size+1,0,none⟩):=ev 5 au;have g0:=jb hJ aO;have g1:=jb hJ aN;have g2:=jb hJ aK;have g3:=jb hJ aU;have g4:=jb hJ aT;have g5:=jb hJ aV;have HK:=hid hK;clear hK ev hd;go_simp;exact HK.out _ _ aS hJ rfl br
  case o1=>
   have e5:tg a 5= .pointer (some ⟨w.heap.size+1,0,none⟩):=ev 5 au;have g0:=jb hJ aO;have g1:=jb hJ aN;have g2:=jb hJ aK;have g3:=jb hJ aU;have g4:=jb hJ aT;have g5:=jb hJ aV;have HK:=hid hK;clear hK ev hd;go_simp;exact HK.out _ _ aS hJ rfl br
  case o2=>
   have e2:tg a 2= .int .i64 k:=ev 2 au;have HK:=hid hK;clear hK ev hd;go_simp;exact HK.out _ _ aS hJ rfl br
  case o3=>
   have e49:tg a 49= .agg #[.int .i64 ai,.slice wa lw wc,.slice ka n kc,.slice va lv vc,.slice ca lc cc,.int .u64 laid]:=(ev 49 au).trans (hd 1 _ xk rfl);have e50:tg a 50= .int .i64 k:=(ev 50 au).trans (hd 2 _ xk rfl);have HK:=hid hK;have HC:=hid (HM.out w' (aj hJ HB4.out HB4.out.size));have lY:=hJ.size;clear hK ev hd;go_simp;refine HC.out.mono ?_;rintro e w'' ⟨rfl,hb⟩;exact HK.out _ _ aS (hJ.trans (hb.mono lY)) rfl hb
  case o4=>
   have e13:tg a 13= .func (.func 115) #[] #[.pointer (some ⟨w.heap.size,0,none⟩),.pointer (some ⟨w1.heap.size,0,none⟩)]:=ev 13 au;have HK:=hid hK;clear hK ev hd;go_simp;exact HK.out _ _ aS hJ rfl br
  case o5=>
   have e48:tg a 48= .agg #[.int .i64 ai,.slice wa lw wc,.slice ka n kc,.slice va lv vc,.slice ca lc cc,.int .u64 laid]:=(ev 48 au).trans (hd 0 _ xk rfl);have e51:tg a 51= .int .i64 at_:=(ev 51 au).trans (hd 3 _ xk rfl);have e52:tg a 52= .func (.func 115) #[] #[.pointer (some ⟨w.heap.size,0,none⟩),.pointer (some ⟨w1.heap.size,0,none⟩)]:=(ev 52 au).trans (hd 4 _ xk rfl);have HK:=hid hK;have HC:=hid (HI4.out w' hJ);have lY:=hJ.size;have HJ:=hid hJ;clear hK ev hd hJ;go_simp;refine HC.out.mono ?_;rintro e w'' ⟨y,rfl,hy,hb⟩;exact HK.out _ _ aS (HJ.out.trans (hb.mono lY)) (⟨y,rfl,az hy lY⟩) hb
  case o6=>
   obtain ⟨y,ht,hy⟩:(XO w4.heap.size _ at_ H (H:Int)).holds (u 53) w':=hd 5 _ xk rfl;have e53:tg a 53=_:=(ev 53 au).trans ht;have HK:=hid hK;have HY:=hid hy;clear hK ev hd hy;go_simp;exact HK.out _ _ aS hJ (⟨y,rfl,HY.out⟩) br
  case o7=>
   obtain ⟨y,ht,hy⟩:(XO w4.heap.size _ at_ H (H:Int)).holds (u 47) w':=hd 6 _ xk rfl;have e47:tg a 47=_:=(ev 47 au).trans ht;have HK:=hid hK;have HY:=hid hy;clear hK ev hd hy;go_simp;exact HK.out _ _ aS hJ (rfl) br
  case o8=>
   obtain ⟨y,ht,hy⟩:(XO w4.heap.size _ at_ H (H:Int)).holds (u 47) w':=hd 6 _ xk rfl;have e47:tg a 47=_:=(ev 47 au).trans ht;have HK:=hid hK;have HY:=hid hy;clear hK ev hd hy;go_simp;exact HK.out _ _ aS hJ (HY.out) br
  case o9=>
   have e54:tg a 54= .int .i64 (H:Int):=(ev 54 au).trans (hd 7 _ xk rfl);have HK:=hid hK;clear hK ev hd;go_simp;exact HK.out _ _ aS hJ rfl br
 case fin=>
  intro u w5 hJ hG;have h16:u 16= .int .i64 (H:Int):=hG 9 _ rfl;have V3:w5.ownsRow w4.heap.size 157 2 (u 55) (H+1) ((lC (mP a at_ (H+1))).map (Value.int .i64)):=hG 8 _ rfl;obtain ⟨ra,rc,h55,hi5,-,-,hrc,-⟩:=ak V3;have xB:=xv hJ HB4;have x8:=hJ.size;simp (disch:=omega) only [jK hJ,rX hJ] at *;replace lQ:=aP hJ lQ;replace bF:=aP hJ bF;replace nR:=aP hJ nR;replace bW:=aP hJ bW;replace qg:=aP hJ qg;replace IK:=aP hJ IK;have Um:w4.heap.size<=w5.heap.size:=hJ.size;clear hG hJ V3 hi5 HWL HM HI4;simp only [aX,kR,dstsOf,List.take_succ_cons,List.take_zero,List.filterMap_cons,List.filterMap_nil,List.contains_cons,List.contains_nil,Nat.reduceBEq,Bool.or_false,Bool.false_or,Bool.or_true,Bool.true_or,if_true,if_false,Bool.false_eq_true,Nat.reduceAdd,Nat.zero_add,List.drop_succ_cons,List.drop_zero,h16,h55];go_wp2
  refine wp_goto ?_;show 0=0/\Code.wp _ _ _ _ _;refine ⟨rfl,?_⟩;go_wp2_with fail
  refine (PR.out _ xB.out).mono ?_;rintro e w6 ⟨v,rfl,ho6,hb6⟩;have VU:=hb6.size;simp (disch:=omega) only [jK hb6,rX hb6] at *;replace lQ:=aP hb6 lQ;replace bF:=aP hb6 bF;replace nR:=aP hb6 nR;replace bW:=aP hb6 bW;replace qg:=aP hb6 qg;replace IK:=aP hb6 IK;have IR:=xv hb6 xB;obtain ⟨la,pl,rfl,hi6,-,-,-,-⟩:=ak ho6;have hz:=Lc ho6;have HR:=hid (HRW.out w6 la pl hi6 hz);have HN:=hid (fun h:la=none=>(hz.no h));have QF:=hid (And.intro XG.out (And.intro hz.le (Nat.le_trans XG.out hz.le)));obtain ⟨da,Wl⟩:∃da,(if pl=k then la else la.map (·.add (k*2)))=da:=⟨_,rfl⟩
  rw [Wl] at HR;have HDA:=hid Wl;have HT:=hid HR.out.1;have HD:=hid HR.out.2;have aiU:w.heap.size+1+1+1<w6.heap.size:=bW;have aiR:w1.heap.size<w6.heap.size:=qg;clear hb6 ho6 hi6 hz HR HRW Wl PR;generalize lC (L.take k)=T at *;generalize lC (L.drop k)=D at *;generalize L.length=m at *;go_upto_region 18 with (fail)
  refine di 11 xk (N:=111) rfl xk xk au (fun w'=>Below w6.heap.size w6 w') RB (gU [.is (.slice la m pl),.is (.int .i64 k),.is (.int .i64 k),.is (.slice la k k),.is (.agg #[.int .i64 x,.int .i64 y]),Yu w6.heap.size [.int .i64 x,.int .i64 y],.is (.slice la m pl),.is (.int .i64 k),.is (.slice da (m-k) (pl-k)),Yt w6.heap.size (1+(m-k)) ([.int .i64 x,.int .i64 y]++D.map (Value.int .i64)),Yt w6.heap.size (k+(1+(m-k))) (T.map (Value.int .i64)++([.int .i64 x,.int .i64 y]++D.map (Value.int .i64)))]) (dA _) br.drew ?steps ?fin
  case steps=>
   refine ⟨?o0,?o1,?o2,?o3,?o4,?o5,?o6,?o7,?o8,?o9,?o10,trivial⟩<;>intro u a w' ev hJ hd K hK
   case o0=>
    have e15:tg a 15= .slice la m pl:=ev 15 au;have HK:=hid hK;clear hK ev hd;go_simp;exact HK.out _ _ aS hJ rfl br
   case o1=>
    have e2:tg a 2= .int .i64 k:=ev 2 au;have HK:=hid hK;clear hK ev hd;go_simp;exact HK.out _ _ aS hJ rfl br
   case o2=>
    have e2:tg a 2= .int .i64 k:=ev 2 au;have HK:=hid hK;clear hK ev hd;go_simp;exact HK.out _ _ aS hJ rfl br
   case o3=>
    have e87:tg a 87= .slice la m pl:=(ev 87 au).trans (hd 0 _ xk rfl);have e88:tg a 88= .int .i64 k:=(ev 88 au).trans (hd 1 _ xk rfl);have e89:tg a 89= .int .i64 k:=(ev 89 au).trans (hd 2 _ xk rfl);exact wG 125 60 (.tmp 87) (.tmp 88) (.tmp 89) 2 la m pl k rfl Tryz.underlying125 xk e87 e88 e89 QF.out.2.2 (hK _ _ aS hJ rfl br)
   case o4=>
    have e7:tg a 7= .pointer (some ⟨w.heap.size+1+1,0,none⟩):=ev 7 au;have g0:=jb hJ kH;have g1:=jb hJ kG;have HK:=hid hK;clear hK ev hd;go_simp;exact HK.out _ _ aS hJ rfl br
   case o5=>
    have e91:tg a 91= .agg #[.int .i64 x,.int .i64 y]:=(ev 91 au).trans (hd 4 _ xk rfl);have f91:a.tmps[91]?.getD undef= .agg #[.int .i64 x,.int .i64 y]:=by rw [<-Array.getD_eq_getD_getElem?];exact e91
    have HK:=hid hK;have lY:=hJ.size;clear hK ev hd;go_simp;exact HK.out _ _ aS (hJ.alloc lY _) ⟨_,rfl,World.ownsRow_lit _ _ 1 lY au rfl⟩ (br.alloc (Nat.le_refl _) _)
   case o6=>
    have e15:tg a 15= .slice la m pl:=ev 15 au;have HK:=hid hK;clear hK ev hd;go_simp;exact HK.out _ _ aS hJ rfl br
   case o7=>
    have e2:tg a 2= .int .i64 k:=ev 2 au;have HK:=hid hK;clear hK ev hd;go_simp;exact HK.out _ _ aS hJ rfl br
   case o8=>
    have e93:tg a 93= .slice la m pl:=(ev 93 au).trans (hd 6 _ xk rfl);have e94:tg a 94= .int .i64 k:=(ev 94 au).trans (hd 7 _ xk rfl);exact wH 125 60 (.tmp 93) (.tmp 94) 2 la m pl k da HDA.out rfl Tryz.underlying125 xk e93 e94 QF.out.1 QF.out.2.1 (hK _ _ aS hJ rfl br)
   case o9=>
    obtain ⟨bb,h92,hown⟩:(Yu w6.heap.size [.int .i64 x,.int .i64 y]).holds (u 92) w':=hd 5 _ xk rfl;have e92:tg a 92= .slice (some ⟨bb,0,none⟩) 1 1:=(ev 92 au).trans h92;rw [h92] at hown;have e95:tg a 95= .slice da (m-k) (pl-k):=(ev 95 au).trans (hd 8 _ xk rfl);have lY:=hJ.size;obtain ⟨v',w'',hr,ho,hbw⟩:=Ce (P:=Tryz.prog) w' w6.heap.size 125 _ 60 (.agg #[.int .i64 0,.int .i64 0]) 2 16 Tryz.underlying125 mi rfl au ⟨bb,0,none⟩ 1 [.int .i64 x,.int .i64 y] hown da (m-k) (pl-k) (D.map (Value.int .i64)) (by rw [List.length_map,HLD.out]) HD.out.2 (vJ (HD.out.1.below hJ)) (numCells _) (by have:=HMM.out;omega) au lY;exact rY (rf rfl e92 e95 hr) (hK _ _ aS (hJ.trans (hbw.mono lY)) ho hbw)
   case o10=>
    have e90:tg a 90= .slice la k k:=(ev 90 au).trans (hd 3 _ xk rfl);have ho9:w'.ownsRow w6.heap.size 60 2 (u 96) (1+(m-k)) ([.int .i64 x,.int .i64 y]++D.map (Value.int .i64)):=hd 9 _ xk rfl;obtain ⟨b9,c9,h96⟩:∃b9 c9,u 96= .slice (some ⟨b9,0,none⟩) (1+(m-k)) c9:=by
     obtain ⟨-,⟨-,h0⟩ | ⟨b9,c9,cur,h96,-⟩⟩:=ho9
     . omega
     . exact ⟨b9,c9,h96⟩
    rw [h96] at ho9;have e96:tg a 96= .slice (some ⟨b9,0,none⟩) (1+(m-k)) c9:=(ev 96 au).trans h96;have lY:=hJ.size;obtain ⟨v',w'',hr,ho,hg,-⟩:=oZ (P:=Tryz.prog) w' w6.heap.size 125 _ 60 (.agg #[.int .i64 0,.int .i64 0]) 2 16 Tryz.underlying125 mi rfl au la k (T.map (Value.int .i64)) (by rw [List.length_map,QE.out]) (fun h=>by have:=HN.out h;have:=QF.out;omega) (vJ (HT.out.below hJ)) ⟨b9,0,none⟩ (1+(m-k)) c9 ([.int .i64 x,.int .i64 y]++D.map (Value.int .i64)) (by rw [List.length_append,List.length_map,HLD.out];simp;omega) (World.ownsRow.cells ho9 (g:=b9) rfl) (fun q hq=>(List.mem_append.1 hq).elim (fun h=>by simp only [List.mem_cons,List.not_mem_nil,or_false] at h;rcases h with rfl|rfl<;>rfl) (fun h=>numCells _ q h)) xo (by have:=HMM.out;have:=QF.out;omega) au lY;have hbw:Below w'.heap.size w' w'':=br.grown hg (Nat.le_refl _) (fun k hk=>by cases hk);exact rY (rf rfl e90 e96 hr) (hK _ _ aS (hJ.trans (hbw.mono lY)) ho hbw)
  case fin=>
   intro u2 w7 hJ hG;have ho7:w7.ownsRow w6.heap.size 60 2 (u2 97) (k+(1+(m-k))) (T.map (Value.int .i64)++([.int .i64 x,.int .i64 y]++D.map (Value.int .i64))):=hG 10 _ rfl;rw [show k+(1+(m-k))=m+1 by have:=QF.out;omega,show T.map (Value.int .i64)++([.int .i64 x,.int .i64 y]++D.map (Value.int .i64))=(T++[x,y]++D).map (Value.int .i64) by simp,<-HIN.out] at ho7;obtain ⟨a7,c7,h97,hi7,hb7,-⟩:=ak ho7;have HN7:=hid (fun x (hx:a7=some x)=>(show x.block≠w1.heap.size by have:=(hb7 x hx).1;omega));have HB7:=xv hJ IR;have HI7:=hid hi7;have VT:=hJ.size;simp (disch:=omega) only [jK hJ,rX hJ] at *;replace lQ:=aP hJ lQ;replace bF:=aP hJ bF;replace nR:=aP hJ nR;replace bW:=aP hJ bW;replace qg:=aP hJ qg;replace IK:=aP hJ IK;clear hG hJ ho7 hi7 hb7;simp only [aX,kR,dstsOf,List.take_succ_cons,List.take_zero,List.filterMap_cons,List.filterMap_nil,List.contains_cons,List.contains_nil,Nat.reduceBEq,Bool.or_false,Bool.false_or,Bool.or_true,Bool.true_or,if_true,if_false,Bool.false_eq_true,Nat.reduceAdd,Nat.zero_add,List.drop_succ_cons,List.drop_zero,h97];go_wp2_with fail
   refine (CP.out _ HB7.out).mono ?_;rintro e w8 ⟨rfl,hb8⟩;have adJ:=hb8.size;simp (disch:=omega) only [jK hb8,rX hb8] at *;replace lQ:=aP hb8 lQ;replace bF:=aP hb8 bF;replace nR:=aP hb8 nR;replace bW:=aP hb8 bW;replace qg:=aP hb8 qg;replace IK:=aP hb8 IK;have HB8:=xv hb8 HB7;have HI8:=hid (HI7.out.below hb8);clear hb8 HI7;go_upto_region 20 with (fail)
   generalize qY:w8.setCell _ _=w9;replace lN:w9.cell? ⟨w.heap.size,0,none⟩=some (.int .u8 c.tag):=by rw [<-qY];(exact dC)
   replace lM:w9.cell? ⟨w.heap.size,1,none⟩=some (.int .i64 c.most):=by rw [<-qY];(exact dC)
   replace lL:w9.cell? ⟨w.heap.size,2,none⟩=some (.int .i64 c.ai):=by rw [<-qY];(exact dC)
   replace lK:w9.cell? ⟨w.heap.size,3,none⟩=some (.int .i64 c.least):=by rw [<-qY];(exact dC)
   replace lJ:w9.cell? ⟨w.heap.size,4,none⟩=some (.int .i64 c.den):=by rw [<-qY];(exact dC)
   replace lI:w9.cell? ⟨w.heap.size,5,none⟩=some (.int .i64 c.ll):=by rw [<-qY];(exact dC)
   replace lH:w9.cell? ⟨w.heap.size,6,none⟩=some (.int .i64 c.rl):=by rw [<-qY];(exact dC)
   replace lG:w9.cell? ⟨w.heap.size,7,none⟩=some (.int .i64 c.rh):=by rw [<-qY];(exact dC)
   replace lF:w9.cell? ⟨w.heap.size,8,none⟩=some (.int .i64 c.lh):=by rw [<-qY];(exact dC)
   replace lQ:w.heap.size<w9.heap.size:=by rw [<-qY];(exact gW)
   replace aO:w9.cell? ⟨w.heap.size+1,0,none⟩=some (.int .i64 ai):=by rw [<-qY];(exact dC)
   replace aN:w9.cell? ⟨w.heap.size+1,1,none⟩=some (.slice wa lw wc):=by rw [<-qY];(exact dC)
   replace aK:w9.cell? ⟨w.heap.size+1,2,none⟩=some (.slice ka n kc):=by rw [<-qY];(exact dC)
   replace aU:w9.cell? ⟨w.heap.size+1,3,none⟩=some (.slice va lv vc):=by rw [<-qY];(exact dC)
   replace aT:w9.cell? ⟨w.heap.size+1,4,none⟩=some (.slice ca lc cc):=by rw [<-qY];(exact dC)
   replace aV:w9.cell? ⟨w.heap.size+1,5,none⟩=some (.int .u64 laid):=by rw [<-qY];(exact dC)
   replace bF:w.heap.size+1<w9.heap.size:=by rw [<-qY];(exact gW)
   replace kH:w9.cell? ⟨w.heap.size+1+1,0,none⟩=some (.int .i64 x):=by rw [<-qY];(exact dC)
   replace kG:w9.cell? ⟨w.heap.size+1+1,1,none⟩=some (.int .i64 y):=by rw [<-qY];(exact dC)
   replace nR:w.heap.size+1+1<w9.heap.size:=by rw [<-qY];(exact gW)
   replace a_:w9.cell? ⟨w.heap.size+1+1+1,0,none⟩=some (.int .i64 0):=by rw [<-qY];(exact dC)
   replace bQ:w9.frozen? ⟨w.heap.size+1+1+1,0,none⟩=false:=by rw [<-qY];(exact dC)
   replace aZ:w9.cell? ⟨w.heap.size+1+1+1,1,none⟩=some (.slice none 0 0):=by rw [<-qY];(exact dC)
   replace bP:w9.frozen? ⟨w.heap.size+1+1+1,1,none⟩=false:=by rw [<-qY];(exact dC)
   replace bf:w9.cell? ⟨w.heap.size+1+1+1,2,none⟩=some (.slice none 0 0):=by rw [<-qY];(exact dC)
   replace bT:w9.frozen? ⟨w.heap.size+1+1+1,2,none⟩=false:=by rw [<-qY];(exact dC)
   replace dh:w9.cell? ⟨w.heap.size+1+1+1,3,none⟩=some (.slice none 0 0):=by rw [<-qY];(exact dC)
   replace dQ:w9.frozen? ⟨w.heap.size+1+1+1,3,none⟩=false:=by rw [<-qY];(exact dC)
   replace df:w9.cell? ⟨w.heap.size+1+1+1,4,none⟩=some (.slice none 0 0):=by rw [<-qY];(exact dC)
   replace dP:w9.frozen? ⟨w.heap.size+1+1+1,4,none⟩=false:=by rw [<-qY];(exact dC)
   replace cZ:w9.cell? ⟨w.heap.size+1+1+1,5,none⟩=some (.int .u64 0):=by rw [<-qY];(exact dC)
   replace dO:w9.frozen? ⟨w.heap.size+1+1+1,5,none⟩=false:=by rw [<-qY];(exact dC)
   replace bW:w.heap.size+1+1+1<w9.heap.size:=by rw [<-qY];(exact gW)
   replace zn:w9.cell? ⟨w1.heap.size,0,none⟩=some (.int .i64 size2):=by rw [<-qY];(exact dC)
   replace Dx:w9.frozen? ⟨w1.heap.size,0,none⟩=false:=by rw [<-qY];(exact dC)
   replace qg:w1.heap.size<w9.heap.size:=by rw [<-qY];(exact gW)
   replace Tv:w9.cell? ⟨w3.heap.size,0,none⟩=some (.int .i64 0):=by rw [<-qY];(exact dC)
   replace Zt:w9.frozen? ⟨w3.heap.size,0,none⟩=false:=by rw [<-qY];(exact dC)
   replace WX:w9.cell? ⟨w3.heap.size,1,none⟩=some (.int .i64 0):=by rw [<-qY];(exact dC)
   replace Zr:w9.frozen? ⟨w3.heap.size,1,none⟩=false:=by rw [<-qY];(exact dC)
   replace IK:w3.heap.size<w9.heap.size:=by rw [<-qY];(exact gW)
   have HB9:Hid (Below w.heap.size w w9):=by rw [<-qY];exact hid (HB8.out.setCell dG _)
   have HI9:Hid (aQ .i64 w9 a7 Z):=by rw [<-qY];exact hid (HI8.out.setCell HN7.out _)
   clear qY;have G9:w.heap.size+1+1+1<w9.heap.size:=bW;go_wp2_with fail
   refine (IN.out a7 c7 _ HB9.out HI9.out).mono ?_;rintro e w10 ⟨v1,v2,v3,v4,rfl,p1,p2,p3,p4,hb10⟩;have afz:=hb10.size;simp (disch:=omega) only [jK hb10,rX hb10] at *;replace lQ:=aP hb10 lQ;replace bF:=aP hb10 bF;replace nR:=aP hb10 nR;replace bW:=aP hb10 bW;replace qg:=aP hb10 qg;replace IK:=aP hb10 IK;have ag2:=xv hb10 HB9;obtain ⟨a1,k1,rfl,-,-,-,-,-⟩:=ak p1;obtain ⟨a2,k2,rfl,-,-,-,-,-⟩:=ak p2;obtain ⟨a3,k3,rfl,-,-,-,-,-⟩:=ak p3;obtain ⟨a4,k4,rfl,-,-,-,-,-⟩:=ak p4;have HP:=hid (And.intro p1 (And.intro p2 (And.intro p3 p4)));clear p1 p2 p3 p4 hb10;go_wp2
   simp only [Exit.jump];have HC:=hid (mW ⟨a_,aZ,bf,dh,df,cZ⟩);exact jG (W:=w10) (b:=w.heap.size+1+1+1) [.int .i64 d.ai,.slice a1 d.ws.length k1,.slice a2 d.ks.length k2,.slice a3 d.vs.length k3,.slice a4 d.cs.length k4,.int .u64 d.laid] HC rfl rfl (fun _ h=>aF rfl rfl (ag _ Tryz.underlying29 rfl xk h)) fun _ s=>⟨_,_,_,_,rfl,s.ow G9 HP.out.1,s.ow G9 HP.out.2.1,s.ow G9 HP.out.2.2.1,s.ow G9 HP.out.2.2.2,s.be ag2.out⟩
end
section
open Go.RowKit
theorem Ii (w:World) (ai:Int) (wa ka va ca:Option Addr) (wc kc vc cc lw n lv lc:Nat) (laid:Int) (i:Nat) (hi:i<n)
    (CK:Hid (∀W,Below w.heap.size w W->Calls Tryz.prog 95 #[.agg #[.int .i64 ai,.slice wa lw wc,.slice ka n kc,.slice va lv vc,.slice ca lc cc,.int .u64 laid]] W (aC W (.int .i64 0)))):
    Calls Tryz.prog 113 #[.agg #[.int .i64 ai,.slice wa lw wc,.slice ka n kc,.slice va lv vc,.slice ca lc cc,.int .u64 laid],.int .i64 i] w (aC w (.int .i64 0)):=by
 go_enter Tryz.func113,Tryz.ntmps113
 go_wp2_with fail
 refine (CK.out _ aH).mono ?_;rintro e w1 ⟨rfl,hb1⟩;have aA:=hb1.size;try simp only [World.size_alloc,World.size_setCell] at aA
 have hh:=jl hb1 (jA (b:=w.heap.size) ax);obtain ⟨aO,aN,aK,aU,aT,aV⟩:=hh;have bF:=aP hb1 (bV (b:=w.heap.size) ax);have hB1:Below w.heap.size w w1:=aH;go_wp2
 go_ret
 exact ⟨rfl,hB1⟩
theorem Je (w:World) (ai:Int) (wa ka va ca:Option Addr) (wc kc vc cc lw n lc:Nat) (laid:Int) (c:aW) (i S:Nat) (key val:Int)
    (hseg:c.ai=ai) (hlaid:c.laid=laid) (wF:c.ws.length=lw) (hlk:c.ks.length=n) (hlv:c.vs.length=n) (hlc:c.cs.length=lc) (h1:0<lw) (h2:0<n) (h3:0<lc) (hn:n<=65536) (SC:lw<=65536) (SE:lc<=65536) (hS:ai=S) (hS4:4<=S) (hi:i<n) (hwn:n<=64*lw) (hcn:n=S*lc) (hok:Vu c=true)
    (CK:Hid (∀W,Below w.heap.size w W->Calls Tryz.prog 95 #[.agg #[.int .i64 ai,.slice wa lw wc,.slice ka n kc,.slice va n vc,.slice ca lc cc,.int .u64 laid]] W (aC W (.int .i64 0))))
    (TW:Hid (∀W,Below w.heap.size w W->Calls Tryz.prog 85 #[.agg #[.int .i64 ai,.slice wa lw wc,.slice ka n kc,.slice va n vc,.slice ca lc cc,.int .u64 laid]] W (vk W c))):
    Calls Tryz.prog 64 #[.agg #[.int .i64 ai,.slice wa lw wc,.slice ka n kc,.slice va n vc,.slice ca lc cc,.int .u64 laid],.int .i64 i,.agg #[.int .i64 key,.int .i64 val]] w (dm w (ul c i key val) (.int .i64 0)):=by
 have AK:=hid (fun W (hb:Below w.heap.size w W)=>Ii W ai wa ka va ca wc kc vc cc lw n n lc laid i hi (hid fun W' hb'=>CK.out W' (aj hb' hb hb.size)));have HC:=hid (And.intro hseg (And.intro hlaid (And.intro wF (And.intro hlk (And.intro hlv hlc)))));have HSS:=hid hS;have HCN:=hid hcn;have HOK:=hid hok;clear hseg hlaid wF hlk hlv hlc hS hcn CK hok;go_enter Tryz.func64,Tryz.ntmps64
 go_wp2_with fail
 refine (AK.out _ aH).mono ?_;rintro e w1 ⟨rfl,hb1⟩;have aA:=hb1.size;try simp only [World.size_alloc,World.size_setCell] at aA
 have hh:=jl hb1 (jI (jI (jA (b:=w.heap.size) ax)));obtain ⟨aO,aN,aK,aU,aT,aV⟩:=hh;have bF:=aP hb1 (dB (dB (bV (b:=w.heap.size) ax)));have hh:=bc2 hb1 (OB (TF (b:=w.heap.size+1) ax));obtain ⟨kH,kG⟩:=hh;have nR:=aP hb1 (dB (bV (b:=w.heap.size+1) ax));have hh:=jl hb1 (jA (b:=w.heap.size+1+1) ax);obtain ⟨a_,aZ,bf,dh,df,cZ⟩:=hh;have hh:=Qs hb1 (bV (b:=w.heap.size+1+1) ax) (zB (b:=w.heap.size+1+1) ax);obtain ⟨bQ,bP,bT,dQ,dP,dO⟩:=hh;have bW:=aP hb1 (bV (b:=w.heap.size+1+1) ax);have hB1:Below w.heap.size w w1:=aH;have HB1:=hid hB1;have hz1:w.heap.size+3<=w1.heap.size:=xo;clear hb1 hB1;go_wp2_with fail
 refine (TW.out w1 HB1.out).mono ?_;rintro e w2 ⟨v1,v2,v3,v4,rfl,o1,o2,o3,o4,hb2,hne⟩;obtain ⟨Hw,zY,AO,AP,LQ,Ep⟩:=HC.out;rw [AO] at o1;rw [AP] at o2;rw [LQ] at o3;rw [Ep] at o4;rw [Hw,zY];obtain ⟨g1,k1,rfl,hg1,hg1'⟩:=qW o1 h1;obtain ⟨g2,k2,rfl,hg2,abS⟩:=qW o2 h2;obtain ⟨g3,k3,rfl,hg3,hg3'⟩:=qW o3 h2;obtain ⟨g4,k4,rfl,hg4,afZ⟩:=qW o4 h3;have n23:g2≠g3:=hne g2 g3 rfl rfl;have apart:∀ {e e':TypeId} {g g' n n' k k':Nat} {xs xs':List Value},w2.ownsRow w1.heap.size e 1 (.slice (some ⟨g,0,none⟩) n k) n xs->w2.ownsRow w1.heap.size e' 1 (.slice (some ⟨g',0,none⟩) n' k') n' xs'->e≠e'->g≠g':=by
  intro e e' g g' n n' k k' xs xs' ha hb hc;rcases kQ ha hb hc with h|h
  . cases h
  . intro hgg;exact h (by subst hgg;rfl)
 have n12:=apart o1 o2 au;have n13:=apart o1 o3 au;have n14:=apart o1 o4 au;have n24:=apart o2 o4 au;have n34:=apart o3 o4 au;clear apart hne;have fH:=hb2.size;have D6:Hid (Below w1.heap.size w1 w2):=hid hb2;have HO:=hid (And.intro o1 (And.intro o2 (And.intro o3 o4)));have fH:=hb2.size;simp (disch:=omega) only [jK hb2,rX hb2] at *;replace bF:=aP hb2 bF;replace nR:=aP hb2 nR;replace bW:=aP hb2 bW;clear o1 o2 o3 o4 hb2;go_wp2_with fail
 have hb3:Below w2.heap.size w2 (w2.alloc (.cells #[.int .i64 ai,.slice (some ⟨g1,0,none⟩) lw k1,.slice (some ⟨g2,0,none⟩) n k2,.slice (some ⟨g3,0,none⟩) n k3,.slice (some ⟨g4,0,none⟩) lc k4,.int .u64 laid] 177)):=br.alloc (Nat.le_refl _) _;have hA:xy w1.heap.size (w2.alloc (.cells #[.int .i64 ai,.slice (some ⟨g1,0,none⟩) lw k1,.slice (some ⟨g2,0,none⟩) n k2,.slice (some ⟨g3,0,none⟩) n k3,.slice (some ⟨g4,0,none⟩) lc k4,.int .u64 laid] 177)) w2.heap.size g1 g2 g3 g4 k1 k2 k3 k4 lw n lc c:=by
  unfold xy;rw [Hw,zY];exact ⟨by (exact iP),by (exact iP),by (exact iP),by (exact iP),by (exact iP),by (exact iP),by (exact iP),ay HO.out.1 hb3,ay HO.out.2.1 hb3,ay HO.out.2.2.1 hb3,ay HO.out.2.2.2 hb3⟩
 have HA:=hid hA;have hzz:(w2.alloc (.cells #[.int .i64 ai,.slice (some ⟨g1,0,none⟩) lw k1,.slice (some ⟨g2,0,none⟩) n k2,.slice (some ⟨g3,0,none⟩) n k3,.slice (some ⟨g4,0,none⟩) lc k4,.int .u64 laid] 177)).heap.size=w2.heap.size+1:=by simp
 have HB3:Hid (Below w1.heap.size w1 (w2.alloc (.cells #[.int .i64 ai,.slice (some ⟨g1,0,none⟩) lw k1,.slice (some ⟨g2,0,none⟩) n k2,.slice (some ⟨g3,0,none⟩) n k3,.slice (some ⟨g4,0,none⟩) lc k4,.int .u64 laid] 177))):=hid (D6.out.trans (hb3.mono D6.out.size));generalize w2.alloc (.cells #[.int .i64 ai,.slice (some ⟨g1,0,none⟩) lw k1,.slice (some ⟨g2,0,none⟩) n k2,.slice (some ⟨g3,0,none⟩) n k3,.slice (some ⟨g4,0,none⟩) lc k4,.int .u64 laid] 177)=w3 at *;have kD:=hb3.size;simp (disch:=omega) only [jK hb3,rX hb3] at *;replace bF:=aP hb3 bF;replace nR:=aP hb3 nR;replace bW:=aP hb3 bW;have HNE:Hid (LH w2.heap.size g1 g2 g3 g4):=hid ⟨by omega,by omega,by omega,by omega,n12,n13,n14,n23,n24,n34⟩;have hbb:w1.heap.size<=w2.heap.size:=D6.out.size;have hS':c.ai=(S:Int):=by rw [Hw];exact HSS.out
 have LY:=hid (VP w3 w1.heap.size w2.heap.size g1 g2 g3 g4 k1 k2 k3 k4 lw n lc i S c key val HA.out HNE.out HOK.out hi hn xo SC hS' hS4 (by have:=HCN.out;exact Nat.div_lt_of_lt_mul xo) SE);clear hA hb3 HO n12 n13 n14 n23 n24 n34 Hw zY AO AP LQ Ep D6 hS';have hBw3:Below w.heap.size w w3:=aj HB3.out HB1.out xo;refine LY.out.mono ?_;rintro e w5 ⟨rfl,hA5,hk5⟩;have hB5:=uO HB3.out hk5 xo xo hg1 hg2 hg3 hg4;have Um:=hk5.size;have hAe:=hA5;unfold xy at hAe;obtain ⟨e0,e1,e2,e3,e4,e5,-,p1,p2,p3,p4⟩:=hAe;have l1:=ik p1;have l2:=ik p2;have l3:=ik p3;have l4:=ik p4;generalize ul c i key val=d at *;have hk6:Below w1.heap.size w3 w5:=uO (Below.refl _ w3) hk5 xo xo hg1 hg2 hg3 hg4;have af7:Below w.heap.size w w5:=aj hB5 HB1.out xo;have x8:=hk6.size;try simp only [World.size_alloc,World.size_setCell] at x8
 have ja:w5.cell? ⟨w.heap.size,0,none⟩=some (.int .i64 ai)/\w5.cell? ⟨w.heap.size,1,none⟩=some (.slice wa lw wc)/\w5.cell? ⟨w.heap.size,2,none⟩=some (.slice ka n kc)/\w5.cell? ⟨w.heap.size,3,none⟩=some (.slice va n vc)/\w5.cell? ⟨w.heap.size,4,none⟩=some (.slice ca lc cc)/\w5.cell? ⟨w.heap.size,5,none⟩=some (.int .u64 laid)/\w5.cell? ⟨w.heap.size+1,0,none⟩=some (.int .i64 key)/\w5.cell? ⟨w.heap.size+1,1,none⟩=some (.int .i64 val)/\w5.cell? ⟨w.heap.size+1+1,0,none⟩=some (.int .i64 0)/\w5.cell? ⟨w.heap.size+1+1,1,none⟩=some (.slice none 0 0)/\w5.cell? ⟨w.heap.size+1+1,2,none⟩=some (.slice none 0 0)/\w5.cell? ⟨w.heap.size+1+1,3,none⟩=some (.slice none 0 0)/\w5.cell? ⟨w.heap.size+1+1,4,none⟩=some (.slice none 0 0)/\w5.cell? ⟨w.heap.size+1+1,5,none⟩=some (.int .u64 0):=by refine ⟨?_,?_,?_,?_,?_,?_,?_,?_,?_,?_,?_,?_,?_,?_⟩<;>(refine (hk6.cell ?_).trans ?_<;>first|(exact gW)|(exact dL))
 have jE:w5.frozen? ⟨w.heap.size+1+1,0,none⟩=false/\w5.frozen? ⟨w.heap.size+1+1,1,none⟩=false/\w5.frozen? ⟨w.heap.size+1+1,2,none⟩=false/\w5.frozen? ⟨w.heap.size+1+1,3,none⟩=false/\w5.frozen? ⟨w.heap.size+1+1,4,none⟩=false/\w5.frozen? ⟨w.heap.size+1+1,5,none⟩=false:=by refine ⟨?_,?_,?_,?_,?_,?_⟩<;>(refine (hk6.frozen ?_).trans ?_<;>first|(exact gW)|(exact dL))
 have iZ:w.heap.size<w5.heap.size/\w.heap.size+1<w5.heap.size/\w.heap.size+1+1<w5.heap.size:=by refine ⟨?_,?_,?_⟩<;>(omega)
 clear aO aN aK aU aT aV kH kG a_ aZ bf dh df cZ bQ bP bT dQ dP dO bF nR bW;obtain ⟨aO,aN,aK,aU,aT,aV,kH,kG,a_,aZ,bf,dh,df,cZ⟩:=ja;try clear ja
 obtain ⟨bQ,bP,bT,dQ,dP,dO⟩:=jE;try clear jE
 obtain ⟨bF,nR,bW⟩:=iZ;try clear iZ
 have Ls:=hid p1;have HP2:=hid p2;have Iw:=hid p3;have Lr:=hid p4;clear p1 p2 p3 p4 hA5 hk5;go_wp2
 have HQ:Hid (∀q,q≠w.heap.size+1+1->((((((w5.setCell ⟨w.heap.size+1+1,0,none⟩ (.int .i64 d.ai)).setCell ⟨w.heap.size+1+1,1,none⟩ (.slice (some ⟨g1,0,none⟩) lw k1)).setCell ⟨w.heap.size+1+1,2,none⟩ (.slice (some ⟨g2,0,none⟩) n k2)).setCell ⟨w.heap.size+1+1,3,none⟩ (.slice (some ⟨g3,0,none⟩) n k3)).setCell ⟨w.heap.size+1+1,4,none⟩ (.slice (some ⟨g4,0,none⟩) lc k4)).setCell ⟨w.heap.size+1+1,5,none⟩ (.int .u64 d.laid)).heap[q]? =w5.heap[q]?):=hid fun q hq=>by
  rw [ae _ _ _ hq,ae _ _ _ hq,ae _ _ _ hq,ae _ _ _ hq,ae _ _ _ hq,ae _ _ _ hq]
 refine bodyPost_ret (aF rfl rfl (ag _ Tryz.underlying29 rfl xk (tH a_ aZ bf dh df cZ))) rfl ⟨_,_,_,_,rfl,?_,?_,?_,?_,?_⟩
 . rw [l1];exact az (af Ls.out fun j hj=>HQ.out j (by have:=(Ls.out.lt j hj).1;omega)) xo
 . rw [l2];exact az (af HP2.out fun j hj=>HQ.out j (by have:=(HP2.out.lt j hj).1;omega)) xo
 . rw [l3];exact az (af Iw.out fun j hj=>HQ.out j (by have:=(Iw.out.lt j hj).1;omega)) xo
 . rw [l4];exact az (af Lr.out fun j hj=>HQ.out j (by have:=(Lr.out.lt j hj).1;omega)) xo
 . exact (((((af7.setCell dG _).setCell dG _).setCell dG _).setCell dG _).setCell dG _).setCell dG _
theorem pV.Nb {c:bY} {s:aW} {a H:Nat} (k:pV c s a H):4<=2^a/\2^a<=64/\s.cs.length<=65536/\s.ks.length<=65536/\1<=s.ks.length/\H<=14:=by
 have ha4:2^2<=2^a:=Nat.pow_le_pow_right xo k.cap.a2;have ha6:2^a<=2^6:=Nat.pow_le_pow_right xo k.cap.a6;have hb:=k.cap.big;have h9:1*2^H<=2^a*2^H:=Nat.mul_le_mul_right _ xo;have:=k.nc;have:=k.nk;have:=Nat.two_pow_pos H;exact ⟨by omega,by omega,by omega,by omega,by omega,k.cap.EZ⟩
theorem abz {c:bY} {s:aW} {a H h at_:Nat} (k:pV c s a H) (hu:fB s.ws) (hh:h<=H) (hat:at_<s.ks.length):0<=Qa s a h at_/\Qa s a h at_<=((2^(a+h):Nat):Int)/\2^(a+h)<=65536:=by
 rw [NP k hu hh hat];have h1:=oH s.ws (dJ a h at_*2^(a+h)) ((dJ a h at_+1)*2^(a+h));rw [Nat.succ_mul,Nat.add_sub_cancel_left] at h1;have h2:2^(a+h)<=2^(a+H):=Nat.pow_le_pow_right xo xo;have h3:2^(a+H)<=65536:=by rw [Nat.pow_add];exact k.cap.big
 rw [Nat.succ_mul];omega
theorem pV.win {c:bY} {s:aW} {a H:Nat} (k:pV c s a H) (hs:s.ai=c.ai):Lm s.ai s.ks.length a H:=⟨k.ai,k.cap.all,k.cap.a2,k.cap.a6,k.cap.big⟩
theorem TC {c:bY} {s:aW} {a H h at_:Nat} (k:pV c s a H) (hu:fB s.ws) (sa:jJ) (hcc:s.cs.length<=sa.cc) (hh:h<=H) (hat:at_<s.ks.length) (w:World) (hin:iy w s sa):
    Calls Tryz.prog 96 #[jB s sa,.int .i64 ((dJ a h at_*2^(a+h):Nat):Int),.int .i64 (((dJ a h at_*2^(a+h):Nat):Int)+((2^(a+h):Nat):Int))] w (aC w (.int .i64 (Qa s a h at_))):=by
 obtain ⟨p1,p2,p3,p4,p5,p6⟩:=k.Nb;have b:=tq hh (by rw [<-k.nk];exact hat);have e:=AZ a h at_;have hp0:=Nat.two_pow_pos h;have hlt:dJ a h at_*2^h<(dJ a h at_+1)*2^h:=by rw [Nat.succ_mul];omega
 refine ve s sa (2^a) (dJ a h at_*2^h) ((dJ a h at_+1)*2^h) k.ai p1 p2 _ _ ?_ ?_ xo (by rw [k.nc];exact b.1) (by rw [k.nc];exact Nat.lt_of_lt_of_le hlt b.1) hcc p3 k.cnt w hin
 . rw [e.1]
 . rw [<-e.2.1,<-e.2.2];push_cast;rfl
theorem Xi {c:bY} {s:aW} {a H h at_:Nat} (k:pV c s a H) (hu:fB s.ws) (sa:jJ) (hcc:s.cs.length<=sa.cc) (hh:h<=H) (hat:at_<s.ks.length) (w:World) (hin:iy w s sa):
    Calls Tryz.prog 96 #[jB s sa,.int .i64 0,.int .i64 ((dJ a h at_*2^(a+h):Nat):Int)] w (aC w (.int .i64 (dD s.ws 0 (dJ a h at_*2^(a+h)):Nat))):=by
 obtain ⟨p1,p2,p3,p4,p5,p6⟩:=k.Nb;obtain ⟨g,-⟩:=lU k hu;have b:=tq hh (by rw [<-k.nk];exact hat);have e:=AZ a h at_;have hp0:=Nat.two_pow_pos h;have hlt:dJ a h at_*2^h<(dJ a h at_+1)*2^h:=by rw [Nat.succ_mul];omega
 have hle:dJ a h at_*2^h<=2^H:=xo;have:=ve s sa (2^a) 0 (dJ a h at_*2^h) k.ai p1 p2 0 ((dJ a h at_*2^(a+h):Nat):Int) ax (by rw [e.1]) (Nat.zero_le _) (by rw [k.nc];exact hle) (by rw [k.nc];exact Nat.two_pow_pos H) hcc p3 k.cnt w hin;rwa [vH g (Nat.zero_le _) hle,Nat.zero_mul,<-e.1] at this
theorem TD {c:bY} {s:aW} {a H:Nat} (k:pV c s a H) (hu:fB s.ws) (sa:jJ) (hcc:s.cs.length<=sa.cc) (w:World) (hin:iy w s sa):
    Calls Tryz.prog 96 #[jB s sa,.int .i64 0,.int .i64 s.ks.length] w (aC w (.int .i64 (fC s))):=by
 obtain ⟨p1,p2,p3,p4,p5,p6⟩:=k.Nb;have:=ve s sa (2^a) 0 s.cs.length k.ai p1 p2 0 s.ks.length ax (by rw [k.nk,k.nc,Nat.mul_comm]) (Nat.zero_le _) (Nat.le_refl _) (by rw [k.nc];exact Nat.two_pow_pos H) hcc p3 k.cnt w hin;rwa [ql k hu] at this
theorem J3:∀args w,(callFunc 115 args).run Tryz.prog w= .ok (.enter 115 args) w:=enters_of Tryz.func115 xk rfl
theorem MR {c:bY} {a:Nat} (h:c.ai=((2^a:Nat):Int)):sgL c=a:=by
 rw [sgL,h,Int.toNat_natCast,Nat.log2_two_pow]
theorem adE {c:bY} {s:aW} {a H:Nat} (k:pV c s a H):j_ s.ws s.ks.length=true:=by
 have h:=k.may;simp only [fV,mV,Bool.and_eq_true] at h;exact h.1.1.1.2
theorem SN (c:bY) (s:aW) (sa:jJ) (hl:s.ws.length<=9223372036854775807) (hl2:s.ks.length<=1000000000000) (hcc:s.cs.length<=sa.cc) (k x y:Int) (w:World) (hin:iy w s sa) (hT:TabAt w):
    Calls Tryz.prog 65 #[.agg #[.int .u8 c.tag,.int .i64 c.most,.int .i64 c.ai,.int .i64 c.least,.int .i64 c.den,.int .i64 c.ll,.int .i64 c.rl,.int .i64 c.rh,.int .i64 c.lh],jB s sa,.int .i64 k,.agg #[.int .i64 x,.int .i64 y]] w (dm w (qI c s k (x,y)) (.int .i64 (rF c s k))):=by
 have CK:Hid (∀W,Below w.heap.size w W->Calls Tryz.prog 50 #[.agg #[.int .u8 c.tag,.int .i64 c.most,.int .i64 c.ai,.int .i64 c.least,.int .i64 c.den,.int .i64 c.ll,.int .i64 c.rl,.int .i64 c.rh,.int .i64 c.lh],jB s sa] W (aC W (.int .i64 (kY c s)))):=hid fun W hb=>zX c s sa hl hl2 hcc W (hin.below hb)
 by_cases h0:kY c s=0
 . rw [h0] at CK;obtain ⟨hc,a,H,kn,hs,lq,hden⟩:=nD h0;obtain ⟨g,-⟩:=lU kn hin.u;obtain ⟨p1,p2,p3,p4,p5,p6⟩:=kn.Nb;rw [ql kn hin.u] at lq;have AM:Hid (∀W,Below w.heap.size w W->Calls Tryz.prog 96 #[jB s sa,.int .i64 0,.int .i64 s.ks.length] W (aC W (.int .i64 (fC s)))):=hid fun W hb=>TD kn hin.u sa hcc W (hin.below hb)
   have hcf:=dw (dK hc);by_cases hk:k<0
   . have e:rF c s k=2:=by rw [rF,if_pos h0,if_pos (.inl hk)]
     rw [qI,e,if_neg au];exact Wu c s.ai _ _ _ _ _ _ _ _ _ _ _ _ _ k x y _ hk w CK AM
   . by_cases hm:(fC s:Int)<k
     . have e:rF c s k=2:=by rw [rF,if_pos h0,if_pos (.inr hm)]
       rw [qI,e,if_neg au];exact Wx c s.ai _ _ _ _ _ _ _ _ _ _ _ _ _ k x y _ hk hm w CK AM
     . by_cases hf:(fC s:Int)=c.most
       . have e:rF c s k=9:=by rw [rF,if_pos h0,if_neg xo,if_pos hf]
         rw [qI,e,if_neg au];exact SY c s.ai _ _ _ _ _ _ _ _ _ _ _ _ _ k x y _ hk hm hf w CK AM
       . have e:rF c s k=0:=by rw [rF,if_pos h0,if_neg xo,if_neg hf]
         rw [qI,e,if_pos rfl,MR kn.cap.ai,kn.cap.hgt];obtain ⟨n,rfl⟩:∃n:Nat,k=n:=⟨k.toNat,by omega⟩
         rw [Int.toNat_natCast];have hn:n<=fC s:=xo;have hmn:fC s<=s.ks.length:=by have:=oH s.ws 0 s.ks.length;unfold fC;omega
         have hat:=Dk p5 n;have HM:Hid (∀W,Below w.heap.size w W->Calls Tryz.prog 117 #[jB s sa,.int .i64 n] W (aC W (.int .i64 (fJ s n:Nat)))):=hid fun W hb=>by
          refine YX s.ai _ _ _ _ _ _ _ _ _ _ _ _ _ n (fJ s n) (Nz s.ws s.ks.length (n-1)) xo W (hid fun W' hb'=> ?_);have:=Xv sa.wa sa.wc s.ws hin.u s.ks.length (n-1) p4 xo hl (adE kn) W' ((hin.below hb).below hb').w ((hT.below hb).below hb');have ev:Ny s.ws s.ks.length (n-1)=(fJ s n:Nat):=by
           unfold Ny fJ;split
           . rfl
           . rename_i hq
             rw [List.getD_eq_getElem?_getD,List.getElem?_eq_none xo];rfl
          rwa [ev] at this
         have hov:∀h,EP c s a H (fJ s n) h= !qL c H h (Qa s a h (fJ s n)+1):=fun h=>rfl
         have HH0:=hid (fun lo hi=>G_ (s:=s) (k:=n) (lo:=lo) (hi:=hi) p5 hn);unfold Yk;generalize fJ s n=at_ at *;have HI:Hid (∀W b2,Below w.heap.size w W->W.cell? ⟨w.heap.size,0,none⟩=some (.int .u8 c.tag)->W.cell? ⟨w.heap.size,1,none⟩=some (.int .i64 c.most)->W.cell? ⟨w.heap.size,2,none⟩=some (.int .i64 c.ai)->W.cell? ⟨w.heap.size,3,none⟩=some (.int .i64 c.least)->W.cell? ⟨w.heap.size,4,none⟩=some (.int .i64 c.den)->W.cell? ⟨w.heap.size,5,none⟩=some (.int .i64 c.ll)->W.cell? ⟨w.heap.size,6,none⟩=some (.int .i64 c.rl)->W.cell? ⟨w.heap.size,7,none⟩=some (.int .i64 c.rh)->W.cell? ⟨w.heap.size,8,none⟩=some (.int .i64 c.lh)->W.cell? ⟨b2,0,none⟩=some (.int .i64 s.ks.length)->Calls Tryz.prog 116 #[jB s sa,.int .i64 at_,.func (.func 115) #[] #[.pointer (some ⟨w.heap.size,0,none⟩),.pointer (some ⟨b2,0,none⟩)]] W (QD W a at_ H (pJ (EP c s a H at_) (H+1)))):=hid fun W b2 hb q0 q1 q2 q3 q4 q5 q6 q7 q8 q9=>by
          refine N7 s.ai _ _ _ _ _ _ _ _ _ _ _ _ _ a H at_ p6 (EP c s a H at_) (fun h=>Qa s a h at_) 115 _ J3 W (hid fun W' hb'=> ?_) (hid fun h hh W' hb'=> ?_) (hid fun h hh W' hb'=> ?_)
          . exact Z8 s.ai s.ks.length a H (kn.win hs) at_ xo W'
          . exact TC kn hin.u sa hcc hh hat W' ((hin.below hb).below hb')
          . have b:=abz kn hin.u hh hat;have cc:∀ {p:Addr} {v:Value},W.cell? p=some v->W'.cell? p=some v:=fun h=>(hb'.cell (World.block_lt_of_cell? _ _ h)).trans h
            exact U5 c s.ks.length h (Qa s a h at_) (qL c H h (Qa s a h at_+1)) (inB c h (Qa s a h at_+1)) w.heap.size b2 xo W' (cc q0) (cc q1) (cc q2) (cc q3) (cc q4) (cc q5) (cc q6) (cc q7) (cc q8) (cc q9) (hid fun W'' ajB=>QI c s.ks.length a H h kn.cap hh (Qa s a h at_+1) xo xo W'')
         by_cases ht:pJ (EP c s a H at_) (H+1)=H
         . rw [if_pos ht];have hLn:(b_ s 0 s.ks.length).length=fC s:=cO _ _ _;have hcap:=zh kn (n:=fC s+1) xo;have hil:(insL (b_ s 0 s.ks.length) n (x,y)).length=fC s+1:=by rw [mg (by rw [hLn];exact hn),hLn]
           refine SX c s.ai _ _ _ _ _ _ _ _ _ _ _ _ _ a H at_ n (2^a*zi c (fC s+1)) x y _ _ (b_ s 0 s.ks.length) (by rw [hLn];omega) (by rw [hLn];exact hn) _ hm hf p6 ht w CK AM HM HI (hid fun W hb=> ?_) (hid fun W hb=> ?_) (hid fun la pl W hb hla=> ?_)
           . have:=sW s sa hl hl2 0 s.ks.length W (hin.below hb);have pe:iR s 0 s.ks.length=0:=by rw [iR,if_pos kn.may,if_pos xo]
             rw [Gv,pe,if_pos rfl] at this;exact this
           . have:=acT c hc (fC s+1:Nat) xo xo W;rw [hLn];rwa [hcap.2.1] at this
           . have:=aae g kn.may sa (zi c (fC s+1)) hcap.2.2.1 (pO a) hcap.2.2.2.2.2 hcap.2.2.2.1 (insL (b_ s 0 s.ks.length) n (x,y)) (by rw [hil];exact hcap.2.2.2.2.1) la pl W (hin.below hb) hla;rw [hil] at this;rw [hLn];exact this
         . rw [if_neg ht];obtain ⟨h,eh,hh,hroom⟩:=Cm kn hin.u hat ht;have hht:(pJ (EP c s a H at_) (H+1)+1).toNat=h:=xo;simp only [hht];have b:=tq (a:=a) hh (by rw [<-kn.nk];exact hat);have e3:=AZ a h at_;have hhi:(dJ a h at_+1)*2^(a+h)<=s.ks.length:=by rw [kn.nk];exact b.2.2.2
           have hlo0:dJ a h at_*2^(a+h)<=at_:=b.2.1;have hhi0:at_<(dJ a h at_+1)*2^(a+h):=b.2.2.1;obtain ⟨k1,k2⟩:=HH0.out _ _ hlo0 hhi0 hhi;have hlen:=cO s (dJ a h at_*2^(a+h)) ((dJ a h at_+1)*2^(a+h));have hAH:=fun W (hb:Below w.heap.size w W)=>Xi kn hin.u sa hcc hh hat W (hin.below hb)
           rw [<-e3.2.2] at hhi hhi0 k2 hlen hroom ⊢;have hil:(insL (b_ s (dJ a h at_*2^(a+h)) ((dJ a h at_*2^(a+h))+2^(a+h))) (n-dD s.ws 0 (dJ a h at_*2^(a+h))) (x,y)).length=(b_ s (dJ a h at_*2^(a+h)) ((dJ a h at_*2^(a+h))+2^(a+h))).length+1:=mg k2 _;have hc2:=oH s.ws (dJ a h at_*2^(a+h)) ((dJ a h at_*2^(a+h))+2^(a+h));refine SS c s.ai _ _ _ _ _ _ _ _ _ _ _ _ _ a H h at_ n (n-dD s.ws 0 (dJ a h at_*2^(a+h))) x y _ _ (dD s.ws 0 (dJ a h at_*2^(a+h)):Nat) _ hm hf hh p6 eh ht xo xo w CK AM HM HI (hid hAH) (hid fun W hb=> ?_);rw [show ((dJ a h at_*2^(a+h):Nat):Int)+((2^(a+h):Nat):Int)=((dJ a h at_*2^(a+h)+2^(a+h):Nat):Int) from (Int.natCast_add _ _).symm];refine TI s.ai sa.wa sa.ka sa.va sa.ca sa.wc sa.kc sa.vc sa.cc s.ws.length s.ks.length s.vs.length s.cs.length s.laid (dJ a h at_*2^(a+h)) ((dJ a h at_*2^(a+h))+2^(a+h)) (n-dD s.ws 0 (dJ a h at_*2^(a+h))) x y (b_ s (dJ a h at_*2^(a+h)) ((dJ a h at_*2^(a+h))+2^(a+h))) xo k2 xo xo (Az s (dJ a h at_*2^(a+h)) ((dJ a h at_*2^(a+h))+2^(a+h)) (insL (b_ s (dJ a h at_*2^(a+h)) ((dJ a h at_*2^(a+h))+2^(a+h))) (n-dD s.ws 0 (dJ a h at_*2^(a+h))) (x,y))) W (hid fun W' hb'=> ?_) (hid fun la pl W' hb' hla=> ?_)
           . have:=sW s sa hl hl2 (dJ a h at_*2^(a+h)) ((dJ a h at_*2^(a+h))+2^(a+h):Nat) W' ((hin.below hb).below hb');have pe:iR s (dJ a h at_*2^(a+h)) ((dJ a h at_*2^(a+h))+2^(a+h):Nat)=0:=by rw [iR,if_pos kn.may,if_pos ⟨Int.natCast_nonneg _,Int.ofNat_le.2 (Nat.le_add_right _ _),Int.ofNat_le.2 hhi⟩]
             rw [Gv,pe,if_pos rfl] at this;exact this
           . have:=PQ g kn.may sa (dJ a h at_*2^(a+h)) ((dJ a h at_*2^(a+h))+2^(a+h)) xo hhi (insL (b_ s (dJ a h at_*2^(a+h)) ((dJ a h at_*2^(a+h))+2^(a+h))) (n-dD s.ws 0 (dJ a h at_*2^(a+h))) (x,y)) (by rw [hil];omega) la pl W' ((hin.below hb).below hb') hla;rw [hil] at this;exact this
 . have e:rF c s k=kY c s:=by rw [rF,if_neg h0]
   rw [qI,e,if_neg h0];exact Wv c s.ai _ _ _ _ _ _ _ _ _ _ _ _ _ k x y _ h0 w CK
end
section
open Go.RowKit Go.Shelf Go.Sort
end
section
open Go.RowKit Go.Shelf Go.Sort
attribute [local go_sem] Oper.semAt_some
end
section
open Go.RowKit Go.Shelf
attribute [local go_sem] Oper.semAt_some
structure AtI (Z b4 b5 B:Nat) (w:World) (k:Nat) (W:World):Prop where
 zero:k=0
 c0:W.cell? ⟨b4,0,none⟩=some (.int .i64 0)
 c1:W.cell? ⟨b4,1,none⟩=some (.int .i64 0)
 e0:W.cell? ⟨b5,0,none⟩=some (.int .i64 0)
 f0:W.frozen? ⟨b4,0,none⟩=false
 f1:W.frozen? ⟨b4,1,none⟩=false
 g0:W.frozen? ⟨b5,0,none⟩=false
 bel:Below B w W
 big:Z<=W.heap.size
theorem AtI.calm {Z b4 b5 B M:Nat} {w:World} {k:Nat} {W W':World} (h:AtI Z b4 b5 B w k W) (hc:Calm M W W') (hB:B<=M):AtI Z b4 b5 B w k W':=
  ⟨h.zero,hc.cell h.c0,hc.cell h.c1,hc.cell h.e0,hc.frozen h.c0 h.f0,hc.frozen h.c1 h.f1,hc.frozen h.e0 h.g0,hc.below hB h.bel,Nat.le_trans h.big hc.size⟩
structure AtX (x y:Int) (m b4 b5 B:Nat) (w:World) (c:Code) (W:World):Prop where
 code:c= .ret
 hit:m≠0
 c0:W.cell? ⟨b4,0,none⟩=some (.int .i64 x)
 c1:W.cell? ⟨b4,1,none⟩=some (.int .i64 y)
 e0:W.cell? ⟨b5,0,none⟩=some (.int .i64 0)
 bel:Below B w W
theorem AtX.calm {x y:Int} {m b4 b5 B M:Nat} {w:World} {c:Code} {W W':World} (h:AtX x y m b4 b5 B w c W) (hc:Calm M W W') (hB:B<=M):AtX x y m b4 b5 B w c W':=
  ⟨h.code,h.hit,hc.cell h.c0,hc.cell h.c1,hc.cell h.e0,hc.below hB h.bel⟩
end
section
open Go.RowKit
theorem Jq {c:bY} {s:aW} {k:Int} (h:rF c s k=0):kY c s=0/\0<=k/\k<=fC s/\(fC s:Int)≠c.most:=by
 unfold rF at h;by_cases h0:kY c s=0
 . rw [if_pos h0] at h;by_cases h1:k<0\/(fC s:Int)<k
   . rw [if_pos h1] at h;omega
   . rw [if_neg h1] at h;by_cases h2:(fC s:Int)=c.most
     . rw [if_pos h2] at h;omega
     . exact ⟨h0,by omega,by omega,h2⟩
 . rw [if_neg h0] at h;exact absurd h h0
theorem take_zero {c:bY} {s:aW} {k:Int} (h:adq c s k=0):kY c s=0/\0<=k/\k<fC s:=by
 unfold adq at h;by_cases h0:kY c s=0
 . rw [if_pos h0] at h;by_cases h1:k<0\/(fC s:Int)<=k
   . rw [if_pos h1] at h;omega
   . exact ⟨h0,by omega,by omega⟩
 . rw [if_neg h0] at h;exact absurd h h0
theorem Hm {d:aW} {S n lc:Nat} (g:fQ d S ((n+63)/64) n lc):d.ws.length<=1000000/\d.ks.length<=1000000/\d.vs.length<=1000000/\d.cs.length<=1000000/\fB d.ws:=by
 have h1:=g.AO;have h2:=g.AP;have h3:=g.LQ;have h4:=g.Ep;have h5:=g.cn;have h6:=g.s4;have h7:=g.nm;have h9:1*lc<=S*lc:=Nat.mul_le_mul_right _ xo;exact ⟨by omega,by omega,by omega,by omega,g.u⟩
theorem CX:rG.ws.length<=1000000/\rG.ks.length<=1000000/\rG.vs.length<=1000000/\rG.cs.length<=1000000/\fB rG.ws:=
  ⟨Nat.zero_le _,Nat.zero_le _,Nat.zero_le _,Nat.zero_le _,fun x hx=>by cases hx⟩
theorem abm {c:bY} {s:aW} (hu:fB s.ws) {k:Int} (p:Int×Int) (h:rF c s k=0):∃S n lc,fQ (qI c s k p) S ((n+63)/64) n lc:=by
 obtain ⟨h0,k0,k1,k2⟩:=Jq h;obtain ⟨hc,a,H,kn,hs,lq,hden⟩:=nD h0;rw [ql kn hu] at lq;obtain ⟨g,wF⟩:=lU kn hu;obtain ⟨p1,p2,p3,p4,p5,p6⟩:=kn.Nb;obtain ⟨n,rfl⟩:∃n:Nat,k=n:=⟨k.toNat,by omega⟩
 have hn:n<=fC s:=xo;have hat:=Dk p5 n;rw [qI,if_pos h,MR kn.cap.ai,kn.cap.hgt,Int.toNat_natCast];unfold Yk;by_cases ht:pJ (EP c s a H (fJ s n)) (H+1)=H
 . rw [if_pos ht];have hLn:(b_ s 0 s.ks.length).length=fC s:=cO _ _ _;have hil:(insL (b_ s 0 s.ks.length) n p).length=fC s+1:=by rw [mg (by rw [hLn];exact hn),hLn]
   have hcap:=zh kn (n:=fC s+1) xo;exact ⟨_,_,_,(ou p1 p2 hcap.2.2.1 hcap.2.2.2.1 s.laid).sp (Nat.zero_le _) (Nat.le_refl _) (by rw [hil];have:=hcap.2.2.2.2.1;omega)⟩
 . rw [if_neg ht];obtain ⟨h',eh,hh,hroom⟩:=Cm kn hu hat ht;have hht:(pJ (EP c s a H (fJ s n)) (H+1)+1).toNat=h':=xo;simp only [hht];have b:=tq (a:=a) (at_:=fJ s n) hh (by rw [<-kn.nk];exact hat);have hhi:(dJ a h' (fJ s n)+1)*2^(a+h')<=s.ks.length:=by rw [kn.nk];exact b.2.2.2
   obtain ⟨q1,q2⟩:=G_ p5 hn b.2.1 b.2.2.1 hhi;have hil:=mg q2 p;have hpl:=cO s (dJ a h' (fJ s n)*2^(a+h')) ((dJ a h' (fJ s n)+1)*2^(a+h'));have eww:(dJ a h' (fJ s n)+1)*2^(a+h')=dJ a h' (fJ s n)*2^(a+h')+2^(a+h'):=Nat.succ_mul _ _;exact ⟨_,_,_,g.sp xo hhi (by rw [hil,hpl];omega)⟩
theorem U4 (c:bY) (s:aW) (hu:fB s.ws) (k:Int) (p:Int×Int):(qI c s k p).ws.length<=1000000/\(qI c s k p).ks.length<=1000000/\(qI c s k p).vs.length<=1000000/\(qI c s k p).cs.length<=1000000/\fB (qI c s k p).ws:=by
 by_cases h:rF c s k=0
 . obtain ⟨_,_,_,g⟩:=abm hu p h;exact Hm g
 . rw [qI,if_neg h];exact CX
theorem RU (c:bY):(lW c).ws.length<=1000000/\(lW c).ks.length<=1000000/\(lW c).vs.length<=1000000/\(lW c).cs.length<=1000000/\fB (lW c).ws:=by
 unfold lW;split
 . rename_i h
   obtain ⟨S,M,h1,h2,h4,h6,hM,hm,-,-⟩:=C9 h;rw [y9 h1 h2 h4];exact Hm (ou h4 h6 hM hm 0)
 . exact CX
theorem Ux {S M:Nat} (h4:4<=S) (h6:S<=64) (hM:1<=M) (hm:S*M<=65536) (laid:Int) {L:List (Int×Int)} (hL:L.length<=S*M):(zH S M laid L).ks.length=S*M/\b_ (zH S M laid L) 0 (S*M)=L:=by
 have g:=ou h4 h6 hM hm laid;exact ⟨(g.sp (Nat.zero_le _) (Nat.le_refl _) xo).AP,aaw g (Nat.zero_le _) (Nat.le_refl _) xo⟩
theorem Yi {c:bY} {s:aW} (hu:fB s.ws) {k:Int} (p:Int×Int) (h:rF c s k=0):
    kY c (qI c s k p)=0/\b_ (qI c s k p) 0 (qI c s k p).ks.length=insL (b_ s 0 s.ks.length) k.toNat p:=by
 obtain ⟨h0,k0,k1,k2⟩:=Jq h;obtain ⟨hc,a,H,kn,hs,lq,hden⟩:=nD h0;rw [ql kn hu] at lq;have hlt:(fC s:Int)<c.most:=xo;obtain ⟨g,wF⟩:=lU kn hu;obtain ⟨p1,p2,p3,p4,p5,p6⟩:=kn.Nb;obtain ⟨n,rfl⟩:∃n:Nat,k=n:=⟨k.toNat,by omega⟩
 have hn:n<=fC s:=xo;have hat:=Dk p5 n;rw [qI,if_pos h,MR kn.cap.ai,kn.cap.hgt,Int.toNat_natCast];unfold Yk;by_cases ht:pJ (EP c s a H (fJ s n)) (H+1)=H
 . rw [if_pos ht];have hLn:(b_ s 0 s.ks.length).length=fC s:=cO _ _ _;have hil:(insL (b_ s 0 s.ks.length) n p).length=fC s+1:=by rw [mg (by rw [hLn];exact hn),hLn]
   have hcap:=zh kn (n:=fC s+1) xo;have hd:=ZR hc kn.cap.ai s.laid (L:=insL (b_ s 0 s.ks.length) n p) (by rw [hil];omega);rw [hil] at hd;obtain ⟨w1,w2⟩:=Ux p1 p2 hcap.2.2.1 hcap.2.2.2.1 s.laid (L:=insL (b_ s 0 s.ks.length) n p) (by rw [hil];exact hcap.2.2.2.2.1);exact ⟨hd,by rw [w1];exact w2⟩
 . rw [if_neg ht];obtain ⟨h',eh,hh,hroom⟩:=Cm kn hu hat ht;have hht:(pJ (EP c s a H (fJ s n)) (H+1)+1).toNat=h':=xo;simp only [hht];have b:=tq (a:=a) (at_:=fJ s n) hh (by rw [<-kn.nk];exact hat);have hhi:(dJ a h' (fJ s n)+1)*2^(a+h')<=s.ks.length:=by rw [kn.nk];exact b.2.2.2
   obtain ⟨q1,q2⟩:=G_ p5 hn b.2.1 b.2.2.1 hhi;have hil:=mg q2 p;have hpl:=cO s (dJ a h' (fJ s n)*2^(a+h')) ((dJ a h' (fJ s n)+1)*2^(a+h'));have eww:(dJ a h' (fJ s n)+1)*2^(a+h')=dJ a h' (fJ s n)*2^(a+h')+2^(a+h'):=Nat.succ_mul _ _;have hlh:dJ a h' (fJ s n)*2^(a+h')<=(dJ a h' (fJ s n)+1)*2^(a+h'):=xo;have hd:=Yj kn hu hden hlt hat eh hh (L:=insL (b_ s (dJ a h' (fJ s n)*2^(a+h')) ((dJ a h' (fJ s n)+1)*2^(a+h'))) (n-dD s.ws 0 (dJ a h' (fJ s n)*2^(a+h'))) p) (by rw [hil,hpl];rfl) (by rw [hil,hpl];exact hroom);refine ⟨hd,?_⟩;generalize dJ a h' (fJ s n)*2^(a+h')=lo at *;generalize (dJ a h' (fJ s n)+1)*2^(a+h')=hi at *;have hL:(insL (b_ s lo hi) (n-dD s.ws 0 lo) p).length<=hi-lo:=by rw [hil,hpl];omega
   rw [(g.sp hlh hhi hL).AP,abn g hlh hhi hL,mY s (Nat.zero_le lo) (Nat.le_trans hlh hhi),mY s hlh hhi,<-List.append_assoc];have e0:=cO s 0 lo;rw [VR (A:=b_ s 0 lo) (B:=b_ s lo hi) (C:=b_ s hi s.ks.length) (by rw [e0];exact q1) (by rw [e0];exact q2),e0]
theorem Ri {l:List (Int×Int)} (h:AU l) (key:Int):(∀p ∈ l.take (qM l key),p.1<key)/\∀p ∈ l.drop (qM l key),key<=p.1:=by
 induction l with
 | nil=>exact ⟨fun p hp=>by simp at hp,fun p hp=>by simp at hp⟩
 | cons q t ih=>
  obtain ⟨h1,h2⟩:=List.pairwise_cons.1 h;obtain ⟨a,b⟩:=ih h2;by_cases hq:q.1<key
  . have e:qM (q::t) key=qM t key+1:=by rw [qM,List.countP_cons_of_pos (by simpa using hq)];rfl
    rw [e,List.take_succ_cons,List.drop_succ_cons];refine ⟨fun p hp=> ?_,b⟩;rcases List.mem_cons.1 hp with rfl|hp
    . exact hq
    . exact a p hp
  . have e:qM (q::t) key=0:=by
      rw [qM,List.countP_eq_zero];intro p hp;rcases List.mem_cons.1 hp with rfl|hp
      . simpa using hq
      . have:=h1 p hp;simp;omega
    rw [e,List.take_zero,List.drop_zero];refine ⟨fun p hp=>by simp at hp,fun p hp=> ?_⟩;rcases List.mem_cons.1 hp with rfl|hp
    . omega
    . have:=h1 p hp;omega
theorem JY {l:List (Int×Int)} {key:Int} (h:∀p ∈ l,p.1≠key):kZ l key=none:=by
 rw [kZ,List.find?_eq_none];intro p hp;simpa using h p hp
theorem Ht {l:List (Int×Int)} {key:Int} (h:kZ l key=none):∀p ∈ l,p.1≠key:=by
 rw [kZ,List.find?_eq_none] at h;intro p hp;simpa using h p hp
theorem GU {A B:List (Int×Int)} {key val:Int} (hr:AU (A++B)) (ha:∀p ∈ A,p.1<key) (hb:∀p ∈ B,key<p.1):
    AU (A++(key,val)::B)/\kZ (A++(key,val)::B) key=some (key,val)/\kZ (A++B) key=none/\∀o,o≠key->kZ (A++(key,val)::B) o=kZ (A++B) o:=by
 obtain ⟨r1,r2,r3⟩:=AU.apart hr;have hA:kZ A key=none:=JY fun p hp e=>by have:=ha p hp;omega
 have hB:kZ B key=none:=JY fun p hp e=>by have:=hb p hp;omega
 refine ⟨List.pairwise_append.2 ⟨r1,List.pairwise_cons.2 ⟨fun q hq=>hb q hq,r2⟩,fun p hp q hq=> ?_⟩,?_,?_,fun o ho=> ?_⟩
 . rcases List.mem_cons.1 hq with rfl|hq
   . exact ha p hp
   . exact r3 p hp q hq
 . rw [kZ] at hA ⊢;rw [List.find?_append,hA];simp
 . rw [kZ] at hA hB ⊢;rw [List.find?_append,hA,hB];rfl
 . rw [kZ,List.find?_append,List.find?_cons_of_neg (by simpa using fun e=>ho e.symm),kZ,List.find?_append]
theorem adt {l:List (Int×Int)} (h:AU l):MZ l=true:=by
 rw [MZ,List.all_eq_true];intro i hi;rw [List.mem_range] at hi;rw [Jm];rcases Nat.eq_zero_or_pos i with rfl|h0
 . simp
 . have:=List.pairwise_iff_getElem.1 h (i-1) i xo hi xo;simp [List.getD_eq_getElem?_getD,List.getElem?_eq_getElem hi,List.getElem?_eq_getElem (show i-1<l.length by omega),this]
theorem Nr {c:bY} {d:aW} (h:kY c d=0) (hr:AU (b_ d 0 d.ks.length)):qR c d=0:=by
 obtain ⟨hc,a,H,kn,hs,lq,hden⟩:=nD h;rw [qR,if_pos h,fE,if_pos kn.may,if_pos (adt hr)]
theorem Va {s:aW} {key:Int} (h:fE s=0):∃A B,b_ s 0 s.ks.length=A++B/\A.length=uk s key/\(∀p ∈ A,p.1<key)/\∀p ∈ B,key<=p.1:=by
 have hb:=K_ h key;obtain ⟨h1,h2⟩:=Ri (oK h) key;refine ⟨(b_ s 0 s.ks.length).take (uk s key),(b_ s 0 s.ks.length).drop (uk s key),(List.take_append_drop _ _).symm,?_,by rw [<-hb];exact h1,by rw [<-hb];exact h2⟩;have:=U0 s key;have e:=cO s 0 s.ks.length;unfold fC at this;rw [List.length_take];omega
theorem YM {c:bY} {s:aW} {i:Nat} (hu:fB s.ws) (h:kY c s=0) (hi:i<s.ks.length) (hb:bG s.ws i=true) (x y:Int):kY c (ul s i x y)=0/\(ul s i x y).ks.length=s.ks.length/\fB (ul s i x y).ws/\b_ (ul s i x y) 0 s.ks.length=b_ s 0 i++(x,y)::b_ s (i+1) s.ks.length/\b_ s 0 s.ks.length=b_ s 0 i++(s.ks.getD i 0,s.vs.getD i 0)::b_ s (i+1) s.ks.length:=by
 obtain ⟨hc,a,H,kn,hs,lq,hden⟩:=nD h;rw [ql kn hu] at lq;obtain ⟨g,wF⟩:=lU kn hu;have g2:=g.ly hi x y;have hbit:∀j,bG (ul s i x y).ws j=bG s.ws j:=fun j=>by
  rw [VL g hi];by_cases hj:j=i
  . rw [hj,hb];rfl
  . simp [hj]
 have hcw:∀u v,dD (ul s i x y).ws u v=dD s.ws u v:=fun u v=>DJ fun j _ _=>hbit j
 have hg:kY c (ul s i x y)=0:=by
  refine yf kn.cap g2 (by rw [hcw];exact lq) fun h hh j hj=> ?_
  have:=(DD g).1 hden h hh j hj;unfold uq at this ⊢;rw [hcw];exact this
 have hp:=(Na g hi hb).2;refine ⟨hg,g2.AP,g2.u,?_,hp⟩;have out:∀j,j≠i->bG (ul s i x y).ws j=bG s.ws j/\(ul s i x y).ks.getD j 0=s.ks.getD j 0/\(ul s i x y).vs.getD j 0=s.vs.getD j 0:=fun j hj=>⟨hbit j,(GX (fun e=>hj e.symm) x y).1,(GX (fun e=>hj e.symm) x y).2⟩
 obtain ⟨a1,a2⟩:=aaB (c:=s) hi (by rw [kn.nv,<-kn.nk];exact hi) x y;rw [mY _ (Nat.zero_le i) (Nat.le_of_lt hi),mY _ (Nat.le_succ i) hi,Gt,if_pos (by rw [hbit];exact hb),a1,a2,xK (d:=s) (a:=0) (b:=i) fun j _ hj=>out j xo,xK (d:=s) (a:=i+1) fun j hj _=>out j xo];rfl
theorem Ve {c:bY} {s:aW} {key val:Int} (hu:fB s.ws) (h:kz c s key=0):
    qR c (iK c s key val)=0/\kZ (b_ (iK c s key val) 0 (iK c s key val).ks.length) key=some (key,val)/\(∀o,o≠key->kZ (b_ (iK c s key val) 0 (iK c s key val).ks.length) o=kZ (b_ s 0 s.ks.length) o)/\(b_ (iK c s key val) 0 (iK c s key val).ks.length).length=(b_ s 0 s.ks.length).length+if hasB s key=true then 0 else 1:=by
 have h0:qR c s=0:=by
  unfold kz at h;split at h
  . assumption
  . exact absurd h (by assumption)
 obtain ⟨hg,hs⟩:=lS h0;have hr:=oK hs;rw [iK,if_pos h];cases hb:hasB s key with
 | true=>
  obtain ⟨-,h1,h2,h3,-⟩:=Hg hs hb;obtain ⟨e1,e2,-,e3,e4⟩:=YM hu hg h1 h2 key val;rw [h3] at e4;rw [e4] at hr;obtain ⟨r1,r2,r3⟩:=AU.apart hr;obtain ⟨r4,r5⟩:=List.pairwise_cons.1 r2;have hAB:AU (b_ s 0 (xM s key)++b_ s (xM s key+1) s.ks.length):=List.pairwise_append.2 ⟨r1,r5,fun p hp q hq=>r3 p hp q (List.mem_cons_of_mem _ hq)⟩;have ha:∀p ∈ b_ s 0 (xM s key),p.1<key:=fun p hp=>r3 p hp _ (List.mem_cons_self ..)
  obtain ⟨m1,m2,-,m4⟩:=GU (val:=val) hAB ha r4;obtain ⟨-,-,-,n4⟩:=GU (val:=s.vs.getD (xM s key) 0) hAB ha r4;rw [if_pos rfl,e2,e3];refine ⟨Nr e1 (by rw [e2,e3];exact m1),m2,fun o ho=>by rw [m4 o ho,e4,n4 o ho],by rw [e4];simp⟩
 | false=>
  have hp0:rF c s (uk s key)=0:=by
   rw [PH h0];unfold kz at h;rw [if_pos h0,hb] at h;simpa using h
  obtain ⟨e1,e2⟩:=Yi hu (key,val) hp0;obtain ⟨A,B,q1,q2,q3,q4⟩:=Va (key:=key) hs;have hn:=Ht (Wn hs hb).2;rw [q1] at hr hn;obtain ⟨m1,m2,-,m4⟩:=GU (val:=val) hr q3 fun p hp=>by
   have:=q4 p hp;have:=hn p (List.mem_append_right _ hp);omega
  have e3:insL (b_ s 0 s.ks.length) (uk s key) (key,val)=A++(key,val)::B:=by
   rw [q1,insL,<-q2,List.take_left,List.drop_left]
  rw [Int.toNat_natCast,e3] at e2;rw [if_neg ax,e2];exact ⟨Nr e1 (by rw [e2];exact m1),m2,fun o ho=>by rw [m4 o ho,q1],by rw [q1];simp;omega⟩
theorem yP (c:bY) (s:aW) (hu:fB s.ws) (key val:Int):(iK c s key val).ws.length<=1000000/\(iK c s key val).ks.length<=1000000/\(iK c s key val).vs.length<=1000000/\(iK c s key val).cs.length<=1000000/\fB (iK c s key val).ws:=by
 by_cases h:kz c s key=0
 . rw [iK,if_pos h];cases hb:hasB s key with
   | true=>
    rw [if_pos rfl];have h0:qR c s=0:=by
     by_cases h0:qR c s=0
     . exact h0
     . rw [kz,if_neg h0] at h;exact h
    obtain ⟨hg,hs⟩:=lS h0;obtain ⟨hc,a,H,kn,hsg,lq,hden⟩:=nD hg;obtain ⟨g,-⟩:=lU kn hu;exact Hm (g.ly (Hg hs hb).2.1 key val)
   | false=>rw [if_neg au];exact U4 c s hu _ _
 . rw [iK,if_neg h];exact CX
end
section
open Go.RowKit Go.Shelf Go.Sort
def acs (x:Int×Int) (e v:Int):Bool:=if x.2=e then x.1==v else false
theorem Xh {x:Int×Int} {e v:Int} (h:x=(v,e)):acs x e v=true:=by
 rw [h,acs,if_pos rfl];simp
end
section
open Go.RowKit
theorem QV {c:bY} (h:gQ c=true):ig c ((0:Nat):Int)=c.least:=by
 obtain ⟨d0,d1,d2,d3,d4,d5,d6,d7,d8,d9,d10,d11,d12,d13,Fq,Et,Fp,Es⟩:=dw (dK h);have hp:0<=c.rh*c.least:=Int.mul_nonneg xo xo;show (if c.rh*c.least<((0:Nat):Int)*c.den then mQ c ((0:Nat):Int) 19 (2*c.least) else c.least)=c.least;rw [if_neg];have:((0:Nat):Int)*c.den=0:=by simp
 omega
theorem XV (n i:Nat):bG (List.replicate n 0) i=false:=by
 have:(List.replicate n (0:Int)).getD (i/64) 0=0:=by
  rw [List.getD_eq_getElem?_getD,List.getElem?_replicate];split<;>rfl
 rw [bG,this];exact qc _
theorem DI (n a b:Nat):dD (List.replicate n 0) a b=0:=by
 unfold dD;rw [List.countP_eq_zero];intro i _;rw [XV];decide
theorem YE {c:bY} (h:gQ c=true):qR c (lW c)=0/\(b_ (lW c) 0 (lW c).ks.length).length=0:=by
 have hd:=dK h;have f:=nG hd;obtain ⟨s1,s2,a,ea⟩:=r_ f.2.2.2.2.1;have dn:=dw hd;obtain ⟨H,k,ok,-⟩:=Ky (a:=a) h (by rw [ea]) (n:=0) xo;rw [QV h] at k ok;have hH:=Nat.two_pow_pos H;have h4:4<=2^a:=Nat.pow_le_pow_right (n:=2) xo k.a2;have h6:2^a<=64:=Nat.pow_le_pow_right (n:=2) xo k.a6;have g:=ou h4 h6 hH k.big 0;have e:lW c=qG (2^a) (2^H) 0:=by rw [lW,if_pos h,y9 k.ai k.all h4]
 have hcl:=k.all;rw [hcl] at k ok;have hp:(b_ (qG (2^a) (2^H) 0) 0 (qG (2^a) (2^H) 0).ks.length).length=0:=by rw [cO];exact DI _ _ _
 rw [e];refine ⟨Nr (yf k g ?_ fun j hj i hi=> ?_) ?_,hp⟩
 . have:dD (qG (2^a) (2^H) 0).ws 0 (2^a*2^H)=0:=DI _ _ _;omega
 . have e0:(uq (qG (2^a) (2^H) 0).ws a j i:Int)=((0:Nat):Int):=by
     have:uq (qG (2^a) (2^H) 0).ws a j i=0:=DI _ _ _;rw [this]
   rw [e0];rcases Nat.eq_or_lt_of_le hj with q|q
   . rw [q];exact ok
   . exact CV k q (Nat.le_refl H) ok (by have:=Nat.two_pow_pos (H-j);omega) (by have:=Nat.two_pow_pos (H-j);omega)
 . rw [List.length_eq_zero_iff.1 hp];exact List.Pairwise.nil
def Uu (first step:Int) (i:Nat):Int:=first+(i:Int)*step
structure OI (c:bY) (first step:Int) (i:Nat) (d:aW):Prop where
 may:qR c d=0
 len:(b_ d 0 d.ks.length).length=i
 has:∀j,j<i->kZ (b_ d 0 d.ks.length) (Uu first step j)=some (Uu first step j,(j:Int))
 none:∀o,(∀j,j<i->o≠Uu first step j)->kZ (b_ d 0 d.ks.length) o=none
 u:fB d.ws
 num:d.ws.length<=1000000/\d.ks.length<=1000000/\d.vs.length<=1000000/\d.cs.length<=1000000
theorem Ut {first step:Int} (hs:step≠0) {i j:Nat} (h:i≠j):Uu first step i≠Uu first step j:=by
 intro e;unfold Uu at e;have e2:(i:Int)*step=(j:Int)*step:=xo;have:=Int.eq_of_mul_eq_mul_right hs e2;omega
theorem OI.VA {c:bY} {first step:Int} {i:Nat} {d:aW} (w:OI c first step i d) (hs:step≠0):hasB d (Uu first step i)=false:=by
 rw [hasB,w.none _ fun j hj=>Ut hs xo];rfl
theorem OI.many {c:bY} {first step:Int} {i:Nat} {d:aW} (w:OI c first step i d):fC d=i:=by
 rw [<-w.len,cO];rfl
theorem OI.le {c:bY} {first step:Int} {i:Nat} {d:aW} (w:OI c first step i d):(i:Int)<=c.most:=by
 obtain ⟨hc,a,H,kn,hsg,lq,hden⟩:=nD (lS w.may).1;rw [ql kn w.u,w.many] at lq;exact lq
theorem OI.full {c:bY} {first step:Int} {i:Nat} {d:aW} (w:OI c first step i d) (hs:step≠0) (hm:c.most<=(i:Int)):kz c d (Uu first step i)=9:=by
 have:=w.le;rw [kz,if_pos w.may,w.VA hs,if_neg au,w.many,if_pos xo]
theorem OI.room {c:bY} {first step:Int} {i:Nat} {d:aW} (w:OI c first step i d) (hs:step≠0) (hm:(i:Int)<c.most):kz c d (Uu first step i)=0:=by
 rw [kz,if_pos w.may,w.VA hs,if_neg au,w.many,if_neg xo]
theorem OI.next {c:bY} {first step:Int} {i:Nat} {d:aW} (w:OI c first step i d) (hs:step≠0) (hm:(i:Int)<c.most):OI c first step (i+1) (iK c d (Uu first step i) i):=by
 obtain ⟨p1,p2,p3,p4⟩:=Ve (val:=(i:Int)) w.u (w.room hs hm);have n:=yP c d w.u (Uu first step i) i;refine ⟨p1,by rw [p4,w.len,w.VA hs];rfl,fun j hj=> ?_,fun o ho=> ?_,n.2.2.2.2,n.1,n.2.1,n.2.2.1,n.2.2.2.1⟩
 . rcases Nat.eq_or_lt_of_le (Nat.lt_succ_iff.1 hj) with q|q
   . subst q;exact p2
   . rw [p3 _ (Ut hs xo)];exact w.has j q
 . rw [p3 o (ho i (Nat.lt_succ_self i))];exact w.none o fun j hj=>ho j xo
theorem OI.size {c:bY} {first step:Int} {i:Nat} {d:aW} (w:OI c first step i d):acs (szV c d) 0 i=true:=
  Xh (by rw [aa_ w.may,w.len])
end
end Go.Proofs.YtbedhbpgnfffmaaGreatDoor

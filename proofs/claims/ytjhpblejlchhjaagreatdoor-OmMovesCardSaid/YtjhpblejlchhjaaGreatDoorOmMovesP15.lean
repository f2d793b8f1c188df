/- Merged: GPut. -/
import Derived.Test.YtjhpblejlchhjaaGreatDoorOmMovesP14
import Derived.Test.YtjhpblejlchhjaaGreatDoorOmMovesP11
namespace Go.Proofs.YtjhpblejlchhjaaGreatDoor
set_option maxRecDepth 100000
set_option maxHeartbeats 40000000
set_option linter.unusedVariables false
set_option linter.unusedSimpArgs false
section
open Go.RowKit Go.Shelf Go.Sort
attribute [local go_sem] Oper.semAt_some
def hiR (base a at_ H:Nat) (t:Int):FactR RB:=⟨fun v w=>∃y,v= .tuple #[.int .i64 t,y]∧w.ownsRow base 122 2 y (H+1) ((prI (winsL a at_ (H+1))).map (Value.int .i64)),fun _ _ _ h ⟨y,e,h1⟩=>⟨y,e,owns_below h1 h⟩⟩
def paR (base a at_ H:Nat):FactR RB:=⟨fun v w=>w.ownsRow base 122 2 v (H+1) ((prI (winsL a at_ (H+1))).map (Value.int .i64)),fun _ _ _ h h1=>owns_below h1 h⟩
def sl2R (base:Nat) (c:SlC) (x:Value):FactR RB:=⟨fun v w=>∃y,v= .tuple #[y,x]∧(FactR.sl base c).holds y w,fun _ _ _ h ⟨y,e,h1⟩=>⟨y,e,(FactR.sl base c).stays _ _ _ h h1⟩⟩
theorem gPut_err (c:Cfg) (seg:Int) (wa ka va ca:Option Addr) (wc kc vc cc lw n lv lc:Nat) (laid:Int) (k x y e:Int) (he:e≠0) (w:World) (CK:Hid (∀W,Below w.heap.size w W→Calls Tryz.prog 51 #[.agg #[.int .u8 c.tag,.int .i64 c.most,.int .i64 c.seg,.int .i64 c.least,.int .i64 c.den,.int .i64 c.ll,.int .i64 c.rl,.int .i64 c.rh,.int .i64 c.lh],.agg #[.int .i64 seg,.slice wa lw wc,.slice ka n kc,.slice va lv vc,.slice ca lc cc,.int .u64 laid]] W (AnsB W (.int .i64 e)))):
    Calls Tryz.prog 59 #[.agg #[.int .u8 c.tag,.int .i64 c.most,.int .i64 c.seg,.int .i64 c.least,.int .i64 c.den,.int .i64 c.ll,.int .i64 c.rl,.int .i64 c.rh,.int .i64 c.lh],.agg #[.int .i64 seg,.slice wa lw wc,.slice ka n kc,.slice va lv vc,.slice ca lc cc,.int .u64 laid],.int .i64 k,.agg #[.int .i64 x,.int .i64 y]] w (FreshSl2 w ⟨0,[],[],[],[],0⟩ (.int .i64 e)):=by
 have ge:(e != 0)=true:=by simpa using he
 clear he;go_enter Tryz.func59,Tryz.ntmps59
 go_wp2
 refine wp_scope_fwd 0 rfl ?_;go_wp2_with fail
 refine (CK.out _ xbel).mono ?_;rintro e w1 ⟨rfl,hb1⟩;have hz_w1:=hb1.size;try simp only [World.size_alloc,World.size_setCell] at hz_w1
 have hh:=bc9 hb1 (au9 (au9 (au9 (al9 (b:=w.heap.size) xsi))));obtain ⟨c_m0,c_m1,c_m2,c_m3,c_m4,c_m5,c_m6,c_m7,c_m8⟩:=hh;have z_m:=blt hb1 (auz (auz (auz (alz (b:=w.heap.size) xsi))));have hh:=bc6 hb1 (au6 (au6 (al6 (b:=w.heap.size+1) xsi)));obtain ⟨c_t0,c_t1,c_t2,c_t3,c_t4,c_t5⟩:=hh;have z_t:=blt hb1 (auz (auz (alz (b:=w.heap.size+1) xsi)));have hh:=bc2 hb1 (au2 (al2 (b:=w.heap.size+1+1) xsi));obtain ⟨c_p0,c_p1⟩:=hh;have z_p:=blt hb1 (auz (alz (b:=w.heap.size+1+1) xsi));have hh:=bc6 hb1 (al6 (b:=w.heap.size+1+1+1) xsi);obtain ⟨c_r0,c_r1,c_r2,c_r3,c_r4,c_r5⟩:=hh;have hh:=bf6 hb1 (alz (b:=w.heap.size+1+1+1) xsi) (alf6 (b:=w.heap.size+1+1+1) xsi);obtain ⟨f_r0,f_r1,f_r2,f_r3,f_r4,f_r5⟩:=hh;have z_r:=blt hb1 (alz (b:=w.heap.size+1+1+1) xsi);have hB1:Below w.heap.size w w1:=xbel;have HB1:=hid hB1;have hz1:w.heap.size+1+1+1<w1.heap.size:=z_r;clear hb1 hB1;go_wp2
 simp only [Exit.jump];have HC:=hid (six_some ⟨c_r0,c_r1,c_r2,c_r3,c_r4,c_r5⟩);exact end_row (W:=w1) (b:=w.heap.size+1+1+1) [.int .i64 0,.slice none 0 0,.slice none 0 0,.slice none 0 0,.slice none 0 0,.int .u64 0] HC rfl rfl (fun _ h=>results_ct rfl rfl (run_loadVar_many _ Tryz.underlying29 rfl xk h)) fun _ s=>⟨_,_,_,_,rfl,World.ownsRow_nil _ _ _ _,World.ownsRow_nil _ _ _ _,World.ownsRow_nil _ _ _ _,World.ownsRow_nil _ _ _ _,s.be HB1.out⟩
theorem gPut_neg (c:Cfg) (seg:Int) (wa ka va ca:Option Addr) (wc kc vc cc lw n lv lc:Nat) (laid:Int) (k x y many:Int) (hk:k<0) (w:World) (CK:Hid (∀W,Below w.heap.size w W→Calls Tryz.prog 51 #[.agg #[.int .u8 c.tag,.int .i64 c.most,.int .i64 c.seg,.int .i64 c.least,.int .i64 c.den,.int .i64 c.ll,.int .i64 c.rl,.int .i64 c.rh,.int .i64 c.lh],.agg #[.int .i64 seg,.slice wa lw wc,.slice ka n kc,.slice va lv vc,.slice ca lc cc,.int .u64 laid]] W (AnsB W (.int .i64 0)))) (AM:Hid (∀W,Below w.heap.size w W→Calls Tryz.prog 68 #[.agg #[.int .i64 seg,.slice wa lw wc,.slice ka n kc,.slice va lv vc,.slice ca lc cc,.int .u64 laid],.int .i64 0,.int .i64 n] W (AnsB W (.int .i64 many)))):
    Calls Tryz.prog 59 #[.agg #[.int .u8 c.tag,.int .i64 c.most,.int .i64 c.seg,.int .i64 c.least,.int .i64 c.den,.int .i64 c.ll,.int .i64 c.rl,.int .i64 c.rh,.int .i64 c.lh],.agg #[.int .i64 seg,.slice wa lw wc,.slice ka n kc,.slice va lv vc,.slice ca lc cc,.int .u64 laid],.int .i64 k,.agg #[.int .i64 x,.int .i64 y]] w (FreshSl2 w ⟨0,[],[],[],[],0⟩ (.int .i64 2)):=by
 have g1:decide (k<0)=true:=by simpa using hk
 go_enter Tryz.func59,Tryz.ntmps59
 go_wp2
 refine wp_scope_fwd 0 rfl ?_;go_wp2_with fail
 refine (CK.out _ xbel).mono ?_;rintro e w1 ⟨rfl,hb1⟩;have hz_w1:=hb1.size;try simp only [World.size_alloc,World.size_setCell] at hz_w1
 have hh:=bc9 hb1 (au9 (au9 (au9 (al9 (b:=w.heap.size) xsi))));obtain ⟨c_m0,c_m1,c_m2,c_m3,c_m4,c_m5,c_m6,c_m7,c_m8⟩:=hh;have z_m:=blt hb1 (auz (auz (auz (alz (b:=w.heap.size) xsi))));have hh:=bc6 hb1 (au6 (au6 (al6 (b:=w.heap.size+1) xsi)));obtain ⟨c_t0,c_t1,c_t2,c_t3,c_t4,c_t5⟩:=hh;have z_t:=blt hb1 (auz (auz (alz (b:=w.heap.size+1) xsi)));have hh:=bc2 hb1 (au2 (al2 (b:=w.heap.size+1+1) xsi));obtain ⟨c_p0,c_p1⟩:=hh;have z_p:=blt hb1 (auz (alz (b:=w.heap.size+1+1) xsi));have hh:=bc6 hb1 (al6 (b:=w.heap.size+1+1+1) xsi);obtain ⟨c_r0,c_r1,c_r2,c_r3,c_r4,c_r5⟩:=hh;have hh:=bf6 hb1 (alz (b:=w.heap.size+1+1+1) xsi) (alf6 (b:=w.heap.size+1+1+1) xsi);obtain ⟨f_r0,f_r1,f_r2,f_r3,f_r4,f_r5⟩:=hh;have z_r:=blt hb1 (alz (b:=w.heap.size+1+1+1) xsi);have hB1:Below w.heap.size w w1:=xbel;have HB1:=hid hB1;have hz1:w.heap.size+1+1+1<w1.heap.size:=z_r;clear hb1 hB1;go_upto_region 5 with (fail)
 generalize hw2:w1.alloc _=w2;have hh:=ec9 hw2 (au9 (⟨c_m0,c_m1,c_m2,c_m3,c_m4,c_m5,c_m6,c_m7,c_m8⟩));clear c_m0 c_m1 c_m2 c_m3 c_m4 c_m5 c_m6 c_m7 c_m8;obtain ⟨c_m0,c_m1,c_m2,c_m3,c_m4,c_m5,c_m6,c_m7,c_m8⟩:=hh;replace z_m:=elt hw2 (auz (z_m));have hh:=ec6 hw2 (au6 (⟨c_t0,c_t1,c_t2,c_t3,c_t4,c_t5⟩));clear c_t0 c_t1 c_t2 c_t3 c_t4 c_t5;obtain ⟨c_t0,c_t1,c_t2,c_t3,c_t4,c_t5⟩:=hh;replace z_t:=elt hw2 (auz (z_t));have hh:=ec2 hw2 (au2 (⟨c_p0,c_p1⟩));clear c_p0 c_p1;obtain ⟨c_p0,c_p1⟩:=hh;replace z_p:=elt hw2 (auz (z_p));have hh:=ec6 hw2 (au6 (⟨c_r0,c_r1,c_r2,c_r3,c_r4,c_r5⟩));clear c_r0 c_r1 c_r2 c_r3 c_r4 c_r5;obtain ⟨c_r0,c_r1,c_r2,c_r3,c_r4,c_r5⟩:=hh;have hh:=ef6 hw2 (auf6 z_r ⟨f_r0,f_r1,f_r2,f_r3,f_r4,f_r5⟩);clear f_r0 f_r1 f_r2 f_r3 f_r4 f_r5;obtain ⟨f_r0,f_r1,f_r2,f_r3,f_r4,f_r5⟩:=hh;replace z_r:=elt hw2 (auz (z_r));have c_z0:=ec1 hw2 (al1 (b:=w1.heap.size) xsi);have f_z0:=ef1 hw2 (alf1 (b:=w1.heap.size) xsi);have z_z:=elt hw2 (alz (b:=w1.heap.size) xsi);have hb2:Below w1.heap.size w1 w2:=by rw [←hw2];exact br.alloc (Nat.le_refl _) _
 have HB2:=xv hb2 HB1;clear hw2 hb2;go_wp2_with fail
 refine (AM.out _ HB2.out).mono ?_;rintro e w3 ⟨rfl,hb3⟩;have hz_w3:=hb3.size;simp (disch:=omega) only [xcl hb3,xfr hb3] at *;replace z_m:=blt hb3 z_m;replace z_t:=blt hb3 z_t;replace z_p:=blt hb3 z_p;replace z_r:=blt hb3 z_r;replace z_z:=blt hb3 z_z;have HB3:=xv hb3 HB2;have hz3r:w.heap.size+1+1+1<w3.heap.size:=z_r;have hz3z:w1.heap.size<w3.heap.size:=z_z;clear hb3;go_wp2
 simp only [Exit.jump];have HC:=hid (six_some ⟨c_r0,c_r1,c_r2,c_r3,c_r4,c_r5⟩);exact end_row (W:=w3) (b:=w.heap.size+1+1+1) [.int .i64 0,.slice none 0 0,.slice none 0 0,.slice none 0 0,.slice none 0 0,.int .u64 0] HC rfl rfl (fun _ h=>results_ct rfl rfl (run_loadVar_many _ Tryz.underlying29 rfl xk h)) fun _ s=>⟨_,_,_,_,rfl,World.ownsRow_nil _ _ _ _,World.ownsRow_nil _ _ _ _,World.ownsRow_nil _ _ _ _,World.ownsRow_nil _ _ _ _,s.be HB3.out⟩
theorem gPut_arg (c:Cfg) (seg:Int) (wa ka va ca:Option Addr) (wc kc vc cc lw n lv lc:Nat) (laid:Int) (k x y many:Int) (hk:¬k<0) (hm:many<k) (w:World) (CK:Hid (∀W,Below w.heap.size w W→Calls Tryz.prog 51 #[.agg #[.int .u8 c.tag,.int .i64 c.most,.int .i64 c.seg,.int .i64 c.least,.int .i64 c.den,.int .i64 c.ll,.int .i64 c.rl,.int .i64 c.rh,.int .i64 c.lh],.agg #[.int .i64 seg,.slice wa lw wc,.slice ka n kc,.slice va lv vc,.slice ca lc cc,.int .u64 laid]] W (AnsB W (.int .i64 0)))) (AM:Hid (∀W,Below w.heap.size w W→Calls Tryz.prog 68 #[.agg #[.int .i64 seg,.slice wa lw wc,.slice ka n kc,.slice va lv vc,.slice ca lc cc,.int .u64 laid],.int .i64 0,.int .i64 n] W (AnsB W (.int .i64 many)))):
    Calls Tryz.prog 59 #[.agg #[.int .u8 c.tag,.int .i64 c.most,.int .i64 c.seg,.int .i64 c.least,.int .i64 c.den,.int .i64 c.ll,.int .i64 c.rl,.int .i64 c.rh,.int .i64 c.lh],.agg #[.int .i64 seg,.slice wa lw wc,.slice ka n kc,.slice va lv vc,.slice ca lc cc,.int .u64 laid],.int .i64 k,.agg #[.int .i64 x,.int .i64 y]] w (FreshSl2 w ⟨0,[],[],[],[],0⟩ (.int .i64 2)):=by
 have g1:decide (k<0)=false:=by simpa using hk
 have g2:decide (many<k)=true:=by simpa using hm
 go_enter Tryz.func59,Tryz.ntmps59
 go_wp2
 refine wp_scope_fwd 0 rfl ?_;go_wp2_with fail
 refine (CK.out _ xbel).mono ?_;rintro e w1 ⟨rfl,hb1⟩;have hz_w1:=hb1.size;try simp only [World.size_alloc,World.size_setCell] at hz_w1
 have hh:=bc9 hb1 (au9 (au9 (au9 (al9 (b:=w.heap.size) xsi))));obtain ⟨c_m0,c_m1,c_m2,c_m3,c_m4,c_m5,c_m6,c_m7,c_m8⟩:=hh;have z_m:=blt hb1 (auz (auz (auz (alz (b:=w.heap.size) xsi))));have hh:=bc6 hb1 (au6 (au6 (al6 (b:=w.heap.size+1) xsi)));obtain ⟨c_t0,c_t1,c_t2,c_t3,c_t4,c_t5⟩:=hh;have z_t:=blt hb1 (auz (auz (alz (b:=w.heap.size+1) xsi)));have hh:=bc2 hb1 (au2 (al2 (b:=w.heap.size+1+1) xsi));obtain ⟨c_p0,c_p1⟩:=hh;have z_p:=blt hb1 (auz (alz (b:=w.heap.size+1+1) xsi));have hh:=bc6 hb1 (al6 (b:=w.heap.size+1+1+1) xsi);obtain ⟨c_r0,c_r1,c_r2,c_r3,c_r4,c_r5⟩:=hh;have hh:=bf6 hb1 (alz (b:=w.heap.size+1+1+1) xsi) (alf6 (b:=w.heap.size+1+1+1) xsi);obtain ⟨f_r0,f_r1,f_r2,f_r3,f_r4,f_r5⟩:=hh;have z_r:=blt hb1 (alz (b:=w.heap.size+1+1+1) xsi);have hB1:Below w.heap.size w w1:=xbel;have HB1:=hid hB1;have hz1:w.heap.size+1+1+1<w1.heap.size:=z_r;clear hb1 hB1;go_upto_region 5 with (fail)
 generalize hw2:w1.alloc _=w2;have hh:=ec9 hw2 (au9 (⟨c_m0,c_m1,c_m2,c_m3,c_m4,c_m5,c_m6,c_m7,c_m8⟩));clear c_m0 c_m1 c_m2 c_m3 c_m4 c_m5 c_m6 c_m7 c_m8;obtain ⟨c_m0,c_m1,c_m2,c_m3,c_m4,c_m5,c_m6,c_m7,c_m8⟩:=hh;replace z_m:=elt hw2 (auz (z_m));have hh:=ec6 hw2 (au6 (⟨c_t0,c_t1,c_t2,c_t3,c_t4,c_t5⟩));clear c_t0 c_t1 c_t2 c_t3 c_t4 c_t5;obtain ⟨c_t0,c_t1,c_t2,c_t3,c_t4,c_t5⟩:=hh;replace z_t:=elt hw2 (auz (z_t));have hh:=ec2 hw2 (au2 (⟨c_p0,c_p1⟩));clear c_p0 c_p1;obtain ⟨c_p0,c_p1⟩:=hh;replace z_p:=elt hw2 (auz (z_p));have hh:=ec6 hw2 (au6 (⟨c_r0,c_r1,c_r2,c_r3,c_r4,c_r5⟩));clear c_r0 c_r1 c_r2 c_r3 c_r4 c_r5;obtain ⟨c_r0,c_r1,c_r2,c_r3,c_r4,c_r5⟩:=hh;have hh:=ef6 hw2 (auf6 z_r ⟨f_r0,f_r1,f_r2,f_r3,f_r4,f_r5⟩);clear f_r0 f_r1 f_r2 f_r3 f_r4 f_r5;obtain ⟨f_r0,f_r1,f_r2,f_r3,f_r4,f_r5⟩:=hh;replace z_r:=elt hw2 (auz (z_r));have c_z0:=ec1 hw2 (al1 (b:=w1.heap.size) xsi);have f_z0:=ef1 hw2 (alf1 (b:=w1.heap.size) xsi);have z_z:=elt hw2 (alz (b:=w1.heap.size) xsi);have hb2:Below w1.heap.size w1 w2:=by rw [←hw2];exact br.alloc (Nat.le_refl _) _
 have HB2:=xv hb2 HB1;clear hw2 hb2;go_wp2_with fail
 refine (AM.out _ HB2.out).mono ?_;rintro e w3 ⟨rfl,hb3⟩;have hz_w3:=hb3.size;simp (disch:=omega) only [xcl hb3,xfr hb3] at *;replace z_m:=blt hb3 z_m;replace z_t:=blt hb3 z_t;replace z_p:=blt hb3 z_p;replace z_r:=blt hb3 z_r;replace z_z:=blt hb3 z_z;have HB3:=xv hb3 HB2;have hz3r:w.heap.size+1+1+1<w3.heap.size:=z_r;have hz3z:w1.heap.size<w3.heap.size:=z_z;clear hb3;go_wp2
 simp only [Exit.jump];have HC:=hid (six_some ⟨c_r0,c_r1,c_r2,c_r3,c_r4,c_r5⟩);exact end_row (W:=w3) (b:=w.heap.size+1+1+1) [.int .i64 0,.slice none 0 0,.slice none 0 0,.slice none 0 0,.slice none 0 0,.int .u64 0] HC rfl rfl (fun _ h=>results_ct rfl rfl (run_loadVar_many _ Tryz.underlying29 rfl xk h)) fun _ s=>⟨_,_,_,_,rfl,World.ownsRow_nil _ _ _ _,World.ownsRow_nil _ _ _ _,World.ownsRow_nil _ _ _ _,World.ownsRow_nil _ _ _ _,s.be HB3.out⟩
theorem gPut_full (c:Cfg) (seg:Int) (wa ka va ca:Option Addr) (wc kc vc cc lw n lv lc:Nat) (laid:Int) (k x y many:Int) (hk:¬k<0) (hm:¬many<k) (hf:many=c.most) (w:World) (CK:Hid (∀W,Below w.heap.size w W→Calls Tryz.prog 51 #[.agg #[.int .u8 c.tag,.int .i64 c.most,.int .i64 c.seg,.int .i64 c.least,.int .i64 c.den,.int .i64 c.ll,.int .i64 c.rl,.int .i64 c.rh,.int .i64 c.lh],.agg #[.int .i64 seg,.slice wa lw wc,.slice ka n kc,.slice va lv vc,.slice ca lc cc,.int .u64 laid]] W (AnsB W (.int .i64 0)))) (AM:Hid (∀W,Below w.heap.size w W→Calls Tryz.prog 68 #[.agg #[.int .i64 seg,.slice wa lw wc,.slice ka n kc,.slice va lv vc,.slice ca lc cc,.int .u64 laid],.int .i64 0,.int .i64 n] W (AnsB W (.int .i64 many)))):
    Calls Tryz.prog 59 #[.agg #[.int .u8 c.tag,.int .i64 c.most,.int .i64 c.seg,.int .i64 c.least,.int .i64 c.den,.int .i64 c.ll,.int .i64 c.rl,.int .i64 c.rh,.int .i64 c.lh],.agg #[.int .i64 seg,.slice wa lw wc,.slice ka n kc,.slice va lv vc,.slice ca lc cc,.int .u64 laid],.int .i64 k,.agg #[.int .i64 x,.int .i64 y]] w (FreshSl2 w ⟨0,[],[],[],[],0⟩ (.int .i64 9)):=by
 have g1:decide (k<0)=false:=by simpa using hk
 have g2:decide (many<k)=false:=by simpa using hm
 have g3:(many==c.most)=true:=by rw [beq_iff_eq];exact hf
 clear hf;go_enter Tryz.func59,Tryz.ntmps59
 go_wp2
 refine wp_scope_fwd 0 rfl ?_;go_wp2_with fail
 refine (CK.out _ xbel).mono ?_;rintro e w1 ⟨rfl,hb1⟩;have hz_w1:=hb1.size;try simp only [World.size_alloc,World.size_setCell] at hz_w1
 have hh:=bc9 hb1 (au9 (au9 (au9 (al9 (b:=w.heap.size) xsi))));obtain ⟨c_m0,c_m1,c_m2,c_m3,c_m4,c_m5,c_m6,c_m7,c_m8⟩:=hh;have z_m:=blt hb1 (auz (auz (auz (alz (b:=w.heap.size) xsi))));have hh:=bc6 hb1 (au6 (au6 (al6 (b:=w.heap.size+1) xsi)));obtain ⟨c_t0,c_t1,c_t2,c_t3,c_t4,c_t5⟩:=hh;have z_t:=blt hb1 (auz (auz (alz (b:=w.heap.size+1) xsi)));have hh:=bc2 hb1 (au2 (al2 (b:=w.heap.size+1+1) xsi));obtain ⟨c_p0,c_p1⟩:=hh;have z_p:=blt hb1 (auz (alz (b:=w.heap.size+1+1) xsi));have hh:=bc6 hb1 (al6 (b:=w.heap.size+1+1+1) xsi);obtain ⟨c_r0,c_r1,c_r2,c_r3,c_r4,c_r5⟩:=hh;have hh:=bf6 hb1 (alz (b:=w.heap.size+1+1+1) xsi) (alf6 (b:=w.heap.size+1+1+1) xsi);obtain ⟨f_r0,f_r1,f_r2,f_r3,f_r4,f_r5⟩:=hh;have z_r:=blt hb1 (alz (b:=w.heap.size+1+1+1) xsi);have hB1:Below w.heap.size w w1:=xbel;have HB1:=hid hB1;have hz1:w.heap.size+1+1+1<w1.heap.size:=z_r;clear hb1 hB1;go_upto_region 5 with (fail)
 generalize hw2:w1.alloc _=w2;have hh:=ec9 hw2 (au9 (⟨c_m0,c_m1,c_m2,c_m3,c_m4,c_m5,c_m6,c_m7,c_m8⟩));clear c_m0 c_m1 c_m2 c_m3 c_m4 c_m5 c_m6 c_m7 c_m8;obtain ⟨c_m0,c_m1,c_m2,c_m3,c_m4,c_m5,c_m6,c_m7,c_m8⟩:=hh;replace z_m:=elt hw2 (auz (z_m));have hh:=ec6 hw2 (au6 (⟨c_t0,c_t1,c_t2,c_t3,c_t4,c_t5⟩));clear c_t0 c_t1 c_t2 c_t3 c_t4 c_t5;obtain ⟨c_t0,c_t1,c_t2,c_t3,c_t4,c_t5⟩:=hh;replace z_t:=elt hw2 (auz (z_t));have hh:=ec2 hw2 (au2 (⟨c_p0,c_p1⟩));clear c_p0 c_p1;obtain ⟨c_p0,c_p1⟩:=hh;replace z_p:=elt hw2 (auz (z_p));have hh:=ec6 hw2 (au6 (⟨c_r0,c_r1,c_r2,c_r3,c_r4,c_r5⟩));clear c_r0 c_r1 c_r2 c_r3 c_r4 c_r5;obtain ⟨c_r0,c_r1,c_r2,c_r3,c_r4,c_r5⟩:=hh;have hh:=ef6 hw2 (auf6 z_r ⟨f_r0,f_r1,f_r2,f_r3,f_r4,f_r5⟩);clear f_r0 f_r1 f_r2 f_r3 f_r4 f_r5;obtain ⟨f_r0,f_r1,f_r2,f_r3,f_r4,f_r5⟩:=hh;replace z_r:=elt hw2 (auz (z_r));have c_z0:=ec1 hw2 (al1 (b:=w1.heap.size) xsi);have f_z0:=ef1 hw2 (alf1 (b:=w1.heap.size) xsi);have z_z:=elt hw2 (alz (b:=w1.heap.size) xsi);have hb2:Below w1.heap.size w1 w2:=by rw [←hw2];exact br.alloc (Nat.le_refl _) _
 have HB2:=xv hb2 HB1;clear hw2 hb2;go_wp2_with fail
 refine (AM.out _ HB2.out).mono ?_;rintro e w3 ⟨rfl,hb3⟩;have hz_w3:=hb3.size;simp (disch:=omega) only [xcl hb3,xfr hb3] at *;replace z_m:=blt hb3 z_m;replace z_t:=blt hb3 z_t;replace z_p:=blt hb3 z_p;replace z_r:=blt hb3 z_r;replace z_z:=blt hb3 z_z;have HB3:=xv hb3 HB2;have hz3r:w.heap.size+1+1+1<w3.heap.size:=z_r;have hz3z:w1.heap.size<w3.heap.size:=z_z;clear hb3;go_wp2
 simp only [Exit.jump];have HC:=hid (six_some ⟨c_r0,c_r1,c_r2,c_r3,c_r4,c_r5⟩);exact end_row (W:=w3) (b:=w.heap.size+1+1+1) [.int .i64 0,.slice none 0 0,.slice none 0 0,.slice none 0 0,.slice none 0 0,.int .u64 0] HC rfl rfl (fun _ h=>results_ct rfl rfl (run_loadVar_many _ Tryz.underlying29 rfl xk h)) fun _ s=>⟨_,_,_,_,rfl,World.ownsRow_nil _ _ _ _,World.ownsRow_nil _ _ _ _,World.ownsRow_nil _ _ _ _,World.ownsRow_nil _ _ _ _,s.be HB3.out⟩
theorem gPut_with (c:Cfg) (seg:Int) (wa ka va ca:Option Addr) (wc kc vc cc lw n lv lc:Nat) (laid:Int) (a H h at_ k kk:Nat) (x y many t ah:Int) (d:SlC) (hk2:¬many<(k:Int)) (hf:many≠c.most) (hh:h≤H) (hH:H≤14) (ht:t+1=(h:Nat)) (htH:t≠(H:Nat)) (hkk:(k:Int)-ah=(kk:Nat)) (hk6:kk≤65536) (w:World) (CK:Hid (∀W,Below w.heap.size w W→Calls Tryz.prog 51 #[.agg #[.int .u8 c.tag,.int .i64 c.most,.int .i64 c.seg,.int .i64 c.least,.int .i64 c.den,.int .i64 c.ll,.int .i64 c.rl,.int .i64 c.rh,.int .i64 c.lh],.agg #[.int .i64 seg,.slice wa lw wc,.slice ka n kc,.slice va lv vc,.slice ca lc cc,.int .u64 laid]] W (AnsB W (.int .i64 0)))) (AM:Hid (∀W,Below w.heap.size w W→Calls Tryz.prog 68 #[.agg #[.int .i64 seg,.slice wa lw wc,.slice ka n kc,.slice va lv vc,.slice ca lc cc,.int .u64 laid],.int .i64 0,.int .i64 n] W (AnsB W (.int .i64 many))))
    (HM:Hid (∀W,Below w.heap.size w W→Calls Tryz.prog 99 #[.agg #[.int .i64 seg,.slice wa lw wc,.slice ka n kc,.slice va lv vc,.slice ca lc cc,.int .u64 laid],.int .i64 k] W (AnsB W (.int .i64 at_))))
    (HI:Hid (∀W b2,Below w.heap.size w W→W.cell? ⟨w.heap.size,0,none⟩=some (.int .u8 c.tag)→W.cell? ⟨w.heap.size,1,none⟩=some (.int .i64 c.most)→W.cell? ⟨w.heap.size,2,none⟩=some (.int .i64 c.seg)→W.cell? ⟨w.heap.size,3,none⟩=some (.int .i64 c.least)→W.cell? ⟨w.heap.size,4,none⟩=some (.int .i64 c.den)→W.cell? ⟨w.heap.size,5,none⟩=some (.int .i64 c.ll)→W.cell? ⟨w.heap.size,6,none⟩=some (.int .i64 c.rl)→W.cell? ⟨w.heap.size,7,none⟩=some (.int .i64 c.rh)→W.cell? ⟨w.heap.size,8,none⟩=some (.int .i64 c.lh)→W.cell? ⟨b2,0,none⟩=some (.int .i64 n)→Calls Tryz.prog 73 #[.agg #[.int .i64 seg,.slice wa lw wc,.slice ka n kc,.slice va lv vc,.slice ca lc cc,.int .u64 laid],.int .i64 at_,.func (.func 98) #[] #[.pointer (some ⟨w.heap.size,0,none⟩),.pointer (some ⟨b2,0,none⟩)]] W (HighR W a at_ H t)))
    (AH:Hid (∀W,Below w.heap.size w W→Calls Tryz.prog 68 #[.agg #[.int .i64 seg,.slice wa lw wc,.slice ka n kc,.slice va lv vc,.slice ca lc cc,.int .u64 laid],.int .i64 0,.int .i64 ((wnd a h at_*2^(a+h):Nat):Int)] W (AnsB W (.int .i64 ah))))
    (WI:Hid (∀W,Below w.heap.size w W→Calls Tryz.prog 100 #[.agg #[.int .i64 seg,.slice wa lw wc,.slice ka n kc,.slice va lv vc,.slice ca lc cc,.int .u64 laid],.int .i64 ((wnd a h at_*2^(a+h):Nat):Int),.int .i64 (((wnd a h at_*2^(a+h):Nat):Int)+((2^(a+h):Nat):Int)),.int .i64 kk,.agg #[.int .i64 x,.int .i64 y]] W (FreshSl2 W d (.int .i64 0)))):
    Calls Tryz.prog 59 #[.agg #[.int .u8 c.tag,.int .i64 c.most,.int .i64 c.seg,.int .i64 c.least,.int .i64 c.den,.int .i64 c.ll,.int .i64 c.rl,.int .i64 c.rh,.int .i64 c.lh],.agg #[.int .i64 seg,.slice wa lw wc,.slice ka n kc,.slice va lv vc,.slice ca lc cc,.int .u64 laid],.int .i64 k,.agg #[.int .i64 x,.int .i64 y]] w (FreshSl2 w d (.int .i64 0)):=by
 have g1:decide ((k:Int)<0)=false:=by simp
 have g2:decide (many<(k:Int))=false:=by simpa using hk2
 have g3:(many==c.most)=false:=by rw [beq_eq_false_iff_ne];exact hf
 have g4:(t==(H:Int))=false:=by rw [beq_eq_false_iff_ne];exact htH
 have hw1:IntKind.i64.wrap (((H+1:Nat):Int)-1)=(H:Int):=by rw [show ((H+1:Nat):Int)-1=(H:Int) by omega];exact IntWalk.i64_in _ xo
 have hw1b:IntKind.i64.wrap (H:Int)=(H:Int):=IntWalk.i64_in _ xo;have hw2:IntKind.i64.wrap (t+1)=(h:Int):=by rw [ht];exact IntWalk.i64_in _ xo
 have hw3:IntKind.i64.wrap ((k:Int)-ah)=(kk:Int):=by rw [hkk];exact IntWalk.i64_in _ xo
 have HWG:=hid (winsL_get (a:=a) (at_:=at_) (show h<H+1 by omega));have HWL:=hid (winsL_length a at_ (H+1));have HHH:=hid (And.intro hh hH);clear ht htH hkk hf hk6 hh hH;go_enter Tryz.func59,Tryz.ntmps59
 go_wp2
 refine wp_scope_fwd 0 rfl ?_;go_wp2_with fail
 refine (CK.out _ xbel).mono ?_;rintro e w1 ⟨rfl,hb1⟩;have hz_w1:=hb1.size;try simp only [World.size_alloc,World.size_setCell] at hz_w1
 have hh:=bc9 hb1 (au9 (au9 (au9 (al9 (b:=w.heap.size) xsi))));obtain ⟨c_m0,c_m1,c_m2,c_m3,c_m4,c_m5,c_m6,c_m7,c_m8⟩:=hh;have z_m:=blt hb1 (auz (auz (auz (alz (b:=w.heap.size) xsi))));have hh:=bc6 hb1 (au6 (au6 (al6 (b:=w.heap.size+1) xsi)));obtain ⟨c_t0,c_t1,c_t2,c_t3,c_t4,c_t5⟩:=hh;have z_t:=blt hb1 (auz (auz (alz (b:=w.heap.size+1) xsi)));have hh:=bc2 hb1 (au2 (al2 (b:=w.heap.size+1+1) xsi));obtain ⟨c_p0,c_p1⟩:=hh;have z_p:=blt hb1 (auz (alz (b:=w.heap.size+1+1) xsi));have hh:=bc6 hb1 (al6 (b:=w.heap.size+1+1+1) xsi);obtain ⟨c_r0,c_r1,c_r2,c_r3,c_r4,c_r5⟩:=hh;have hh:=bf6 hb1 (alz (b:=w.heap.size+1+1+1) xsi) (alf6 (b:=w.heap.size+1+1+1) xsi);obtain ⟨f_r0,f_r1,f_r2,f_r3,f_r4,f_r5⟩:=hh;have z_r:=blt hb1 (alz (b:=w.heap.size+1+1+1) xsi);have hB1:Below w.heap.size w w1:=xbel;have HB1:=hid hB1;have hz1:w.heap.size+1+1+1<w1.heap.size:=z_r;clear hb1 hB1;go_upto_region 5 with (fail)
 generalize hw2:w1.alloc _=w2;have hh:=ec9 hw2 (au9 (⟨c_m0,c_m1,c_m2,c_m3,c_m4,c_m5,c_m6,c_m7,c_m8⟩));clear c_m0 c_m1 c_m2 c_m3 c_m4 c_m5 c_m6 c_m7 c_m8;obtain ⟨c_m0,c_m1,c_m2,c_m3,c_m4,c_m5,c_m6,c_m7,c_m8⟩:=hh;replace z_m:=elt hw2 (auz (z_m));have hh:=ec6 hw2 (au6 (⟨c_t0,c_t1,c_t2,c_t3,c_t4,c_t5⟩));clear c_t0 c_t1 c_t2 c_t3 c_t4 c_t5;obtain ⟨c_t0,c_t1,c_t2,c_t3,c_t4,c_t5⟩:=hh;replace z_t:=elt hw2 (auz (z_t));have hh:=ec2 hw2 (au2 (⟨c_p0,c_p1⟩));clear c_p0 c_p1;obtain ⟨c_p0,c_p1⟩:=hh;replace z_p:=elt hw2 (auz (z_p));have hh:=ec6 hw2 (au6 (⟨c_r0,c_r1,c_r2,c_r3,c_r4,c_r5⟩));clear c_r0 c_r1 c_r2 c_r3 c_r4 c_r5;obtain ⟨c_r0,c_r1,c_r2,c_r3,c_r4,c_r5⟩:=hh;have hh:=ef6 hw2 (auf6 z_r ⟨f_r0,f_r1,f_r2,f_r3,f_r4,f_r5⟩);clear f_r0 f_r1 f_r2 f_r3 f_r4 f_r5;obtain ⟨f_r0,f_r1,f_r2,f_r3,f_r4,f_r5⟩:=hh;replace z_r:=elt hw2 (auz (z_r));have c_z0:=ec1 hw2 (al1 (b:=w1.heap.size) xsi);have f_z0:=ef1 hw2 (alf1 (b:=w1.heap.size) xsi);have z_z:=elt hw2 (alz (b:=w1.heap.size) xsi);have hb2:Below w1.heap.size w1 w2:=by rw [←hw2];exact br.alloc (Nat.le_refl _) _
 have HB2:=xv hb2 HB1;clear hw2 hb2;go_wp2_with fail
 refine (AM.out _ HB2.out).mono ?_;rintro e w3 ⟨rfl,hb3⟩;have hz_w3:=hb3.size;simp (disch:=omega) only [xcl hb3,xfr hb3] at *;replace z_m:=blt hb3 z_m;replace z_t:=blt hb3 z_t;replace z_p:=blt hb3 z_p;replace z_r:=blt hb3 z_r;replace z_z:=blt hb3 z_z;have HB3:=xv hb3 HB2;have hz3r:w.heap.size+1+1+1<w3.heap.size:=z_r;have hz3z:w1.heap.size<w3.heap.size:=z_z;clear hb3;go_upto_region 13 with (fail)
 generalize hw4:w3.alloc _=w4;have hh:=ec9 hw4 (au9 (⟨c_m0,c_m1,c_m2,c_m3,c_m4,c_m5,c_m6,c_m7,c_m8⟩));clear c_m0 c_m1 c_m2 c_m3 c_m4 c_m5 c_m6 c_m7 c_m8;obtain ⟨c_m0,c_m1,c_m2,c_m3,c_m4,c_m5,c_m6,c_m7,c_m8⟩:=hh;replace z_m:=elt hw4 (auz (z_m));have hh:=ec6 hw4 (au6 (⟨c_t0,c_t1,c_t2,c_t3,c_t4,c_t5⟩));clear c_t0 c_t1 c_t2 c_t3 c_t4 c_t5;obtain ⟨c_t0,c_t1,c_t2,c_t3,c_t4,c_t5⟩:=hh;replace z_t:=elt hw4 (auz (z_t));have hh:=ec2 hw4 (au2 (⟨c_p0,c_p1⟩));clear c_p0 c_p1;obtain ⟨c_p0,c_p1⟩:=hh;replace z_p:=elt hw4 (auz (z_p));have hh:=ec6 hw4 (au6 (⟨c_r0,c_r1,c_r2,c_r3,c_r4,c_r5⟩));clear c_r0 c_r1 c_r2 c_r3 c_r4 c_r5;obtain ⟨c_r0,c_r1,c_r2,c_r3,c_r4,c_r5⟩:=hh;have hh:=ef6 hw4 (auf6 z_r ⟨f_r0,f_r1,f_r2,f_r3,f_r4,f_r5⟩);clear f_r0 f_r1 f_r2 f_r3 f_r4 f_r5;obtain ⟨f_r0,f_r1,f_r2,f_r3,f_r4,f_r5⟩:=hh;replace z_r:=elt hw4 (auz (z_r));replace c_z0:=ec1 hw4 (au1 (c_z0));replace f_z0:=ef1 hw4 (auf1 z_z f_z0);replace z_z:=elt hw4 (auz (z_z));have hh:=ec2 hw4 (al2 (b:=w3.heap.size) xsi);obtain ⟨c_q0,c_q1⟩:=hh;have hh:=ef2 hw4 (alf2 (b:=w3.heap.size) xsi);obtain ⟨f_q0,f_q1⟩:=hh;have z_q:=elt hw4 (alz (b:=w3.heap.size) xsi);have hb4:Below w3.heap.size w3 w4:=by rw [←hw4];exact br.alloc (Nat.le_refl _) _
 have HB4:=xv hb4 HB3;have HI4:=hid (fun W (hb:Below w4.heap.size w4 W)=>HI.out W w1.heap.size (below_via hb HB4.out HB4.out.size) ((hb.cell (p:=⟨w.heap.size,0,none⟩) z_m).trans c_m0) ((hb.cell (p:=⟨w.heap.size,1,none⟩) z_m).trans c_m1) ((hb.cell (p:=⟨w.heap.size,2,none⟩) z_m).trans c_m2) ((hb.cell (p:=⟨w.heap.size,3,none⟩) z_m).trans c_m3) ((hb.cell (p:=⟨w.heap.size,4,none⟩) z_m).trans c_m4) ((hb.cell (p:=⟨w.heap.size,5,none⟩) z_m).trans c_m5) ((hb.cell (p:=⟨w.heap.size,6,none⟩) z_m).trans c_m6) ((hb.cell (p:=⟨w.heap.size,7,none⟩) z_m).trans c_m7) ((hb.cell (p:=⟨w.heap.size,8,none⟩) z_m).trans c_m8) ((hb.cell (p:=⟨w1.heap.size,0,none⟩) z_z).trans c_z0));have hz14:w1.heap.size<w4.heap.size:=z_z;clear hw4 hb4 HI;refine wp_region_late 10 xk (N:=111) rfl xk xk xdd (fun w'=>Below w4.heap.size w4 w') RB (factRAt [.is (.agg #[.int .i64 seg,.slice wa lw wc,.slice ka n kc,.slice va lv vc,.slice ca lc cc,.int .u64 laid]),.is (.agg #[.int .i64 seg,.slice wa lw wc,.slice ka n kc,.slice va lv vc,.slice ca lc cc,.int .u64 laid]),.is (.int .i64 k),.is (.int .i64 at_),.is (.func (.func 98) #[] #[.pointer (some ⟨w.heap.size,0,none⟩),.pointer (some ⟨w1.heap.size,0,none⟩)]),hiR w4.heap.size a at_ H t,hiR w4.heap.size a at_ H t,.is (.int .i64 t),paR w4.heap.size a at_ H,.is (.int .i64 t)]) (factRAt_stays _) br.drew ?steps ?fin
 case steps=>
  refine ⟨?o0,?o1,?o2,?o3,?o4,?o5,?o6,?o7,?o8,?o9,trivial⟩
  case o0=>
   intro u a w' ev hJ hd K hK;have e5:tg a 5= .pointer (some ⟨w.heap.size+1,0,none⟩):=ev 5 xdd;have g0:=xjc hJ c_t0;have g1:=xjc hJ c_t1;have g2:=xjc hJ c_t2;have g3:=xjc hJ c_t3;have g4:=xjc hJ c_t4;have g5:=xjc hJ c_t5;have HK:=hid hK;clear hK ev hd;go_simp;exact HK.out _ _ xzc hJ rfl br
  case o1=>
   intro u a w' ev hJ hd K hK;have e5:tg a 5= .pointer (some ⟨w.heap.size+1,0,none⟩):=ev 5 xdd;have g0:=xjc hJ c_t0;have g1:=xjc hJ c_t1;have g2:=xjc hJ c_t2;have g3:=xjc hJ c_t3;have g4:=xjc hJ c_t4;have g5:=xjc hJ c_t5;have HK:=hid hK;clear hK ev hd;go_simp;exact HK.out _ _ xzc hJ rfl br
  case o2=>
   intro u a w' ev hJ hd K hK;have e2:tg a 2= .int .i64 k:=ev 2 xdd;have HK:=hid hK;clear hK ev hd;go_simp;exact HK.out _ _ xzc hJ rfl br
  case o3=>
   intro u a w' ev hJ hd K hK;have e49:tg a 49= .agg #[.int .i64 seg,.slice wa lw wc,.slice ka n kc,.slice va lv vc,.slice ca lc cc,.int .u64 laid]:=(ev 49 xdd).trans (hd 1 _ xk rfl);have e50:tg a 50= .int .i64 k:=(ev 50 xdd).trans (hd 2 _ xk rfl);have HK:=hid hK;have HC:=hid (HM.out w' (below_via hJ HB4.out HB4.out.size));have hzJ:=hJ.size;clear hK ev hd;go_simp;refine HC.out.mono ?_;rintro e w'' ⟨rfl,hb⟩;exact HK.out _ _ xzc (hJ.trans (hb.mono hzJ)) rfl hb
  case o4=>
   intro u a w' ev hJ hd K hK;have e13:tg a 13= .func (.func 98) #[] #[.pointer (some ⟨w.heap.size,0,none⟩),.pointer (some ⟨w1.heap.size,0,none⟩)]:=ev 13 xdd;have HK:=hid hK;clear hK ev hd;go_simp;exact HK.out _ _ xzc hJ rfl br
  case o5=>
   intro u a w' ev hJ hd K hK;have e48:tg a 48= .agg #[.int .i64 seg,.slice wa lw wc,.slice ka n kc,.slice va lv vc,.slice ca lc cc,.int .u64 laid]:=(ev 48 xdd).trans (hd 0 _ xk rfl);have e51:tg a 51= .int .i64 at_:=(ev 51 xdd).trans (hd 3 _ xk rfl);have e52:tg a 52= .func (.func 98) #[] #[.pointer (some ⟨w.heap.size,0,none⟩),.pointer (some ⟨w1.heap.size,0,none⟩)]:=(ev 52 xdd).trans (hd 4 _ xk rfl);have HK:=hid hK;have HC:=hid (HI4.out w' hJ);have hzJ:=hJ.size;have HJ:=hid hJ;clear hK ev hd hJ;go_simp;refine HC.out.mono ?_;rintro e w'' ⟨y,rfl,hy,hb⟩;exact HK.out _ _ xzc (HJ.out.trans (hb.mono hzJ)) (⟨y,rfl,owns_base hy hzJ⟩) hb
  case o6=>
   intro u a w' ev hJ hd K hK;obtain ⟨y,ht,hy⟩:(hiR w4.heap.size _ at_ H t).holds (u 53) w':=hd 5 _ xk rfl;have e53:tg a 53=_:=(ev 53 xdd).trans ht;have HK:=hid hK;have HY:=hid hy;clear hK ev hd hy;go_simp;exact HK.out _ _ xzc hJ (⟨y,rfl,HY.out⟩) br
  case o7=>
   intro u a w' ev hJ hd K hK;obtain ⟨y,ht,hy⟩:(hiR w4.heap.size _ at_ H t).holds (u 47) w':=hd 6 _ xk rfl;have e47:tg a 47=_:=(ev 47 xdd).trans ht;have HK:=hid hK;have HY:=hid hy;clear hK ev hd hy;go_simp;exact HK.out _ _ xzc hJ (rfl) br
  case o8=>
   intro u a w' ev hJ hd K hK;obtain ⟨y,ht,hy⟩:(hiR w4.heap.size _ at_ H t).holds (u 47) w':=hd 6 _ xk rfl;have e47:tg a 47=_:=(ev 47 xdd).trans ht;have HK:=hid hK;have HY:=hid hy;clear hK ev hd hy;go_simp;exact HK.out _ _ xzc hJ (HY.out) br
  case o9=>
   intro u a w' ev hJ hd K hK;have e54:tg a 54= .int .i64 t:=(ev 54 xdd).trans (hd 7 _ xk rfl);have HK:=hid hK;clear hK ev hd;go_simp;exact HK.out _ _ xzc hJ rfl br
 case fin=>
  intro u w5 hJ hG;have h16:u 16= .int .i64 t:=hG 9 _ rfl;have ho5:w5.ownsRow w4.heap.size 122 2 (u 55) (H+1) ((prI (winsL a at_ (H+1))).map (Value.int .i64)):=hG 8 _ rfl;obtain ⟨ra,rc,h55,hi5,-,-,hrc,-⟩:=row_of_owns ho5;have HB5:=xv hJ HB4;have hz_w5:=hJ.size;simp (disch:=omega) only [xcl hJ,xfr hJ] at *;replace z_m:=blt hJ z_m;replace z_t:=blt hJ z_t;replace z_p:=blt hJ z_p;replace z_r:=blt hJ z_r;replace z_z:=blt hJ z_z;replace z_q:=blt hJ z_q;have hz5:w4.heap.size≤w5.heap.size:=hJ.size;have hlt:h<H+1:=by have:=HHH.out;omega
  have hpr:=prI_get (l:=winsL a at_ (H+1)) (i:=h) (by rw [HWL.out];exact hlt);rw [HWG.out] at hpr;obtain ⟨pb,po,lo,hi,rfl,hx,hy,hc0,hc1,-⟩:=hi5.get2 (i:=h) (by rw [prI_length,HWL.out];omega);have ex:((wnd a h at_*2^(a+h):Nat):Int)=lo:=by rw [←hx.out,hpr.1]
  have ey:((wnd a h at_*2^(a+h):Nat):Int)+((2^(a+h):Nat):Int)=hi:=by rw [←hy.out,hpr.2]
  rw [ey,ex] at WI;rw [ex] at AH;clear hG hJ ho5 hi5 hpr hx hy ex ey HWG HWL HHH;simp only [mixFrame,mixL,dstsOf,List.take_succ_cons,List.take_zero,List.filterMap_cons,List.filterMap_nil,List.contains_cons,List.contains_nil,Nat.reduceBEq,Bool.or_false,Bool.false_or,Bool.or_true,Bool.true_or,if_true,if_false,Bool.false_eq_true,Nat.reduceAdd,Nat.zero_add,List.drop_succ_cons,List.drop_zero,h16,h55];go_upto_region 16 with (fail)
  generalize hw5a:w5.setCell _ _=w5a;replace c_m0:w5a.cell? ⟨w.heap.size,0,none⟩=some (.int .u8 c.tag):=by rw [←hw5a];(exact xcg)
  replace c_m1:w5a.cell? ⟨w.heap.size,1,none⟩=some (.int .i64 c.most):=by rw [←hw5a];(exact xcg)
  replace c_m2:w5a.cell? ⟨w.heap.size,2,none⟩=some (.int .i64 c.seg):=by rw [←hw5a];(exact xcg)
  replace c_m3:w5a.cell? ⟨w.heap.size,3,none⟩=some (.int .i64 c.least):=by rw [←hw5a];(exact xcg)
  replace c_m4:w5a.cell? ⟨w.heap.size,4,none⟩=some (.int .i64 c.den):=by rw [←hw5a];(exact xcg)
  replace c_m5:w5a.cell? ⟨w.heap.size,5,none⟩=some (.int .i64 c.ll):=by rw [←hw5a];(exact xcg)
  replace c_m6:w5a.cell? ⟨w.heap.size,6,none⟩=some (.int .i64 c.rl):=by rw [←hw5a];(exact xcg)
  replace c_m7:w5a.cell? ⟨w.heap.size,7,none⟩=some (.int .i64 c.rh):=by rw [←hw5a];(exact xcg)
  replace c_m8:w5a.cell? ⟨w.heap.size,8,none⟩=some (.int .i64 c.lh):=by rw [←hw5a];(exact xcg)
  replace z_m:w.heap.size<w5a.heap.size:=by rw [←hw5a];(exact xlt)
  replace c_t0:w5a.cell? ⟨w.heap.size+1,0,none⟩=some (.int .i64 seg):=by rw [←hw5a];(exact xcg)
  replace c_t1:w5a.cell? ⟨w.heap.size+1,1,none⟩=some (.slice wa lw wc):=by rw [←hw5a];(exact xcg)
  replace c_t2:w5a.cell? ⟨w.heap.size+1,2,none⟩=some (.slice ka n kc):=by rw [←hw5a];(exact xcg)
  replace c_t3:w5a.cell? ⟨w.heap.size+1,3,none⟩=some (.slice va lv vc):=by rw [←hw5a];(exact xcg)
  replace c_t4:w5a.cell? ⟨w.heap.size+1,4,none⟩=some (.slice ca lc cc):=by rw [←hw5a];(exact xcg)
  replace c_t5:w5a.cell? ⟨w.heap.size+1,5,none⟩=some (.int .u64 laid):=by rw [←hw5a];(exact xcg)
  replace z_t:w.heap.size+1<w5a.heap.size:=by rw [←hw5a];(exact xlt)
  replace c_p0:w5a.cell? ⟨w.heap.size+1+1,0,none⟩=some (.int .i64 x):=by rw [←hw5a];(exact xcg)
  replace c_p1:w5a.cell? ⟨w.heap.size+1+1,1,none⟩=some (.int .i64 y):=by rw [←hw5a];(exact xcg)
  replace z_p:w.heap.size+1+1<w5a.heap.size:=by rw [←hw5a];(exact xlt)
  replace c_r0:w5a.cell? ⟨w.heap.size+1+1+1,0,none⟩=some (.int .i64 0):=by rw [←hw5a];(exact xcg)
  replace f_r0:w5a.frozen? ⟨w.heap.size+1+1+1,0,none⟩=false:=by rw [←hw5a];(exact xcg)
  replace c_r1:w5a.cell? ⟨w.heap.size+1+1+1,1,none⟩=some (.slice none 0 0):=by rw [←hw5a];(exact xcg)
  replace f_r1:w5a.frozen? ⟨w.heap.size+1+1+1,1,none⟩=false:=by rw [←hw5a];(exact xcg)
  replace c_r2:w5a.cell? ⟨w.heap.size+1+1+1,2,none⟩=some (.slice none 0 0):=by rw [←hw5a];(exact xcg)
  replace f_r2:w5a.frozen? ⟨w.heap.size+1+1+1,2,none⟩=false:=by rw [←hw5a];(exact xcg)
  replace c_r3:w5a.cell? ⟨w.heap.size+1+1+1,3,none⟩=some (.slice none 0 0):=by rw [←hw5a];(exact xcg)
  replace f_r3:w5a.frozen? ⟨w.heap.size+1+1+1,3,none⟩=false:=by rw [←hw5a];(exact xcg)
  replace c_r4:w5a.cell? ⟨w.heap.size+1+1+1,4,none⟩=some (.slice none 0 0):=by rw [←hw5a];(exact xcg)
  replace f_r4:w5a.frozen? ⟨w.heap.size+1+1+1,4,none⟩=false:=by rw [←hw5a];(exact xcg)
  replace c_r5:w5a.cell? ⟨w.heap.size+1+1+1,5,none⟩=some (.int .u64 0):=by rw [←hw5a];(exact xcg)
  replace f_r5:w5a.frozen? ⟨w.heap.size+1+1+1,5,none⟩=false:=by rw [←hw5a];(exact xcg)
  replace z_r:w.heap.size+1+1+1<w5a.heap.size:=by rw [←hw5a];(exact xlt)
  replace c_z0:w5a.cell? ⟨w1.heap.size,0,none⟩=some (.int .i64 n):=by rw [←hw5a];(exact xcg)
  replace f_z0:w5a.frozen? ⟨w1.heap.size,0,none⟩=false:=by rw [←hw5a];(exact xcg)
  replace z_z:w1.heap.size<w5a.heap.size:=by rw [←hw5a];(exact xlt)
  replace c_q0:w5a.cell? ⟨w3.heap.size,0,none⟩=some (.int .i64 lo):=by rw [←hw5a];(exact xcg)
  replace f_q0:w5a.frozen? ⟨w3.heap.size,0,none⟩=false:=by rw [←hw5a];(exact xcg)
  replace c_q1:w5a.cell? ⟨w3.heap.size,1,none⟩=some (.int .i64 0):=by rw [←hw5a];(exact xcg)
  replace f_q1:w5a.frozen? ⟨w3.heap.size,1,none⟩=false:=by rw [←hw5a];(exact xcg)
  replace z_q:w3.heap.size<w5a.heap.size:=by rw [←hw5a];(exact xlt)
  have HB5a:Hid (Below w.heap.size w w5a):=by rw [←hw5a];exact hid (HB5.out.setCell (by dsimp only;have:=HB3.out.size;omega) _)
  clear hw5a;generalize hw6:w5a.setCell _ _=w6;replace c_m0:w6.cell? ⟨w.heap.size,0,none⟩=some (.int .u8 c.tag):=by rw [←hw6];(exact xcg)
  replace c_m1:w6.cell? ⟨w.heap.size,1,none⟩=some (.int .i64 c.most):=by rw [←hw6];(exact xcg)
  replace c_m2:w6.cell? ⟨w.heap.size,2,none⟩=some (.int .i64 c.seg):=by rw [←hw6];(exact xcg)
  replace c_m3:w6.cell? ⟨w.heap.size,3,none⟩=some (.int .i64 c.least):=by rw [←hw6];(exact xcg)
  replace c_m4:w6.cell? ⟨w.heap.size,4,none⟩=some (.int .i64 c.den):=by rw [←hw6];(exact xcg)
  replace c_m5:w6.cell? ⟨w.heap.size,5,none⟩=some (.int .i64 c.ll):=by rw [←hw6];(exact xcg)
  replace c_m6:w6.cell? ⟨w.heap.size,6,none⟩=some (.int .i64 c.rl):=by rw [←hw6];(exact xcg)
  replace c_m7:w6.cell? ⟨w.heap.size,7,none⟩=some (.int .i64 c.rh):=by rw [←hw6];(exact xcg)
  replace c_m8:w6.cell? ⟨w.heap.size,8,none⟩=some (.int .i64 c.lh):=by rw [←hw6];(exact xcg)
  replace z_m:w.heap.size<w6.heap.size:=by rw [←hw6];(exact xlt)
  replace c_t0:w6.cell? ⟨w.heap.size+1,0,none⟩=some (.int .i64 seg):=by rw [←hw6];(exact xcg)
  replace c_t1:w6.cell? ⟨w.heap.size+1,1,none⟩=some (.slice wa lw wc):=by rw [←hw6];(exact xcg)
  replace c_t2:w6.cell? ⟨w.heap.size+1,2,none⟩=some (.slice ka n kc):=by rw [←hw6];(exact xcg)
  replace c_t3:w6.cell? ⟨w.heap.size+1,3,none⟩=some (.slice va lv vc):=by rw [←hw6];(exact xcg)
  replace c_t4:w6.cell? ⟨w.heap.size+1,4,none⟩=some (.slice ca lc cc):=by rw [←hw6];(exact xcg)
  replace c_t5:w6.cell? ⟨w.heap.size+1,5,none⟩=some (.int .u64 laid):=by rw [←hw6];(exact xcg)
  replace z_t:w.heap.size+1<w6.heap.size:=by rw [←hw6];(exact xlt)
  replace c_p0:w6.cell? ⟨w.heap.size+1+1,0,none⟩=some (.int .i64 x):=by rw [←hw6];(exact xcg)
  replace c_p1:w6.cell? ⟨w.heap.size+1+1,1,none⟩=some (.int .i64 y):=by rw [←hw6];(exact xcg)
  replace z_p:w.heap.size+1+1<w6.heap.size:=by rw [←hw6];(exact xlt)
  replace c_r0:w6.cell? ⟨w.heap.size+1+1+1,0,none⟩=some (.int .i64 0):=by rw [←hw6];(exact xcg)
  replace f_r0:w6.frozen? ⟨w.heap.size+1+1+1,0,none⟩=false:=by rw [←hw6];(exact xcg)
  replace c_r1:w6.cell? ⟨w.heap.size+1+1+1,1,none⟩=some (.slice none 0 0):=by rw [←hw6];(exact xcg)
  replace f_r1:w6.frozen? ⟨w.heap.size+1+1+1,1,none⟩=false:=by rw [←hw6];(exact xcg)
  replace c_r2:w6.cell? ⟨w.heap.size+1+1+1,2,none⟩=some (.slice none 0 0):=by rw [←hw6];(exact xcg)
  replace f_r2:w6.frozen? ⟨w.heap.size+1+1+1,2,none⟩=false:=by rw [←hw6];(exact xcg)
  replace c_r3:w6.cell? ⟨w.heap.size+1+1+1,3,none⟩=some (.slice none 0 0):=by rw [←hw6];(exact xcg)
  replace f_r3:w6.frozen? ⟨w.heap.size+1+1+1,3,none⟩=false:=by rw [←hw6];(exact xcg)
  replace c_r4:w6.cell? ⟨w.heap.size+1+1+1,4,none⟩=some (.slice none 0 0):=by rw [←hw6];(exact xcg)
  replace f_r4:w6.frozen? ⟨w.heap.size+1+1+1,4,none⟩=false:=by rw [←hw6];(exact xcg)
  replace c_r5:w6.cell? ⟨w.heap.size+1+1+1,5,none⟩=some (.int .u64 0):=by rw [←hw6];(exact xcg)
  replace f_r5:w6.frozen? ⟨w.heap.size+1+1+1,5,none⟩=false:=by rw [←hw6];(exact xcg)
  replace z_r:w.heap.size+1+1+1<w6.heap.size:=by rw [←hw6];(exact xlt)
  replace c_z0:w6.cell? ⟨w1.heap.size,0,none⟩=some (.int .i64 n):=by rw [←hw6];(exact xcg)
  replace f_z0:w6.frozen? ⟨w1.heap.size,0,none⟩=false:=by rw [←hw6];(exact xcg)
  replace z_z:w1.heap.size<w6.heap.size:=by rw [←hw6];(exact xlt)
  replace c_q0:w6.cell? ⟨w3.heap.size,0,none⟩=some (.int .i64 lo):=by rw [←hw6];(exact xcg)
  replace f_q0:w6.frozen? ⟨w3.heap.size,0,none⟩=false:=by rw [←hw6];(exact xcg)
  replace c_q1:w6.cell? ⟨w3.heap.size,1,none⟩=some (.int .i64 hi):=by rw [←hw6];(exact xcg)
  replace f_q1:w6.frozen? ⟨w3.heap.size,1,none⟩=false:=by rw [←hw6];(exact xcg)
  replace z_q:w3.heap.size<w6.heap.size:=by rw [←hw6];(exact xlt)
  have HB6:Hid (Below w.heap.size w w6):=by rw [←hw6];exact hid (HB5a.out.setCell (by dsimp only;have:=HB3.out.size;omega) _)
  clear hw6;have hzr:w.heap.size+1+1+1<w6.heap.size:=z_r;refine wp_region_late 15 xk (N:=111) rfl xk xk xdd (fun w'=>Below w6.heap.size w6 w') RB (factRAt [.is (.agg #[.int .i64 seg,.slice wa lw wc,.slice ka n kc,.slice va lv vc,.slice ca lc cc,.int .u64 laid]),.is (.pointer (some ⟨w3.heap.size,0,none⟩)),.is (.int .i64 lo),.is (.pointer (some ⟨w3.heap.size,1,none⟩)),.is (.int .i64 hi),.is (.int .i64 k),.is (.agg #[.int .i64 seg,.slice wa lw wc,.slice ka n kc,.slice va lv vc,.slice ca lc cc,.int .u64 laid]),.is (.pointer (some ⟨w3.heap.size,0,none⟩)),.is (.int .i64 lo),.is (.int .i64 ah),.is (.int .i64 kk),.is (.agg #[.int .i64 x,.int .i64 y]),sl2R w6.heap.size d (.int .i64 0),.sl w6.heap.size d,.is (.int .i64 0)]) (factRAt_stays _) br.drew ?steps ?fin
  case steps=>
   refine ⟨?o0,?o1,?o2,?o3,?o4,?o5,?o6,?o7,?o8,?o9,?o10,?o11,?o12,?o13,?o14,trivial⟩
   case o0=>
    intro u a w' ev hJ hd K hK;have e5:tg a 5= .pointer (some ⟨w.heap.size+1,0,none⟩):=ev 5 xdd;have g0:=xjc hJ c_t0;have g1:=xjc hJ c_t1;have g2:=xjc hJ c_t2;have g3:=xjc hJ c_t3;have g4:=xjc hJ c_t4;have g5:=xjc hJ c_t5;have HK:=hid hK;clear hK ev hd;go_simp;exact HK.out _ _ xzc hJ rfl br
   case o1=>
    intro u a w' ev hJ hd K hK;have e14:tg a 14= .pointer (some ⟨w3.heap.size,0,none⟩):=ev 14 xdd;have HK:=hid hK;clear hK ev hd;go_simp;exact HK.out _ _ xzc hJ rfl br
   case o2=>
    intro u a w' ev hJ hd K hK;have e67:tg a 67= .pointer (some ⟨w3.heap.size,0,none⟩):=(ev 67 xdd).trans (hd 1 _ xk rfl);have g0:=xjc hJ c_q0;have HK:=hid hK;clear hK ev hd;go_simp;exact HK.out _ _ xzc hJ rfl br
   case o3=>
    intro u a w' ev hJ hd K hK;have e14:tg a 14= .pointer (some ⟨w3.heap.size,0,none⟩):=ev 14 xdd;have HK:=hid hK;clear hK ev hd;go_simp;exact HK.out _ _ xzc hJ rfl br
   case o4=>
    intro u a w' ev hJ hd K hK;have e69:tg a 69= .pointer (some ⟨w3.heap.size,1,none⟩):=(ev 69 xdd).trans (hd 3 _ xk rfl);have g0:=xjc hJ c_q1;have HK:=hid hK;clear hK ev hd;go_simp;exact HK.out _ _ xzc hJ rfl br
   case o5=>
    intro u a w' ev hJ hd K hK;have e2:tg a 2= .int .i64 k:=ev 2 xdd;have HK:=hid hK;clear hK ev hd;go_simp;exact HK.out _ _ xzc hJ rfl br
   case o6=>
    intro u a w' ev hJ hd K hK;have e5:tg a 5= .pointer (some ⟨w.heap.size+1,0,none⟩):=ev 5 xdd;have g0:=xjc hJ c_t0;have g1:=xjc hJ c_t1;have g2:=xjc hJ c_t2;have g3:=xjc hJ c_t3;have g4:=xjc hJ c_t4;have g5:=xjc hJ c_t5;have HK:=hid hK;clear hK ev hd;go_simp;exact HK.out _ _ xzc hJ rfl br
   case o7=>
    intro u a w' ev hJ hd K hK;have e14:tg a 14= .pointer (some ⟨w3.heap.size,0,none⟩):=ev 14 xdd;have HK:=hid hK;clear hK ev hd;go_simp;exact HK.out _ _ xzc hJ rfl br
   case o8=>
    intro u a w' ev hJ hd K hK;have e73:tg a 73= .pointer (some ⟨w3.heap.size,0,none⟩):=(ev 73 xdd).trans (hd 7 _ xk rfl);have g0:=xjc hJ c_q0;have HK:=hid hK;clear hK ev hd;go_simp;exact HK.out _ _ xzc hJ rfl br
   case o9=>
    intro u a w' ev hJ hd K hK;have e72:tg a 72= .agg #[.int .i64 seg,.slice wa lw wc,.slice ka n kc,.slice va lv vc,.slice ca lc cc,.int .u64 laid]:=(ev 72 xdd).trans (hd 6 _ xk rfl);have e74:tg a 74= .int .i64 lo:=(ev 74 xdd).trans (hd 8 _ xk rfl);have HK:=hid hK;have HC:=hid (AH.out w' (below_via hJ HB6.out HB6.out.size));have hzJ:=hJ.size;clear hK ev hd;go_simp;refine HC.out.mono ?_;rintro e w'' ⟨rfl,hb⟩;exact HK.out _ _ xzc (hJ.trans (hb.mono hzJ)) rfl hb
   case o10=>
    intro u a w' ev hJ hd K hK;have e71:tg a 71= .int .i64 k:=(ev 71 xdd).trans (hd 5 _ xk rfl);have e75:tg a 75= .int .i64 ah:=(ev 75 xdd).trans (hd 9 _ xk rfl);have HK:=hid hK;clear hK ev hd;go_simp;exact HK.out _ _ xzc hJ rfl br
   case o11=>
    intro u a w' ev hJ hd K hK;have e7:tg a 7= .pointer (some ⟨w.heap.size+1+1,0,none⟩):=ev 7 xdd;have g0:=xjc hJ c_p0;have g1:=xjc hJ c_p1;have HK:=hid hK;clear hK ev hd;go_simp;exact HK.out _ _ xzc hJ rfl br
   case o12=>
    intro u a w' ev hJ hd K hK;have e66:tg a 66= .agg #[.int .i64 seg,.slice wa lw wc,.slice ka n kc,.slice va lv vc,.slice ca lc cc,.int .u64 laid]:=(ev 66 xdd).trans (hd 0 _ xk rfl);have e68:tg a 68= .int .i64 lo:=(ev 68 xdd).trans (hd 2 _ xk rfl);have e70:tg a 70= .int .i64 hi:=(ev 70 xdd).trans (hd 4 _ xk rfl);have e76:tg a 76= .int .i64 kk:=(ev 76 xdd).trans (hd 10 _ xk rfl);have e77:tg a 77= .agg #[.int .i64 x,.int .i64 y]:=(ev 77 xdd).trans (hd 11 _ xk rfl);have HK:=hid hK;have HC:=hid (WI.out w' (below_via hJ HB6.out HB6.out.size));have hzJ:=hJ.size;have HJ:=hid hJ;clear hK ev hd hJ;go_simp;refine HC.out.mono ?_;rintro e w'' ⟨v1,v2,v3,v4,rfl,p1,p2,p3,p4,hb⟩;exact HK.out _ _ xzc (HJ.out.trans (hb.mono hzJ)) (⟨_,rfl,v1,v2,v3,v4,rfl,owns_base p1 hzJ,owns_base p2 hzJ,owns_base p3 hzJ,owns_base p4 hzJ⟩) hb
   case o13=>
    intro u a w' ev hJ hd K hK;obtain ⟨y,ht,hy⟩:(sl2R w6.heap.size d (.int .i64 0)).holds (u 78) w':=hd 12 _ xk rfl;have e78:tg a 78=_:=(ev 78 xdd).trans ht;have HK:=hid hK;have HY:=hid hy;clear hK ev hd hy;go_simp;exact HK.out _ _ xzc hJ (HY.out) br
   case o14=>
    intro u a w' ev hJ hd K hK;obtain ⟨y,ht,hy⟩:(sl2R w6.heap.size d (.int .i64 0)).holds (u 78) w':=hd 12 _ xk rfl;have e78:tg a 78=_:=(ev 78 xdd).trans ht;have HK:=hid hK;have HY:=hid hy;clear hK ev hd hy;go_simp;exact HK.out _ _ xzc hJ (rfl) br
  case fin=>
   intro u2 w7 hJ hG;obtain ⟨v1,v2,v3,v4,h79,p1,p2,p3,p4⟩:(FactR.sl w6.heap.size d).holds (u2 79) w7:=hG 13 _ rfl;have h80:u2 80= .int .i64 0:=hG 14 _ rfl;have HB7:=xv hJ HB6;have hz_w7:=hJ.size;simp (disch:=omega) only [xcl hJ,xfr hJ] at *;replace z_m:=blt hJ z_m;replace z_t:=blt hJ z_t;replace z_p:=blt hJ z_p;replace z_r:=blt hJ z_r;replace z_z:=blt hJ z_z;replace z_q:=blt hJ z_q;obtain ⟨a1,k1,rfl,-,-,-,-,-⟩:=row_of_owns p1;obtain ⟨a2,k2,rfl,-,-,-,-,-⟩:=row_of_owns p2;obtain ⟨a3,k3,rfl,-,-,-,-,-⟩:=row_of_owns p3;obtain ⟨a4,k4,rfl,-,-,-,-,-⟩:=row_of_owns p4;have HP:=hid (And.intro p1 (And.intro p2 (And.intro p3 p4)));clear p1 p2 p3 p4 hJ hG;simp only [mixFrame,mixL,dstsOf,List.take_succ_cons,List.take_zero,List.filterMap_cons,List.filterMap_nil,List.contains_cons,List.contains_nil,Nat.reduceBEq,Bool.or_false,Bool.false_or,Bool.or_true,Bool.true_or,if_true,if_false,Bool.false_eq_true,Nat.reduceAdd,Nat.zero_add,List.drop_succ_cons,List.drop_zero,h79,h80];go_wp2
   simp only [Exit.jump];have HC:=hid (six_some ⟨c_r0,c_r1,c_r2,c_r3,c_r4,c_r5⟩);exact end_row (W:=w7) (b:=w.heap.size+1+1+1) [.int .i64 d.seg,.slice a1 d.ws.length k1,.slice a2 d.ks.length k2,.slice a3 d.vs.length k3,.slice a4 d.cs.length k4,.int .u64 d.laid] HC rfl rfl (fun _ h=>results_ct rfl rfl (run_loadVar_many _ Tryz.underlying29 rfl xk h)) fun _ s=>⟨_,_,_,_,rfl,s.ow hzr HP.out.1,s.ow hzr HP.out.2.1,s.ow hzr HP.out.2.2.1,s.ow hzr HP.out.2.2.2,s.be HB7.out⟩
theorem gPut_wide (c:Cfg) (seg:Int) (wa ka va ca:Option Addr) (wc kc vc cc lw n lv lc:Nat) (laid:Int) (a H at_ k size2:Nat) (x y many t:Int) (L:List (Int×Int)) (hL:L.length≤65536) (hkL:k≤L.length) (d:SlC) (hk2:¬many<(k:Int)) (hf:many≠c.most) (hH:H≤14) (htH:t=(H:Nat)) (w:World) (CK:Hid (∀W,Below w.heap.size w W→Calls Tryz.prog 51 #[.agg #[.int .u8 c.tag,.int .i64 c.most,.int .i64 c.seg,.int .i64 c.least,.int .i64 c.den,.int .i64 c.ll,.int .i64 c.rl,.int .i64 c.rh,.int .i64 c.lh],.agg #[.int .i64 seg,.slice wa lw wc,.slice ka n kc,.slice va lv vc,.slice ca lc cc,.int .u64 laid]] W (AnsB W (.int .i64 0)))) (AM:Hid (∀W,Below w.heap.size w W→Calls Tryz.prog 68 #[.agg #[.int .i64 seg,.slice wa lw wc,.slice ka n kc,.slice va lv vc,.slice ca lc cc,.int .u64 laid],.int .i64 0,.int .i64 n] W (AnsB W (.int .i64 many))))
    (HM:Hid (∀W,Below w.heap.size w W→Calls Tryz.prog 99 #[.agg #[.int .i64 seg,.slice wa lw wc,.slice ka n kc,.slice va lv vc,.slice ca lc cc,.int .u64 laid],.int .i64 k] W (AnsB W (.int .i64 at_))))
    (HI:Hid (∀W b2,Below w.heap.size w W→W.cell? ⟨w.heap.size,0,none⟩=some (.int .u8 c.tag)→W.cell? ⟨w.heap.size,1,none⟩=some (.int .i64 c.most)→W.cell? ⟨w.heap.size,2,none⟩=some (.int .i64 c.seg)→W.cell? ⟨w.heap.size,3,none⟩=some (.int .i64 c.least)→W.cell? ⟨w.heap.size,4,none⟩=some (.int .i64 c.den)→W.cell? ⟨w.heap.size,5,none⟩=some (.int .i64 c.ll)→W.cell? ⟨w.heap.size,6,none⟩=some (.int .i64 c.rl)→W.cell? ⟨w.heap.size,7,none⟩=some (.int .i64 c.rh)→W.cell? ⟨w.heap.size,8,none⟩=some (.int .i64 c.lh)→W.cell? ⟨b2,0,none⟩=some (.int .i64 n)→Calls Tryz.prog 73 #[.agg #[.int .i64 seg,.slice wa lw wc,.slice ka n kc,.slice va lv vc,.slice ca lc cc,.int .u64 laid],.int .i64 at_,.func (.func 98) #[] #[.pointer (some ⟨w.heap.size,0,none⟩),.pointer (some ⟨b2,0,none⟩)]] W (HighR W a at_ H t)))
    (PR:Hid (∀W,Below w.heap.size w W→Calls Tryz.prog 49 #[.agg #[.int .i64 seg,.slice wa lw wc,.slice ka n kc,.slice va lv vc,.slice ca lc cc,.int .u64 laid],.int .i64 0,.int .i64 n] W (FreshPr2 W L (.int .i64 0))))
    (CP:Hid (∀W,Below w.heap.size w W→Calls Tryz.prog 101 #[.agg #[.int .u8 c.tag,.int .i64 c.most,.int .i64 c.seg,.int .i64 c.least,.int .i64 c.den,.int .i64 c.ll,.int .i64 c.rl,.int .i64 c.rh,.int .i64 c.lh],.int .i64 (L.length+1:Nat)] W (AnsB W (.tuple #[.int .i64 size2,.int .i64 0]))))
    (IN:Hid (∀la pl W,Below w.heap.size w W→IsRow .i64 W la (prI (insL L k (x,y)))→Calls Tryz.prog 74 #[.agg #[.int .i64 seg,.slice wa lw wc,.slice ka n kc,.slice va lv vc,.slice ca lc cc,.int .u64 laid],.int .i64 size2,.slice la (L.length+1) pl] W (FreshSl2 W d (.int .i64 0)))):
    Calls Tryz.prog 59 #[.agg #[.int .u8 c.tag,.int .i64 c.most,.int .i64 c.seg,.int .i64 c.least,.int .i64 c.den,.int .i64 c.ll,.int .i64 c.rl,.int .i64 c.rh,.int .i64 c.lh],.agg #[.int .i64 seg,.slice wa lw wc,.slice ka n kc,.slice va lv vc,.slice ca lc cc,.int .u64 laid],.int .i64 k,.agg #[.int .i64 x,.int .i64 y]] w (FreshSl2 w d (.int .i64 0)):=by
 have g1:decide ((k:Int)<0)=false:=by simp
 have g2:decide (many<(k:Int))=false:=by simpa using hk2
 have g3:(many==c.most)=false:=by rw [beq_eq_false_iff_ne];exact hf
 have g4:((H:Int)==(H:Int))=true:=by simp
 have hw1:IntKind.i64.wrap (((H+1:Nat):Int)-1)=(H:Int):=by rw [show ((H+1:Nat):Int)-1=(H:Int) by omega];exact IntWalk.i64_in _ xo
 have hw1b:IntKind.i64.wrap (H:Int)=(H:Int):=IntWalk.i64_in _ xo;have HWL:=hid (winsL_length a at_ (H+1));have HRW:=hid (fun (w:World) la pl (h:IsRow .i64 w la (prI L)) (hz:AtZ la L.length pl)=>And.intro (row_take h hkL) (row_from h rfl hz.le hkL (fun e=>(hz.no e).2)));have HLT:=hid (show (prI (L.take k)).length=k*2 by rw [prI_length,List.length_take];omega);have HLD:=hid (show (prI (L.drop k)).length=(L.length-k)*2 by rw [prI_length,List.length_drop]);have HIN:=hid (insL_prI L k (x,y));have HKL:=hid hkL;have HMM:=hid hL;subst htH;clear hf hH hkL hL;generalize prI (insL L k (x,y))=Z at *;go_enter Tryz.func59,Tryz.ntmps59
 go_wp2
 refine wp_scope_fwd 0 rfl ?_;go_wp2_with fail
 refine (CK.out _ xbel).mono ?_;rintro e w1 ⟨rfl,hb1⟩;have hz_w1:=hb1.size;try simp only [World.size_alloc,World.size_setCell] at hz_w1
 have hh:=bc9 hb1 (au9 (au9 (au9 (al9 (b:=w.heap.size) xsi))));obtain ⟨c_m0,c_m1,c_m2,c_m3,c_m4,c_m5,c_m6,c_m7,c_m8⟩:=hh;have z_m:=blt hb1 (auz (auz (auz (alz (b:=w.heap.size) xsi))));have hh:=bc6 hb1 (au6 (au6 (al6 (b:=w.heap.size+1) xsi)));obtain ⟨c_t0,c_t1,c_t2,c_t3,c_t4,c_t5⟩:=hh;have z_t:=blt hb1 (auz (auz (alz (b:=w.heap.size+1) xsi)));have hh:=bc2 hb1 (au2 (al2 (b:=w.heap.size+1+1) xsi));obtain ⟨c_p0,c_p1⟩:=hh;have z_p:=blt hb1 (auz (alz (b:=w.heap.size+1+1) xsi));have hh:=bc6 hb1 (al6 (b:=w.heap.size+1+1+1) xsi);obtain ⟨c_r0,c_r1,c_r2,c_r3,c_r4,c_r5⟩:=hh;have hh:=bf6 hb1 (alz (b:=w.heap.size+1+1+1) xsi) (alf6 (b:=w.heap.size+1+1+1) xsi);obtain ⟨f_r0,f_r1,f_r2,f_r3,f_r4,f_r5⟩:=hh;have z_r:=blt hb1 (alz (b:=w.heap.size+1+1+1) xsi);have hB1:Below w.heap.size w w1:=xbel;have HB1:=hid hB1;have hz1:w.heap.size+1+1+1<w1.heap.size:=z_r;clear hb1 hB1;go_upto_region 5 with (fail)
 generalize hw2:w1.alloc _=w2;have hh:=ec9 hw2 (au9 (⟨c_m0,c_m1,c_m2,c_m3,c_m4,c_m5,c_m6,c_m7,c_m8⟩));clear c_m0 c_m1 c_m2 c_m3 c_m4 c_m5 c_m6 c_m7 c_m8;obtain ⟨c_m0,c_m1,c_m2,c_m3,c_m4,c_m5,c_m6,c_m7,c_m8⟩:=hh;replace z_m:=elt hw2 (auz (z_m));have hh:=ec6 hw2 (au6 (⟨c_t0,c_t1,c_t2,c_t3,c_t4,c_t5⟩));clear c_t0 c_t1 c_t2 c_t3 c_t4 c_t5;obtain ⟨c_t0,c_t1,c_t2,c_t3,c_t4,c_t5⟩:=hh;replace z_t:=elt hw2 (auz (z_t));have hh:=ec2 hw2 (au2 (⟨c_p0,c_p1⟩));clear c_p0 c_p1;obtain ⟨c_p0,c_p1⟩:=hh;replace z_p:=elt hw2 (auz (z_p));have hh:=ec6 hw2 (au6 (⟨c_r0,c_r1,c_r2,c_r3,c_r4,c_r5⟩));clear c_r0 c_r1 c_r2 c_r3 c_r4 c_r5;obtain ⟨c_r0,c_r1,c_r2,c_r3,c_r4,c_r5⟩:=hh;have hh:=ef6 hw2 (auf6 z_r ⟨f_r0,f_r1,f_r2,f_r3,f_r4,f_r5⟩);clear f_r0 f_r1 f_r2 f_r3 f_r4 f_r5;obtain ⟨f_r0,f_r1,f_r2,f_r3,f_r4,f_r5⟩:=hh;replace z_r:=elt hw2 (auz (z_r));have c_z0:=ec1 hw2 (al1 (b:=w1.heap.size) xsi);have f_z0:=ef1 hw2 (alf1 (b:=w1.heap.size) xsi);have z_z:=elt hw2 (alz (b:=w1.heap.size) xsi);have hb2:Below w1.heap.size w1 w2:=by rw [←hw2];exact br.alloc (Nat.le_refl _) _
 have HB2:=xv hb2 HB1;clear hw2 hb2;go_wp2_with fail
 refine (AM.out _ HB2.out).mono ?_;rintro e w3 ⟨rfl,hb3⟩;have hz_w3:=hb3.size;simp (disch:=omega) only [xcl hb3,xfr hb3] at *;replace z_m:=blt hb3 z_m;replace z_t:=blt hb3 z_t;replace z_p:=blt hb3 z_p;replace z_r:=blt hb3 z_r;replace z_z:=blt hb3 z_z;have HB3:=xv hb3 HB2;have hz3r:w.heap.size+1+1+1<w3.heap.size:=z_r;have hz3z:w1.heap.size<w3.heap.size:=z_z;clear hb3;go_upto_region 13 with (fail)
 generalize hw4:w3.alloc _=w4;have hh:=ec9 hw4 (au9 (⟨c_m0,c_m1,c_m2,c_m3,c_m4,c_m5,c_m6,c_m7,c_m8⟩));clear c_m0 c_m1 c_m2 c_m3 c_m4 c_m5 c_m6 c_m7 c_m8;obtain ⟨c_m0,c_m1,c_m2,c_m3,c_m4,c_m5,c_m6,c_m7,c_m8⟩:=hh;replace z_m:=elt hw4 (auz (z_m));have hh:=ec6 hw4 (au6 (⟨c_t0,c_t1,c_t2,c_t3,c_t4,c_t5⟩));clear c_t0 c_t1 c_t2 c_t3 c_t4 c_t5;obtain ⟨c_t0,c_t1,c_t2,c_t3,c_t4,c_t5⟩:=hh;replace z_t:=elt hw4 (auz (z_t));have hh:=ec2 hw4 (au2 (⟨c_p0,c_p1⟩));clear c_p0 c_p1;obtain ⟨c_p0,c_p1⟩:=hh;replace z_p:=elt hw4 (auz (z_p));have hh:=ec6 hw4 (au6 (⟨c_r0,c_r1,c_r2,c_r3,c_r4,c_r5⟩));clear c_r0 c_r1 c_r2 c_r3 c_r4 c_r5;obtain ⟨c_r0,c_r1,c_r2,c_r3,c_r4,c_r5⟩:=hh;have hh:=ef6 hw4 (auf6 z_r ⟨f_r0,f_r1,f_r2,f_r3,f_r4,f_r5⟩);clear f_r0 f_r1 f_r2 f_r3 f_r4 f_r5;obtain ⟨f_r0,f_r1,f_r2,f_r3,f_r4,f_r5⟩:=hh;replace z_r:=elt hw4 (auz (z_r));replace c_z0:=ec1 hw4 (au1 (c_z0));replace f_z0:=ef1 hw4 (auf1 z_z f_z0);replace z_z:=elt hw4 (auz (z_z));have hh:=ec2 hw4 (al2 (b:=w3.heap.size) xsi);obtain ⟨c_q0,c_q1⟩:=hh;have hh:=ef2 hw4 (alf2 (b:=w3.heap.size) xsi);obtain ⟨f_q0,f_q1⟩:=hh;have z_q:=elt hw4 (alz (b:=w3.heap.size) xsi);have hb4:Below w3.heap.size w3 w4:=by rw [←hw4];exact br.alloc (Nat.le_refl _) _
 have HB4:=xv hb4 HB3;have HI4:=hid (fun W (hb:Below w4.heap.size w4 W)=>HI.out W w1.heap.size (below_via hb HB4.out HB4.out.size) ((hb.cell (p:=⟨w.heap.size,0,none⟩) z_m).trans c_m0) ((hb.cell (p:=⟨w.heap.size,1,none⟩) z_m).trans c_m1) ((hb.cell (p:=⟨w.heap.size,2,none⟩) z_m).trans c_m2) ((hb.cell (p:=⟨w.heap.size,3,none⟩) z_m).trans c_m3) ((hb.cell (p:=⟨w.heap.size,4,none⟩) z_m).trans c_m4) ((hb.cell (p:=⟨w.heap.size,5,none⟩) z_m).trans c_m5) ((hb.cell (p:=⟨w.heap.size,6,none⟩) z_m).trans c_m6) ((hb.cell (p:=⟨w.heap.size,7,none⟩) z_m).trans c_m7) ((hb.cell (p:=⟨w.heap.size,8,none⟩) z_m).trans c_m8) ((hb.cell (p:=⟨w1.heap.size,0,none⟩) z_z).trans c_z0));have hz14:w1.heap.size<w4.heap.size:=z_z;clear hw4 hb4 HI;refine wp_region_late 10 xk (N:=111) rfl xk xk xdd (fun w'=>Below w4.heap.size w4 w') RB (factRAt [.is (.agg #[.int .i64 seg,.slice wa lw wc,.slice ka n kc,.slice va lv vc,.slice ca lc cc,.int .u64 laid]),.is (.agg #[.int .i64 seg,.slice wa lw wc,.slice ka n kc,.slice va lv vc,.slice ca lc cc,.int .u64 laid]),.is (.int .i64 k),.is (.int .i64 at_),.is (.func (.func 98) #[] #[.pointer (some ⟨w.heap.size,0,none⟩),.pointer (some ⟨w1.heap.size,0,none⟩)]),hiR w4.heap.size a at_ H (H:Int),hiR w4.heap.size a at_ H (H:Int),.is (.int .i64 (H:Int)),paR w4.heap.size a at_ H,.is (.int .i64 (H:Int))]) (factRAt_stays _) br.drew ?steps ?fin
 case steps=>
  refine ⟨?o0,?o1,?o2,?o3,?o4,?o5,?o6,?o7,?o8,?o9,trivial⟩
  case o0=>
   intro u a w' ev hJ hd K hK;have e5:tg a 5= .pointer (some ⟨w.heap.size+1,0,none⟩):=ev 5 xdd;have g0:=xjc hJ c_t0;have g1:=xjc hJ c_t1;have g2:=xjc hJ c_t2;have g3:=xjc hJ c_t3;have g4:=xjc hJ c_t4;have g5:=xjc hJ c_t5;have HK:=hid hK;clear hK ev hd;go_simp;exact HK.out _ _ xzc hJ rfl br
  case o1=>
   intro u a w' ev hJ hd K hK;have e5:tg a 5= .pointer (some ⟨w.heap.size+1,0,none⟩):=ev 5 xdd;have g0:=xjc hJ c_t0;have g1:=xjc hJ c_t1;have g2:=xjc hJ c_t2;have g3:=xjc hJ c_t3;have g4:=xjc hJ c_t4;have g5:=xjc hJ c_t5;have HK:=hid hK;clear hK ev hd;go_simp;exact HK.out _ _ xzc hJ rfl br
  case o2=>
   intro u a w' ev hJ hd K hK;have e2:tg a 2= .int .i64 k:=ev 2 xdd;have HK:=hid hK;clear hK ev hd;go_simp;exact HK.out _ _ xzc hJ rfl br
  case o3=>
   intro u a w' ev hJ hd K hK;have e49:tg a 49= .agg #[.int .i64 seg,.slice wa lw wc,.slice ka n kc,.slice va lv vc,.slice ca lc cc,.int .u64 laid]:=(ev 49 xdd).trans (hd 1 _ xk rfl);have e50:tg a 50= .int .i64 k:=(ev 50 xdd).trans (hd 2 _ xk rfl);have HK:=hid hK;have HC:=hid (HM.out w' (below_via hJ HB4.out HB4.out.size));have hzJ:=hJ.size;clear hK ev hd;go_simp;refine HC.out.mono ?_;rintro e w'' ⟨rfl,hb⟩;exact HK.out _ _ xzc (hJ.trans (hb.mono hzJ)) rfl hb
  case o4=>
   intro u a w' ev hJ hd K hK;have e13:tg a 13= .func (.func 98) #[] #[.pointer (some ⟨w.heap.size,0,none⟩),.pointer (some ⟨w1.heap.size,0,none⟩)]:=ev 13 xdd;have HK:=hid hK;clear hK ev hd;go_simp;exact HK.out _ _ xzc hJ rfl br
  case o5=>
   intro u a w' ev hJ hd K hK;have e48:tg a 48= .agg #[.int .i64 seg,.slice wa lw wc,.slice ka n kc,.slice va lv vc,.slice ca lc cc,.int .u64 laid]:=(ev 48 xdd).trans (hd 0 _ xk rfl);have e51:tg a 51= .int .i64 at_:=(ev 51 xdd).trans (hd 3 _ xk rfl);have e52:tg a 52= .func (.func 98) #[] #[.pointer (some ⟨w.heap.size,0,none⟩),.pointer (some ⟨w1.heap.size,0,none⟩)]:=(ev 52 xdd).trans (hd 4 _ xk rfl);have HK:=hid hK;have HC:=hid (HI4.out w' hJ);have hzJ:=hJ.size;have HJ:=hid hJ;clear hK ev hd hJ;go_simp;refine HC.out.mono ?_;rintro e w'' ⟨y,rfl,hy,hb⟩;exact HK.out _ _ xzc (HJ.out.trans (hb.mono hzJ)) (⟨y,rfl,owns_base hy hzJ⟩) hb
  case o6=>
   intro u a w' ev hJ hd K hK;obtain ⟨y,ht,hy⟩:(hiR w4.heap.size _ at_ H (H:Int)).holds (u 53) w':=hd 5 _ xk rfl;have e53:tg a 53=_:=(ev 53 xdd).trans ht;have HK:=hid hK;have HY:=hid hy;clear hK ev hd hy;go_simp;exact HK.out _ _ xzc hJ (⟨y,rfl,HY.out⟩) br
  case o7=>
   intro u a w' ev hJ hd K hK;obtain ⟨y,ht,hy⟩:(hiR w4.heap.size _ at_ H (H:Int)).holds (u 47) w':=hd 6 _ xk rfl;have e47:tg a 47=_:=(ev 47 xdd).trans ht;have HK:=hid hK;have HY:=hid hy;clear hK ev hd hy;go_simp;exact HK.out _ _ xzc hJ (rfl) br
  case o8=>
   intro u a w' ev hJ hd K hK;obtain ⟨y,ht,hy⟩:(hiR w4.heap.size _ at_ H (H:Int)).holds (u 47) w':=hd 6 _ xk rfl;have e47:tg a 47=_:=(ev 47 xdd).trans ht;have HK:=hid hK;have HY:=hid hy;clear hK ev hd hy;go_simp;exact HK.out _ _ xzc hJ (HY.out) br
  case o9=>
   intro u a w' ev hJ hd K hK;have e54:tg a 54= .int .i64 (H:Int):=(ev 54 xdd).trans (hd 7 _ xk rfl);have HK:=hid hK;clear hK ev hd;go_simp;exact HK.out _ _ xzc hJ rfl br
 case fin=>
  intro u w5 hJ hG;have h16:u 16= .int .i64 (H:Int):=hG 9 _ rfl;have ho5:w5.ownsRow w4.heap.size 122 2 (u 55) (H+1) ((prI (winsL a at_ (H+1))).map (Value.int .i64)):=hG 8 _ rfl;obtain ⟨ra,rc,h55,hi5,-,-,hrc,-⟩:=row_of_owns ho5;have HB5:=xv hJ HB4;have hz_w5:=hJ.size;simp (disch:=omega) only [xcl hJ,xfr hJ] at *;replace z_m:=blt hJ z_m;replace z_t:=blt hJ z_t;replace z_p:=blt hJ z_p;replace z_r:=blt hJ z_r;replace z_z:=blt hJ z_z;replace z_q:=blt hJ z_q;have hz5:w4.heap.size≤w5.heap.size:=hJ.size;clear hG hJ ho5 hi5 HWL HM HI4;simp only [mixFrame,mixL,dstsOf,List.take_succ_cons,List.take_zero,List.filterMap_cons,List.filterMap_nil,List.contains_cons,List.contains_nil,Nat.reduceBEq,Bool.or_false,Bool.false_or,Bool.or_true,Bool.true_or,if_true,if_false,Bool.false_eq_true,Nat.reduceAdd,Nat.zero_add,List.drop_succ_cons,List.drop_zero,h16,h55];go_wp2
  refine wp_goto ?_;show 0=0∧Code.wp _ _ _ _ _;refine ⟨rfl,?_⟩;go_wp2_with fail
  refine (PR.out _ HB5.out).mono ?_;rintro e w6 ⟨v,rfl,ho6,hb6⟩;have hz_w6:=hb6.size;simp (disch:=omega) only [xcl hb6,xfr hb6] at *;replace z_m:=blt hb6 z_m;replace z_t:=blt hb6 z_t;replace z_p:=blt hb6 z_p;replace z_r:=blt hb6 z_r;replace z_z:=blt hb6 z_z;replace z_q:=blt hb6 z_q;have HB6:=xv hb6 HB5;obtain ⟨la,pl,rfl,hi6,-,-,-,-⟩:=row_of_owns ho6;have hz:=atz_owns ho6;have HR:=hid (HRW.out w6 la pl hi6 hz);have HN:=hid (fun h:la=none=>(hz.no h));have HK0:=hid (And.intro HKL.out (And.intro hz.le (Nat.le_trans HKL.out hz.le)));obtain ⟨da,hda⟩:∃da,(if pl=k then la else la.map (·.add (k*2)))=da:=⟨_,rfl⟩
  rw [hda] at HR;have HDA:=hid hda;have HT:=hid HR.out.1;have HD:=hid HR.out.2;have hzr6:w.heap.size+1+1+1<w6.heap.size:=z_r;have hzz6:w1.heap.size<w6.heap.size:=z_z;clear hb6 ho6 hi6 hz HR HRW hda PR;generalize prI (L.take k)=T at *;generalize prI (L.drop k)=D at *;generalize L.length=m at *;go_upto_region 18 with (fail)
  refine wp_region_late 11 xk (N:=111) rfl xk xk xdd (fun w'=>Below w6.heap.size w6 w') RB (factRAt [.is (.slice la m pl),.is (.int .i64 k),.is (.int .i64 k),.is (.slice la k k),.is (.agg #[.int .i64 x,.int .i64 y]),oneR w6.heap.size [.int .i64 x,.int .i64 y],.is (.slice la m pl),.is (.int .i64 k),.is (.slice da (m-k) (pl-k)),ownR w6.heap.size (1+(m-k)) ([.int .i64 x,.int .i64 y]++D.map (Value.int .i64)),ownR w6.heap.size (k+(1+(m-k))) (T.map (Value.int .i64)++([.int .i64 x,.int .i64 y]++D.map (Value.int .i64)))]) (factRAt_stays _) br.drew ?steps ?fin
  case steps=>
   refine ⟨?o0,?o1,?o2,?o3,?o4,?o5,?o6,?o7,?o8,?o9,?o10,trivial⟩
   case o0=>
    intro u a w' ev hJ hd K hK;have e15:tg a 15= .slice la m pl:=ev 15 xdd;have HK:=hid hK;clear hK ev hd;go_simp;exact HK.out _ _ xzc hJ rfl br
   case o1=>
    intro u a w' ev hJ hd K hK;have e2:tg a 2= .int .i64 k:=ev 2 xdd;have HK:=hid hK;clear hK ev hd;go_simp;exact HK.out _ _ xzc hJ rfl br
   case o2=>
    intro u a w' ev hJ hd K hK;have e2:tg a 2= .int .i64 k:=ev 2 xdd;have HK:=hid hK;clear hK ev hd;go_simp;exact HK.out _ _ xzc hJ rfl br
   case o3=>
    intro u a w' ev hJ hd K hK;have e87:tg a 87= .slice la m pl:=(ev 87 xdd).trans (hd 0 _ xk rfl);have e88:tg a 88= .int .i64 k:=(ev 88 xdd).trans (hd 1 _ xk rfl);have e89:tg a 89= .int .i64 k:=(ev 89 xdd).trans (hd 2 _ xk rfl);exact wp_slice_full 87 91 (.tmp 87) (.tmp 88) (.tmp 89) 2 la m pl k rfl Tryz.underlying87 xk e87 e88 e89 HK0.out.2.2 (hK _ _ xzc hJ rfl br)
   case o4=>
    intro u a w' ev hJ hd K hK;have e7:tg a 7= .pointer (some ⟨w.heap.size+1+1,0,none⟩):=ev 7 xdd;have g0:=xjc hJ c_p0;have g1:=xjc hJ c_p1;have HK:=hid hK;clear hK ev hd;go_simp;exact HK.out _ _ xzc hJ rfl br
   case o5=>
    intro u a w' ev hJ hd K hK;have e91:tg a 91= .agg #[.int .i64 x,.int .i64 y]:=(ev 91 xdd).trans (hd 4 _ xk rfl);have f91:a.tmps[91]?.getD undef= .agg #[.int .i64 x,.int .i64 y]:=by rw [←Array.getD_eq_getD_getElem?];exact e91
    have HK:=hid hK;have hzJ:=hJ.size;clear hK ev hd;go_simp;exact HK.out _ _ xzc (hJ.alloc hzJ _) ⟨_,rfl,World.ownsRow_lit _ _ 1 hzJ xdd rfl⟩ (br.alloc (Nat.le_refl _) _)
   case o6=>
    intro u a w' ev hJ hd K hK;have e15:tg a 15= .slice la m pl:=ev 15 xdd;have HK:=hid hK;clear hK ev hd;go_simp;exact HK.out _ _ xzc hJ rfl br
   case o7=>
    intro u a w' ev hJ hd K hK;have e2:tg a 2= .int .i64 k:=ev 2 xdd;have HK:=hid hK;clear hK ev hd;go_simp;exact HK.out _ _ xzc hJ rfl br
   case o8=>
    intro u a w' ev hJ hd K hK;have e93:tg a 93= .slice la m pl:=(ev 93 xdd).trans (hd 6 _ xk rfl);have e94:tg a 94= .int .i64 k:=(ev 94 xdd).trans (hd 7 _ xk rfl);exact wp_slice_from 87 91 (.tmp 93) (.tmp 94) 2 la m pl k da HDA.out rfl Tryz.underlying87 xk e93 e94 HK0.out.1 HK0.out.2.1 (hK _ _ xzc hJ rfl br)
   case o9=>
    intro u a w' ev hJ hd K hK;obtain ⟨bb,h92,hown⟩:(oneR w6.heap.size [.int .i64 x,.int .i64 y]).holds (u 92) w':=hd 5 _ xk rfl;have e92:tg a 92= .slice (some ⟨bb,0,none⟩) 1 1:=(ev 92 xdd).trans h92;rw [h92] at hown;have e95:tg a 95= .slice da (m-k) (pl-k):=(ev 95 xdd).trans (hd 8 _ xk rfl);have hzJ:=hJ.size;obtain ⟨v',w'',hr,ho,hbw⟩:=run_append_cap (P:=Tryz.prog) w' w6.heap.size 87 _ 91 (.agg #[.int .i64 0,.int .i64 0]) 2 16 Tryz.underlying87 info_Pair rfl xdd ⟨bb,0,none⟩ 1 [.int .i64 x,.int .i64 y] hown da (m-k) (pl-k) (D.map (Value.int .i64)) (by rw [List.length_map,HLD.out]) HD.out.2 (row_news' (HD.out.1.below hJ)) (numCells _) (by have:=HMM.out;omega) xdd hzJ;exact wp_value (exec_append rfl e92 e95 hr) (hK _ _ xzc (hJ.trans (hbw.mono hzJ)) ho hbw)
   case o10=>
    intro u a w' ev hJ hd K hK;have e90:tg a 90= .slice la k k:=(ev 90 xdd).trans (hd 3 _ xk rfl);have ho9:w'.ownsRow w6.heap.size 91 2 (u 96) (1+(m-k)) ([.int .i64 x,.int .i64 y]++D.map (Value.int .i64)):=hd 9 _ xk rfl;obtain ⟨b9,c9,h96⟩:∃b9 c9,u 96= .slice (some ⟨b9,0,none⟩) (1+(m-k)) c9:=by
     obtain ⟨-,⟨-,h0⟩ | ⟨b9,c9,cur,h96,-⟩⟩:=ho9
     · omega
     · exact ⟨b9,c9,h96⟩
    rw [h96] at ho9;have e96:tg a 96= .slice (some ⟨b9,0,none⟩) (1+(m-k)) c9:=(ev 96 xdd).trans h96;have hzJ:=hJ.size;obtain ⟨v',w'',hr,ho,hg,-⟩:=run_append_full (P:=Tryz.prog) w' w6.heap.size 87 _ 91 (.agg #[.int .i64 0,.int .i64 0]) 2 16 Tryz.underlying87 info_Pair rfl xdd la k (T.map (Value.int .i64)) (by rw [List.length_map,HLT.out]) (fun h=>by have:=HN.out h;have:=HK0.out;omega) (row_news' (HT.out.below hJ)) ⟨b9,0,none⟩ (1+(m-k)) c9 ([.int .i64 x,.int .i64 y]++D.map (Value.int .i64)) (by rw [List.length_append,List.length_map,HLD.out];simp;omega) (World.ownsRow.cells ho9 (g:=b9) rfl) (fun q hq=>(List.mem_append.1 hq).elim (fun h=>by simp only [List.mem_cons,List.not_mem_nil,or_false] at h;rcases h with rfl|rfl<;>rfl) (fun h=>numCells _ q h)) xo (by have:=HMM.out;have:=HK0.out;omega) xdd hzJ;have hbw:Below w'.heap.size w' w'':=br.grown hg (Nat.le_refl _) (fun k hk=>by cases hk);exact wp_value (exec_append rfl e90 e96 hr) (hK _ _ xzc (hJ.trans (hbw.mono hzJ)) ho hbw)
  case fin=>
   intro u2 w7 hJ hG;have ho7:w7.ownsRow w6.heap.size 91 2 (u2 97) (k+(1+(m-k))) (T.map (Value.int .i64)++([.int .i64 x,.int .i64 y]++D.map (Value.int .i64))):=hG 10 _ rfl;rw [show k+(1+(m-k))=m+1 by have:=HK0.out;omega,show T.map (Value.int .i64)++([.int .i64 x,.int .i64 y]++D.map (Value.int .i64))=(T++[x,y]++D).map (Value.int .i64) by simp,←HIN.out] at ho7;obtain ⟨a7,c7,h97,hi7,hb7,-⟩:=row_of_owns ho7;have HN7:=hid (fun x (hx:a7=some x)=>(show x.block≠w1.heap.size by have:=(hb7 x hx).1;omega));have HB7:=xv hJ HB6;have HI7:=hid hi7;have hz_w7:=hJ.size;simp (disch:=omega) only [xcl hJ,xfr hJ] at *;replace z_m:=blt hJ z_m;replace z_t:=blt hJ z_t;replace z_p:=blt hJ z_p;replace z_r:=blt hJ z_r;replace z_z:=blt hJ z_z;replace z_q:=blt hJ z_q;clear hG hJ ho7 hi7 hb7;simp only [mixFrame,mixL,dstsOf,List.take_succ_cons,List.take_zero,List.filterMap_cons,List.filterMap_nil,List.contains_cons,List.contains_nil,Nat.reduceBEq,Bool.or_false,Bool.false_or,Bool.or_true,Bool.true_or,if_true,if_false,Bool.false_eq_true,Nat.reduceAdd,Nat.zero_add,List.drop_succ_cons,List.drop_zero,h97];go_wp2_with fail
   refine (CP.out _ HB7.out).mono ?_;rintro e w8 ⟨rfl,hb8⟩;have hz_w8:=hb8.size;simp (disch:=omega) only [xcl hb8,xfr hb8] at *;replace z_m:=blt hb8 z_m;replace z_t:=blt hb8 z_t;replace z_p:=blt hb8 z_p;replace z_r:=blt hb8 z_r;replace z_z:=blt hb8 z_z;replace z_q:=blt hb8 z_q;have HB8:=xv hb8 HB7;have HI8:=hid (HI7.out.below hb8);clear hb8 HI7;go_upto_region 20 with (fail)
   generalize hw9:w8.setCell _ _=w9;replace c_m0:w9.cell? ⟨w.heap.size,0,none⟩=some (.int .u8 c.tag):=by rw [←hw9];(exact xcg)
   replace c_m1:w9.cell? ⟨w.heap.size,1,none⟩=some (.int .i64 c.most):=by rw [←hw9];(exact xcg)
   replace c_m2:w9.cell? ⟨w.heap.size,2,none⟩=some (.int .i64 c.seg):=by rw [←hw9];(exact xcg)
   replace c_m3:w9.cell? ⟨w.heap.size,3,none⟩=some (.int .i64 c.least):=by rw [←hw9];(exact xcg)
   replace c_m4:w9.cell? ⟨w.heap.size,4,none⟩=some (.int .i64 c.den):=by rw [←hw9];(exact xcg)
   replace c_m5:w9.cell? ⟨w.heap.size,5,none⟩=some (.int .i64 c.ll):=by rw [←hw9];(exact xcg)
   replace c_m6:w9.cell? ⟨w.heap.size,6,none⟩=some (.int .i64 c.rl):=by rw [←hw9];(exact xcg)
   replace c_m7:w9.cell? ⟨w.heap.size,7,none⟩=some (.int .i64 c.rh):=by rw [←hw9];(exact xcg)
   replace c_m8:w9.cell? ⟨w.heap.size,8,none⟩=some (.int .i64 c.lh):=by rw [←hw9];(exact xcg)
   replace z_m:w.heap.size<w9.heap.size:=by rw [←hw9];(exact xlt)
   replace c_t0:w9.cell? ⟨w.heap.size+1,0,none⟩=some (.int .i64 seg):=by rw [←hw9];(exact xcg)
   replace c_t1:w9.cell? ⟨w.heap.size+1,1,none⟩=some (.slice wa lw wc):=by rw [←hw9];(exact xcg)
   replace c_t2:w9.cell? ⟨w.heap.size+1,2,none⟩=some (.slice ka n kc):=by rw [←hw9];(exact xcg)
   replace c_t3:w9.cell? ⟨w.heap.size+1,3,none⟩=some (.slice va lv vc):=by rw [←hw9];(exact xcg)
   replace c_t4:w9.cell? ⟨w.heap.size+1,4,none⟩=some (.slice ca lc cc):=by rw [←hw9];(exact xcg)
   replace c_t5:w9.cell? ⟨w.heap.size+1,5,none⟩=some (.int .u64 laid):=by rw [←hw9];(exact xcg)
   replace z_t:w.heap.size+1<w9.heap.size:=by rw [←hw9];(exact xlt)
   replace c_p0:w9.cell? ⟨w.heap.size+1+1,0,none⟩=some (.int .i64 x):=by rw [←hw9];(exact xcg)
   replace c_p1:w9.cell? ⟨w.heap.size+1+1,1,none⟩=some (.int .i64 y):=by rw [←hw9];(exact xcg)
   replace z_p:w.heap.size+1+1<w9.heap.size:=by rw [←hw9];(exact xlt)
   replace c_r0:w9.cell? ⟨w.heap.size+1+1+1,0,none⟩=some (.int .i64 0):=by rw [←hw9];(exact xcg)
   replace f_r0:w9.frozen? ⟨w.heap.size+1+1+1,0,none⟩=false:=by rw [←hw9];(exact xcg)
   replace c_r1:w9.cell? ⟨w.heap.size+1+1+1,1,none⟩=some (.slice none 0 0):=by rw [←hw9];(exact xcg)
   replace f_r1:w9.frozen? ⟨w.heap.size+1+1+1,1,none⟩=false:=by rw [←hw9];(exact xcg)
   replace c_r2:w9.cell? ⟨w.heap.size+1+1+1,2,none⟩=some (.slice none 0 0):=by rw [←hw9];(exact xcg)
   replace f_r2:w9.frozen? ⟨w.heap.size+1+1+1,2,none⟩=false:=by rw [←hw9];(exact xcg)
   replace c_r3:w9.cell? ⟨w.heap.size+1+1+1,3,none⟩=some (.slice none 0 0):=by rw [←hw9];(exact xcg)
   replace f_r3:w9.frozen? ⟨w.heap.size+1+1+1,3,none⟩=false:=by rw [←hw9];(exact xcg)
   replace c_r4:w9.cell? ⟨w.heap.size+1+1+1,4,none⟩=some (.slice none 0 0):=by rw [←hw9];(exact xcg)
   replace f_r4:w9.frozen? ⟨w.heap.size+1+1+1,4,none⟩=false:=by rw [←hw9];(exact xcg)
   replace c_r5:w9.cell? ⟨w.heap.size+1+1+1,5,none⟩=some (.int .u64 0):=by rw [←hw9];(exact xcg)
   replace f_r5:w9.frozen? ⟨w.heap.size+1+1+1,5,none⟩=false:=by rw [←hw9];(exact xcg)
   replace z_r:w.heap.size+1+1+1<w9.heap.size:=by rw [←hw9];(exact xlt)
   replace c_z0:w9.cell? ⟨w1.heap.size,0,none⟩=some (.int .i64 size2):=by rw [←hw9];(exact xcg)
   replace f_z0:w9.frozen? ⟨w1.heap.size,0,none⟩=false:=by rw [←hw9];(exact xcg)
   replace z_z:w1.heap.size<w9.heap.size:=by rw [←hw9];(exact xlt)
   replace c_q0:w9.cell? ⟨w3.heap.size,0,none⟩=some (.int .i64 0):=by rw [←hw9];(exact xcg)
   replace f_q0:w9.frozen? ⟨w3.heap.size,0,none⟩=false:=by rw [←hw9];(exact xcg)
   replace c_q1:w9.cell? ⟨w3.heap.size,1,none⟩=some (.int .i64 0):=by rw [←hw9];(exact xcg)
   replace f_q1:w9.frozen? ⟨w3.heap.size,1,none⟩=false:=by rw [←hw9];(exact xcg)
   replace z_q:w3.heap.size<w9.heap.size:=by rw [←hw9];(exact xlt)
   have HB9:Hid (Below w.heap.size w w9):=by rw [←hw9];exact hid (HB8.out.setCell xdo _)
   have HI9:Hid (IsRow .i64 w9 a7 Z):=by rw [←hw9];exact hid (HI8.out.setCell HN7.out _)
   clear hw9;have hzr:w.heap.size+1+1+1<w9.heap.size:=z_r;go_wp2_with fail
   refine (IN.out a7 c7 _ HB9.out HI9.out).mono ?_;rintro e w10 ⟨v1,v2,v3,v4,rfl,p1,p2,p3,p4,hb10⟩;have hz_w10:=hb10.size;simp (disch:=omega) only [xcl hb10,xfr hb10] at *;replace z_m:=blt hb10 z_m;replace z_t:=blt hb10 z_t;replace z_p:=blt hb10 z_p;replace z_r:=blt hb10 z_r;replace z_z:=blt hb10 z_z;replace z_q:=blt hb10 z_q;have HB10:=xv hb10 HB9;obtain ⟨a1,k1,rfl,-,-,-,-,-⟩:=row_of_owns p1;obtain ⟨a2,k2,rfl,-,-,-,-,-⟩:=row_of_owns p2;obtain ⟨a3,k3,rfl,-,-,-,-,-⟩:=row_of_owns p3;obtain ⟨a4,k4,rfl,-,-,-,-,-⟩:=row_of_owns p4;have HP:=hid (And.intro p1 (And.intro p2 (And.intro p3 p4)));clear p1 p2 p3 p4 hb10;go_wp2
   simp only [Exit.jump];have HC:=hid (six_some ⟨c_r0,c_r1,c_r2,c_r3,c_r4,c_r5⟩);exact end_row (W:=w10) (b:=w.heap.size+1+1+1) [.int .i64 d.seg,.slice a1 d.ws.length k1,.slice a2 d.ks.length k2,.slice a3 d.vs.length k3,.slice a4 d.cs.length k4,.int .u64 d.laid] HC rfl rfl (fun _ h=>results_ct rfl rfl (run_loadVar_many _ Tryz.underlying29 rfl xk h)) fun _ s=>⟨_,_,_,_,rfl,s.ow hzr HP.out.1,s.ow hzr HP.out.2.1,s.ow hzr HP.out.2.2.1,s.ow hzr HP.out.2.2.2,s.be HB10.out⟩
end
end Go.Proofs.YtjhpblejlchhjaaGreatDoor

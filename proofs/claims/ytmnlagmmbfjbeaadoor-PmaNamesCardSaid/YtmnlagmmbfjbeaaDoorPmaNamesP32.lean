/- Merged: PmNw, Ref9P, Ref9Ok, PmTuJn, GapNm, PmNums. -/
import Derived.Test.YtmnlagmmbfjbeaaDoorPmaNamesP31
import Derived.Test.YtmnlagmmbfjbeaaDoorPmaNamesP3
import Derived.Test.YtmnlagmmbfjbeaaDoorPmaNamesP19
import Derived.Test.YtmnlagmmbfjbeaaDoorPmaNamesP7
import Derived.Test.YtmnlagmmbfjbeaaDoorPmaNamesP13
import Derived.Test.YtmnlagmmbfjbeaaDoorPmaNamesP20
import Derived.Test.YtmnlagmmbfjbeaaDoorPmaNamesP24
import Derived.Test.YtmnlagmmbfjbeaaDoorPmaNamesP23
import Derived.Test.YtmnlagmmbfjbeaaDoorPmaNamesP21
import Derived.Test.YtmnlagmmbfjbeaaDoorPmaNamesP14
import Derived.Test.YtmnlagmmbfjbeaaDoorPmaNamesP29
namespace Go.Proofs.YtmnlagmmbfjbeaaDoor
set_option maxRecDepth 100000
set_option maxHeartbeats 40000000
set_option linter.unusedVariables false
set_option linter.unusedSimpArgs false
section
open Go.RowKit
theorem least_nums {c:Cfg} (h:cfMay c=true):∃S M:Nat,c.seg=S∧c.least=((S*M:Nat):Int)∧4≤S∧S≤64∧1≤M∧S*M≤65536∧pwB (S:Int)=true∧pwB (M:Int)=true:=by
 have f:=cfHead_facts (cfMay_head h);obtain ⟨s1,s2,a,ea⟩:=powB_nat f.2.2.2.2.1;obtain ⟨l1,l2,b,eb⟩:=powB_nat f.2.2.2.2.2.1;have hab:a≤b:=(Nat.pow_le_pow_iff_right (a:=2) xo).1 xo;have e:2^b=2^a*2^(b-a):=by rw [←Nat.pow_add,show a+(b-a)=b by omega]
 exact ⟨2^a,2^(b-a),ea,by rw [eb,e],by omega,by omega,Nat.two_pow_pos _,by rw [←e];omega,pwB_two _,pwB_two _⟩
def emptyC (c:Cfg):SlC:=emptyL c.seg.toNat (c.least.toNat/c.seg.toNat) 0
def newC (c:Cfg):SlC:=if cfMay c=true then emptyC c else nilC
def newF (c:Cfg):Cfg:=if cfMay c=true then c else ⟨0,0,0,0,0,0,0,0,0⟩
theorem emptyC_eq {c:Cfg} {S M:Nat} (h1:c.seg=S) (h2:c.least=((S*M:Nat):Int)) (h4:4≤S):emptyC c=emptyL S M 0:=by
 rw [emptyC,h1,h2,Int.toNat_natCast,Int.toNat_natCast,Nat.mul_div_cancel_left _ xo]
theorem newSl_ok {c:Cfg} (h:cfMay c=true) (w:World):Calls Tryd.prog 54 #[.int .i64 c.seg,.int .i64 c.least] w (FreshSl2 w (emptyC c) (.int .i64 0)):=by
 obtain ⟨S,M,h1,h2,h4,h6,hM,hm,pS,pM⟩:=least_nums h;obtain ⟨q1,q2,q3,q4⟩:=new_nums (M:=M) h4 hm;rw [emptyC_eq h1 h2 h4,h1,h2];have ge:=emptyL_gd h4 h6 hM hm 0;have gm:=gd_may ge pS pM rfl;refine slNew_core w S (S*M) ((S*M+63)/64) M h4 hm h6 q1 q2 xo q4 (hid fun W'=> ?_);have:=fits_ok (S:Int) ((S*M:Nat):Int) W';rwa [gd_fit ge gm] at this
theorem gapNew_err (c:Cfg) (e:Int) (he:e≠0) (w:World) (CK:Hid (∀W,Calls Tryd.prog 50 #[.agg #[.int .u8 c.tag,.int .i64 c.most,.int .i64 c.seg,.int .i64 c.least,.int .i64 c.den,.int .i64 c.ll,.int .i64 c.rl,.int .i64 c.rh,.int .i64 c.lh]] W (AnsB W (.int .i64 e)))):
    Calls Tryd.prog 28 #[.agg #[.int .u8 c.tag,.int .i64 c.most,.int .i64 c.seg,.int .i64 c.least,.int .i64 c.den,.int .i64 c.ll,.int .i64 c.rl,.int .i64 c.rh,.int .i64 c.lh]] w (FreshSl2 w nilC (.int .i64 e)):=by
 have ge:(e != 0)=true:=by simpa using he
 clear he;go_enter Tryd.func28,Tryd.ntmps28
 go_wp2_with fail
 refine (CK.out _).mono ?_;rintro e w1 ⟨rfl,hb1⟩;have hz_w1:=hb1.size;try simp only [World.size_alloc,World.size_setCell] at hz_w1
 have hh:=bc9 hb1 (au9 (al9 (b:=w.heap.size) xsi));obtain ⟨c_t0,c_t1,c_t2,c_t3,c_t4,c_t5,c_t6,c_t7,c_t8⟩:=hh;have z_t:=blt hb1 (auz (alz (b:=w.heap.size) xsi));have hh:=bc6 hb1 (al6 (b:=w.heap.size+1) xsi);obtain ⟨c_r0,c_r1,c_r2,c_r3,c_r4,c_r5⟩:=hh;have hh:=bf6 hb1 (alz (b:=w.heap.size+1) xsi) (alf6 (b:=w.heap.size+1) xsi);obtain ⟨f_r0,f_r1,f_r2,f_r3,f_r4,f_r5⟩:=hh;have z_r:=blt hb1 (alz (b:=w.heap.size+1) xsi);have hB1:Below w.heap.size w w1:=xbel;go_wp2
 have HC:=hid (six_some ⟨c_r0,c_r1,c_r2,c_r3,c_r4,c_r5⟩);exact end_row (W:=w1) (b:=w.heap.size+1) [.int .i64 0,.slice none 0 0,.slice none 0 0,.slice none 0 0,.slice none 0 0,.int .u64 0] HC rfl rfl (fun _ h=>results_ct rfl rfl (run_loadVar_many _ Tryd.underlying29 rfl xk h)) fun _ s=>⟨_,_,_,_,rfl,World.ownsRow_nil _ _ _ _,World.ownsRow_nil _ _ _ _,World.ownsRow_nil _ _ _ _,World.ownsRow_nil _ _ _ _,s.be hB1⟩
theorem gapNew_in (c:Cfg) (d:SlC) (w:World) (CK:Hid (∀W,Calls Tryd.prog 50 #[.agg #[.int .u8 c.tag,.int .i64 c.most,.int .i64 c.seg,.int .i64 c.least,.int .i64 c.den,.int .i64 c.ll,.int .i64 c.rl,.int .i64 c.rh,.int .i64 c.lh]] W (AnsB W (.int .i64 0)))) (NW:Hid (∀W,Calls Tryd.prog 54 #[.int .i64 c.seg,.int .i64 c.least] W (FreshSl2 W d (.int .i64 0)))):
    Calls Tryd.prog 28 #[.agg #[.int .u8 c.tag,.int .i64 c.most,.int .i64 c.seg,.int .i64 c.least,.int .i64 c.den,.int .i64 c.ll,.int .i64 c.rl,.int .i64 c.rh,.int .i64 c.lh]] w (FreshSl2 w d (.int .i64 0)):=by
 go_enter Tryd.func28,Tryd.ntmps28
 go_wp2_with fail
 refine (CK.out _).mono ?_;rintro e w1 ⟨rfl,hb1⟩;have hz_w1:=hb1.size;try simp only [World.size_alloc,World.size_setCell] at hz_w1
 have hh:=bc9 hb1 (au9 (al9 (b:=w.heap.size) xsi));obtain ⟨c_t0,c_t1,c_t2,c_t3,c_t4,c_t5,c_t6,c_t7,c_t8⟩:=hh;have z_t:=blt hb1 (auz (alz (b:=w.heap.size) xsi));have hh:=bc6 hb1 (al6 (b:=w.heap.size+1) xsi);obtain ⟨c_r0,c_r1,c_r2,c_r3,c_r4,c_r5⟩:=hh;have hh:=bf6 hb1 (alz (b:=w.heap.size+1) xsi) (alf6 (b:=w.heap.size+1) xsi);obtain ⟨f_r0,f_r1,f_r2,f_r3,f_r4,f_r5⟩:=hh;have z_r:=blt hb1 (alz (b:=w.heap.size+1) xsi);have hB1:Below w.heap.size w w1:=xbel;have hz1:=z_r;go_wp2_with fail
 refine (NW.out _).mono ?_;rintro e w2 ⟨v1,v2,v3,v4,rfl,p1,p2,p3,p4,hb2⟩;have hz_w2:=hb2.size;simp (disch:=omega) only [xcl hb2,xfr hb2] at *;replace z_t:=blt hb2 z_t;replace z_r:=blt hb2 z_r;have hB2:=below_via hb2 hB1 hB1.size;obtain ⟨a1,k1,rfl,-,-,-,-,-⟩:=row_of_owns p1;obtain ⟨a2,k2,rfl,-,-,-,-,-⟩:=row_of_owns p2;obtain ⟨a3,k3,rfl,-,-,-,-,-⟩:=row_of_owns p3;obtain ⟨a4,k4,rfl,-,-,-,-,-⟩:=row_of_owns p4;have HP:=hid (And.intro p1 (And.intro p2 (And.intro p3 p4)));clear p1 p2 p3 p4;go_wp2
 have HC:=hid (six_some ⟨c_r0,c_r1,c_r2,c_r3,c_r4,c_r5⟩);exact end_row (W:=w2) (b:=w.heap.size+1) [.int .i64 d.seg,.slice a1 d.ws.length k1,.slice a2 d.ks.length k2,.slice a3 d.vs.length k3,.slice a4 d.cs.length k4,.int .u64 d.laid] HC rfl rfl (fun _ h=>results_ct rfl rfl (run_loadVar_many _ Tryd.underlying29 rfl xk h)) fun _ s=>⟨_,_,_,_,rfl,s.ow hz1 HP.out.1,s.ow hz1 HP.out.2.1,s.ow hz1 HP.out.2.2.1,s.ow hz1 HP.out.2.2.2,s.be hB2⟩
theorem gapNew_ok (c:Cfg) (w:World):Calls Tryd.prog 28 #[.agg #[.int .u8 c.tag,.int .i64 c.most,.int .i64 c.seg,.int .i64 c.least,.int .i64 c.den,.int .i64 c.ll,.int .i64 c.rl,.int .i64 c.rh,.int .i64 c.lh]] w (FreshSl2 w (newC c) (.int .i64 (cfE c))):=by
 cases h:cfMay c with
 | true=>
  have e:cfE c=0:=cfE_ok h;rw [newC,if_pos h,e];exact gapNew_in c (emptyC c) w (hid fun W=>e ▸ Check5_ok c W) (hid fun W=>newSl_ok h W)
 | false=>
  have e:cfE c=50:=by simp [cfE,h]
  rw [newC,if_neg (by simp [h]),e];exact gapNew_err c 50 xdd w (hid fun W=>e ▸ Check5_ok c W)
theorem pmaNew_err (c:Cfg) (d:SlC) (e:Int) (he:e≠0) (w:World) (NG:Hid (∀W,Calls Tryd.prog 28 #[.agg #[.int .u8 c.tag,.int .i64 c.most,.int .i64 c.seg,.int .i64 c.least,.int .i64 c.den,.int .i64 c.ll,.int .i64 c.rl,.int .i64 c.rh,.int .i64 c.lh]] W (FreshSl2 W d (.int .i64 e)))):
    Calls Tryd.prog 16 #[.agg #[.int .u8 c.tag,.int .i64 c.most,.int .i64 c.seg,.int .i64 c.least,.int .i64 c.den,.int .i64 c.ll,.int .i64 c.rl,.int .i64 c.rh,.int .i64 c.lh]] w (FreshPm2 w ⟨0,0,0,0,0,0,0,0,0⟩ nilC (.int .i64 e)):=by
 have ge:(e != 0)=true:=by simpa using he
 clear he;go_enter Tryd.func16,Tryd.ntmps16
 go_wp2_with fail
 refine (NG.out _).mono ?_;rintro e w1 ⟨v1,v2,v3,v4,rfl,p1,p2,p3,p4,hb1⟩;have hz_w1:=hb1.size;try simp only [World.size_alloc,World.size_setCell] at hz_w1
 have hh:=bc9 hb1 (au9 (al9 (b:=w.heap.size) xsi));obtain ⟨c_t0,c_t1,c_t2,c_t3,c_t4,c_t5,c_t6,c_t7,c_t8⟩:=hh;have z_t:=blt hb1 (auz (alz (b:=w.heap.size) xsi));have hh:=bc15 hb1 (al15 (b:=w.heap.size+1) xsi);obtain ⟨c_r0,c_r1,c_r2,c_r3,c_r4,c_r5,c_r6,c_r7,c_r8,c_r9,c_r10,c_r11,c_r12,c_r13,c_r14⟩:=hh;have hh:=bf15 hb1 (alz (b:=w.heap.size+1) xsi) (alf15 (b:=w.heap.size+1) xsi);obtain ⟨f_r0,f_r1,f_r2,f_r3,f_r4,f_r5,f_r6,f_r7,f_r8,f_r9,f_r10,f_r11,f_r12,f_r13,f_r14⟩:=hh;have z_r:=blt hb1 (alz (b:=w.heap.size+1) xsi);have hB1:Below w.heap.size w w1:=xbel;obtain ⟨a1,k1,rfl,-,-,-,-,-⟩:=row_of_owns p1;obtain ⟨a2,k2,rfl,-,-,-,-,-⟩:=row_of_owns p2;obtain ⟨a3,k3,rfl,-,-,-,-,-⟩:=row_of_owns p3;obtain ⟨a4,k4,rfl,-,-,-,-,-⟩:=row_of_owns p4;clear p1 p2 p3 p4;go_upto_region 2 with (fail)
 generalize hw2:w1.alloc _=w2;have hh:=ec9 hw2 (au9 (⟨c_t0,c_t1,c_t2,c_t3,c_t4,c_t5,c_t6,c_t7,c_t8⟩));clear c_t0 c_t1 c_t2 c_t3 c_t4 c_t5 c_t6 c_t7 c_t8;obtain ⟨c_t0,c_t1,c_t2,c_t3,c_t4,c_t5,c_t6,c_t7,c_t8⟩:=hh;replace z_t:=elt hw2 (auz (z_t));have hh:=ec15 hw2 (au15 (⟨c_r0,c_r1,c_r2,c_r3,c_r4,c_r5,c_r6,c_r7,c_r8,c_r9,c_r10,c_r11,c_r12,c_r13,c_r14⟩));clear c_r0 c_r1 c_r2 c_r3 c_r4 c_r5 c_r6 c_r7 c_r8 c_r9 c_r10 c_r11 c_r12 c_r13 c_r14;obtain ⟨c_r0,c_r1,c_r2,c_r3,c_r4,c_r5,c_r6,c_r7,c_r8,c_r9,c_r10,c_r11,c_r12,c_r13,c_r14⟩:=hh;have hh:=ef15 hw2 (auf15 z_r ⟨f_r0,f_r1,f_r2,f_r3,f_r4,f_r5,f_r6,f_r7,f_r8,f_r9,f_r10,f_r11,f_r12,f_r13,f_r14⟩);clear f_r0 f_r1 f_r2 f_r3 f_r4 f_r5 f_r6 f_r7 f_r8 f_r9 f_r10 f_r11 f_r12 f_r13 f_r14;obtain ⟨f_r0,f_r1,f_r2,f_r3,f_r4,f_r5,f_r6,f_r7,f_r8,f_r9,f_r10,f_r11,f_r12,f_r13,f_r14⟩:=hh;replace z_r:=elt hw2 (auz (z_r));have hB2:Below w.heap.size w w2:=by rw [←hw2];exact hB1.alloc hB1.size _
 clear hw2;go_wp2
 have HC:=hid (fifteen_some ⟨c_r0,c_r1,c_r2,c_r3,c_r4,c_r5,c_r6,c_r7,c_r8,c_r9,c_r10,c_r11,c_r12,c_r13,c_r14⟩);exact end_row (W:=w2) (b:=w.heap.size+1) [.int .u8 0,.int .i64 0,.int .i64 0,.int .i64 0,.int .i64 0,.int .i64 0,.int .i64 0,.int .i64 0,.int .i64 0,.int .i64 0,.slice none 0 0,.slice none 0 0,.slice none 0 0,.slice none 0 0,.int .u64 0] HC rfl rfl (fun _ h=>results_ct rfl rfl (run_loadVar_many _ Tryd.underlying31 rfl xk h)) fun _ s=>⟨_,_,_,_,rfl,World.ownsRow_nil _ _ _ _,World.ownsRow_nil _ _ _ _,World.ownsRow_nil _ _ _ _,World.ownsRow_nil _ _ _ _,s.be hB2⟩
theorem pmaNew_in (c:Cfg) (d:SlC) (w:World) (NG:Hid (∀W,Calls Tryd.prog 28 #[.agg #[.int .u8 c.tag,.int .i64 c.most,.int .i64 c.seg,.int .i64 c.least,.int .i64 c.den,.int .i64 c.ll,.int .i64 c.rl,.int .i64 c.rh,.int .i64 c.lh]] W (FreshSl2 W d (.int .i64 0)))):
    Calls Tryd.prog 16 #[.agg #[.int .u8 c.tag,.int .i64 c.most,.int .i64 c.seg,.int .i64 c.least,.int .i64 c.den,.int .i64 c.ll,.int .i64 c.rl,.int .i64 c.rh,.int .i64 c.lh]] w (FreshPm2 w c d (.int .i64 0)):=by
 go_enter Tryd.func16,Tryd.ntmps16
 go_wp2_with fail
 refine (NG.out _).mono ?_;rintro e w1 ⟨v1,v2,v3,v4,rfl,p1,p2,p3,p4,hb1⟩;have hz_w1:=hb1.size;try simp only [World.size_alloc,World.size_setCell] at hz_w1
 have hh:=bc9 hb1 (au9 (al9 (b:=w.heap.size) xsi));obtain ⟨c_t0,c_t1,c_t2,c_t3,c_t4,c_t5,c_t6,c_t7,c_t8⟩:=hh;have z_t:=blt hb1 (auz (alz (b:=w.heap.size) xsi));have hh:=bc15 hb1 (al15 (b:=w.heap.size+1) xsi);obtain ⟨c_r0,c_r1,c_r2,c_r3,c_r4,c_r5,c_r6,c_r7,c_r8,c_r9,c_r10,c_r11,c_r12,c_r13,c_r14⟩:=hh;have hh:=bf15 hb1 (alz (b:=w.heap.size+1) xsi) (alf15 (b:=w.heap.size+1) xsi);obtain ⟨f_r0,f_r1,f_r2,f_r3,f_r4,f_r5,f_r6,f_r7,f_r8,f_r9,f_r10,f_r11,f_r12,f_r13,f_r14⟩:=hh;have z_r:=blt hb1 (alz (b:=w.heap.size+1) xsi);have hB1:Below w.heap.size w w1:=xbel;obtain ⟨a1,k1,rfl,-,-,-,-,-⟩:=row_of_owns p1;obtain ⟨a2,k2,rfl,-,-,-,-,-⟩:=row_of_owns p2;obtain ⟨a3,k3,rfl,-,-,-,-,-⟩:=row_of_owns p3;obtain ⟨a4,k4,rfl,-,-,-,-,-⟩:=row_of_owns p4;go_upto_region 2 with (fail)
 generalize hw2:w1.alloc _=w2;have hh:=ec9 hw2 (au9 (⟨c_t0,c_t1,c_t2,c_t3,c_t4,c_t5,c_t6,c_t7,c_t8⟩));clear c_t0 c_t1 c_t2 c_t3 c_t4 c_t5 c_t6 c_t7 c_t8;obtain ⟨c_t0,c_t1,c_t2,c_t3,c_t4,c_t5,c_t6,c_t7,c_t8⟩:=hh;replace z_t:=elt hw2 (auz (z_t));have hh:=ec15 hw2 (au15 (⟨c_r0,c_r1,c_r2,c_r3,c_r4,c_r5,c_r6,c_r7,c_r8,c_r9,c_r10,c_r11,c_r12,c_r13,c_r14⟩));clear c_r0 c_r1 c_r2 c_r3 c_r4 c_r5 c_r6 c_r7 c_r8 c_r9 c_r10 c_r11 c_r12 c_r13 c_r14;obtain ⟨c_r0,c_r1,c_r2,c_r3,c_r4,c_r5,c_r6,c_r7,c_r8,c_r9,c_r10,c_r11,c_r12,c_r13,c_r14⟩:=hh;have hh:=ef15 hw2 (auf15 z_r ⟨f_r0,f_r1,f_r2,f_r3,f_r4,f_r5,f_r6,f_r7,f_r8,f_r9,f_r10,f_r11,f_r12,f_r13,f_r14⟩);clear f_r0 f_r1 f_r2 f_r3 f_r4 f_r5 f_r6 f_r7 f_r8 f_r9 f_r10 f_r11 f_r12 f_r13 f_r14;obtain ⟨f_r0,f_r1,f_r2,f_r3,f_r4,f_r5,f_r6,f_r7,f_r8,f_r9,f_r10,f_r11,f_r12,f_r13,f_r14⟩:=hh;replace z_r:=elt hw2 (auz (z_r));have hh:=ec6 hw2 (al6 (b:=w1.heap.size) xsi);obtain ⟨c_o0,c_o1,c_o2,c_o3,c_o4,c_o5⟩:=hh;have z_o:=elt hw2 (alz (b:=w1.heap.size) xsi);have hb2:Below w1.heap.size w1 w2:=by rw [←hw2];exact br.alloc (Nat.le_refl _) _
 have hB2:=below_via hb2 hB1 hB1.size;have hz1:w.heap.size+1<w.heap.size+2:=xo;simp only [World.size_alloc] at p1 p2 p3 p4;have HP:=hid (And.intro (owns_below p1 hb2) (And.intro (owns_below p2 hb2) (And.intro (owns_below p3 hb2) (owns_below p4 hb2))));clear hw2 p1 p2 p3 p4;go_wp2
 have HC:=hid (fifteen_some ⟨c_r0,c_r1,c_r2,c_r3,c_r4,c_r5,c_r6,c_r7,c_r8,c_r9,c_r10,c_r11,c_r12,c_r13,c_r14⟩);exact end_row (W:=w2) (b:=w.heap.size+1) [.int .u8 c.tag,.int .i64 c.most,.int .i64 c.seg,.int .i64 c.least,.int .i64 c.den,.int .i64 c.ll,.int .i64 c.rl,.int .i64 c.rh,.int .i64 c.lh,.int .i64 d.seg,.slice a1 d.ws.length k1,.slice a2 d.ks.length k2,.slice a3 d.vs.length k3,.slice a4 d.cs.length k4,.int .u64 d.laid] HC rfl rfl (fun _ h=>results_ct rfl rfl (run_loadVar_many _ Tryd.underlying31 rfl xk h)) fun _ s=>⟨_,_,_,_,rfl,s.ow hz1 HP.out.1,s.ow hz1 HP.out.2.1,s.ow hz1 HP.out.2.2.1,s.ow hz1 HP.out.2.2.2,s.be hB2⟩
theorem pmaNew_ok (c:Cfg) (w:World):Calls Tryd.prog 16 #[.agg #[.int .u8 c.tag,.int .i64 c.most,.int .i64 c.seg,.int .i64 c.least,.int .i64 c.den,.int .i64 c.ll,.int .i64 c.rl,.int .i64 c.rh,.int .i64 c.lh]] w (FreshPm2 w (newF c) (newC c) (.int .i64 (cfE c))):=by
 cases h:cfMay c with
 | true=>
  have e:cfE c=0:=cfE_ok h;have hn:newC c=emptyC c:=by rw [newC,if_pos h]
  rw [newF,if_pos h,e];exact pmaNew_in c (newC c) w (hid fun W=>e ▸ gapNew_ok c W)
 | false=>
  have e:cfE c=50:=by simp [cfE,h]
  rw [newF,if_neg (by simp [h]),newC,if_neg (by simp [h]),e];exact pmaNew_err c (newC c) 50 xdd w (hid fun W=>e ▸ gapNew_ok c W)
end
section
open Go.RowKit Go.Shelf Go.Sort
attribute [local go_sem] Oper.semAt_some
end
section
open Go.RowKit
end
section
open Go.RowKit
theorem seg_gd {c:Cfg} {s:SlC} {a H:Nat} (kn:GapN c s a H) (hu:U64s s.ws):SlGd s (2^a) s.ws.length s.ks.length s.cs.length:=by
 obtain ⟨g,-⟩:=gapN_gd kn hu;rw [g.elw,g.elc];exact g
theorem pmLay_ok {c:Cfg} {s:SlC} (hg:gapE c s=0) (sa:SlA) (i:Nat) (hi:i<s.ks.length) (x y:Int) (w:World) (hin:SlIn w s sa):
    Calls Tryd.prog 22 #[slV s sa,.int .i64 i,.agg #[.int .i64 x,.int .i64 y]] w (FreshSl2 w (lyC s i x y) (.int .i64 0)):=by
 obtain ⟨hc,a,H,kn,hs,hmost,hden⟩:=gap_zero hg;obtain ⟨g0,hlw⟩:=gapN_gd kn hin.u;obtain ⟨p1,p2,p3,p4,p5,p6⟩:=kn.pows;have g:=seg_gd kn hin.u;have hew:=g0.elw;have hvk:s.vs.length=s.ks.length:=g.elv;have hpH:=Nat.two_pow_pos H;have hcl:s.cs.length=2^H:=g0.elc;have CK:=hid (fun W (hb:Below w.heap.size w W)=>slCheck_ok s sa xo xo W (hin.below hb));have hE:slE s=0:=by rw [slE,if_pos kn.may]
 rw [hE] at CK;have TW:=hid (fun W (hb:Below w.heap.size w W)=>slTwin_ok s sa W (hin.below hb) xo xo xo xo);have hok:=g.ok;have hwn:=g.wn;have hcn:=g.cn;have hsg:=g.seg;dsimp only [slV] at *;rw [hvk] at CK TW ⊢;exact slLayW_core w s.seg sa.wa sa.ka sa.va sa.ca sa.wc sa.kc sa.vc sa.cc s.ws.length s.ks.length s.cs.length s.laid s i (2^a) x y rfl rfl rfl rfl hvk rfl xo xo xo xo xo xo hsg xo hi hwn hcn hok CK TW
theorem pmaPut_ok (c:Cfg) (s:SlC) (sa:SlA) (key val:Int) (hl:s.ws.length≤1000000000000) (hl2:s.ks.length≤1000000000000) (hcc:s.cs.length≤sa.cc) (w:World) (hin:SlIn w s sa) (hT:TabAt w):
    Calls Tryd.prog 10 #[pmV c s sa,.int .i64 key,.int .i64 val] w (FreshPm2 w (pPutF c s key) (pPutC c s key val) (.int .i64 (pPutE c s key))):=by
 have CK:Hid (∀W,Below w.heap.size w W→Calls Tryd.prog 13 #[pmV c s sa] W (AnsB W (.int .i64 (pmE c s)))):=hid fun W hb=>pmaCheck_ok c s sa hl hl2 hcc W (hin.below hb)
 by_cases h0:pmE c s=0
 · obtain ⟨hg,hs⟩:=pm_zero h0;rw [h0] at CK;have FN:Hid (∀W,Below w.heap.size w W→Calls Tryd.prog 20 #[slV s sa,.int .i64 key] W (AnsB W (.tuple #[.int .i64 (findV s key).1,.int .i64 (findV s key).2]))):=hid fun W hb=>seekFind_ok s sa key hl hl2 W (hin.below hb) (hT.below hb)
   cases hb:hasB s key with
   | true=>
    obtain ⟨e1,h1,h2,h3,-⟩:=has_yes hs hb;have e:pPutE c s key=0:=by rw [pPutE,if_pos h0,if_pos hb]
    rw [e1] at FN;rw [pPutF,if_pos e,pPutC,if_pos e,if_pos hb,e];exact pmaPut_lay c s _ sa.wa sa.ka sa.va sa.ca sa.wc sa.kc sa.vc sa.cc key val (posC s key) w CK FN (hid fun W hw=>pmLay_ok hg sa _ h1 key val W (hin.below hw))
   | false=>
    obtain ⟨e1,-⟩:=has_no hs hb;rw [e1] at FN;have RK:Hid (∀W,Below w.heap.size w W→Calls Tryd.prog 23 #[slV s sa,.int .i64 key] W (AnsB W (.tuple #[.int .i64 (rankV s key).1,.int .i64 (rankV s key).2]))):=hid fun W hw=>seekRank_ok s sa key hl hl2 W (hin.below hw) (hT.below hw)
    have er:rankV s key=((rnkC s key:Int),0):=by rw [rankV,if_pos hs];rfl
    rw [er] at RK;have GP:Hid (∀W,Below w.heap.size w W→Calls Tryd.prog 24 #[.agg #[.int .u8 c.tag,.int .i64 c.most,.int .i64 c.seg,.int .i64 c.least,.int .i64 c.den,.int .i64 c.ll,.int .i64 c.rl,.int .i64 c.rh,.int .i64 c.lh],slV s sa,.int .i64 (rnkC s key),.agg #[.int .i64 key,.int .i64 val]] W (FreshSl2 W (putC c s (rnkC s key) (key,val)) (.int .i64 (putE c s (rnkC s key))))):=hid fun W hw=>gapPut_ok c s sa hl hl2 hcc (rnkC s key) key val W (hin.below hw) (hT.below hw)
    have hp:=pmput_e (key:=key) h0;by_cases hm:(manyC s:Int)=c.most
    · have e:pPutE c s key=9:=by rw [pPutE,if_pos h0,hb,if_neg xdd,if_pos hm]
      rw [if_pos hm] at hp;have ec:putC c s (rnkC s key) (key,val)=nilC:=by rw [putC,hp,if_neg xdd]
      rw [ec,hp] at GP;rw [pPutF,pPutC,e,if_neg xdd,if_neg xdd];exact pmaPut_full c s sa.wa sa.ka sa.va sa.ca sa.wc sa.kc sa.vc sa.cc key val 0 6 (rnkC s key) xdd w CK FN RK GP
    · have e:pPutE c s key=0:=by rw [pPutE,if_pos h0,hb,if_neg xdd,if_neg hm]
      rw [if_neg hm] at hp;rw [hp] at GP;rw [pPutF,if_pos e,pPutC,if_pos e,hb,if_neg xdd,e];exact pmaPut_in c s _ sa.wa sa.ka sa.va sa.ca sa.wc sa.kc sa.vc sa.cc key val 0 6 (rnkC s key) xdd w CK FN RK GP
 · have e:pPutE c s key=pmE c s:=by rw [pPutE,if_neg h0]
   rw [pPutF,pPutC,e,if_neg h0,if_neg h0];exact pmaPut_err c s sa.wa sa.ka sa.va sa.ca sa.wc sa.kc sa.vc sa.cc key val _ h0 w CK
theorem pmaDel_ok (c:Cfg) (s:SlC) (sa:SlA) (key:Int) (hl:s.ws.length≤1000000000000) (hl2:s.ks.length≤1000000000000) (hcc:s.cs.length≤sa.cc) (w:World) (hin:SlIn w s sa) (hT:TabAt w):
    Calls Tryd.prog 11 #[pmV c s sa,.int .i64 key] w (FreshPm2 w (pDelF c s key) (pDelC c s key) (.int .i64 (pDelE c s key))):=by
 have CK:Hid (∀W,Below w.heap.size w W→Calls Tryd.prog 13 #[pmV c s sa] W (AnsB W (.int .i64 (pmE c s)))):=hid fun W hb=>pmaCheck_ok c s sa hl hl2 hcc W (hin.below hb)
 by_cases h0:pmE c s=0
 · obtain ⟨hg,hs⟩:=pm_zero h0;rw [h0] at CK;have FN:Hid (∀W,Below w.heap.size w W→Calls Tryd.prog 20 #[slV s sa,.int .i64 key] W (AnsB W (.tuple #[.int .i64 (findV s key).1,.int .i64 (findV s key).2]))):=hid fun W hb=>seekFind_ok s sa key hl hl2 W (hin.below hb) (hT.below hb)
   cases hb:hasB s key with
   | true=>
    obtain ⟨e1,h1,h2,h3,-⟩:=has_yes hs hb;have e:pDelE c s key=0:=by rw [pDelE,if_pos h0,if_pos hb]
    rw [e1] at FN;have RK:Hid (∀W,Below w.heap.size w W→Calls Tryd.prog 23 #[slV s sa,.int .i64 key] W (AnsB W (.tuple #[.int .i64 (rankV s key).1,.int .i64 (rankV s key).2]))):=hid fun W hw=>seekRank_ok s sa key hl hl2 W (hin.below hw) (hT.below hw)
    have er:rankV s key=((rnkC s key:Int),0):=by rw [rankV,if_pos hs];rfl
    rw [er] at RK;have GP:Hid (∀W,Below w.heap.size w W→Calls Tryd.prog 25 #[.agg #[.int .u8 c.tag,.int .i64 c.most,.int .i64 c.seg,.int .i64 c.least,.int .i64 c.den,.int .i64 c.ll,.int .i64 c.rl,.int .i64 c.rh,.int .i64 c.lh],slV s sa,.int .i64 (rnkC s key)] W (FreshSl2 W (takC c s (rnkC s key)) (.int .i64 (takE c s (rnkC s key))))):=hid fun W hw=>gapTake_ok c s sa hl hl2 hcc (rnkC s key) W (hin.below hw) (hT.below hw)
    rw [pmtak_e h0 hb] at GP;rw [pDelF,if_pos e,pDelC,if_pos e,e];exact pmaDel_in c s _ sa.wa sa.ka sa.va sa.ca sa.wc sa.kc sa.vc sa.cc key (posC s key) (rnkC s key) w CK FN RK GP
   | false=>
    obtain ⟨e1,-⟩:=has_no hs hb;have e:pDelE c s key=6:=by rw [pDelE,if_pos h0,hb,if_neg xdd]
    rw [e1] at FN;rw [pDelF,pDelC,e,if_neg xdd,if_neg xdd];exact pmaDel_none c s sa.wa sa.ka sa.va sa.ca sa.wc sa.kc sa.vc sa.cc key 0 6 xdd w CK FN
 · have e:pDelE c s key=pmE c s:=by rw [pDelE,if_neg h0]
   rw [pDelF,pDelC,e,if_neg h0,if_neg h0];exact pmaDel_err c s sa.wa sa.ka sa.va sa.ca sa.wc sa.kc sa.vc sa.cc key _ h0 w CK
end
section
open Go.RowKit
theorem put_zero {c:Cfg} {s:SlC} {k:Int} (h:putE c s k=0):gapE c s=0∧0≤k∧k≤manyC s∧(manyC s:Int)≠c.most:=by
 unfold putE at h;by_cases h0:gapE c s=0
 · rw [if_pos h0] at h;by_cases h1:k<0∨(manyC s:Int)<k
   · rw [if_pos h1] at h;omega
   · rw [if_neg h1] at h;by_cases h2:(manyC s:Int)=c.most
     · rw [if_pos h2] at h;omega
     · exact ⟨h0,by omega,by omega,h2⟩
 · rw [if_neg h0] at h;exact absurd h h0
theorem take_zero {c:Cfg} {s:SlC} {k:Int} (h:takE c s k=0):gapE c s=0∧0≤k∧k<manyC s:=by
 unfold takE at h;by_cases h0:gapE c s=0
 · rw [if_pos h0] at h;by_cases h1:k<0∨(manyC s:Int)≤k
   · rw [if_pos h1] at h;omega
   · exact ⟨h0,by omega,by omega⟩
 · rw [if_neg h0] at h;exact absurd h h0
theorem gd_nums {d:SlC} {S n lc:Nat} (g:SlGd d S ((n+63)/64) n lc):d.ws.length≤1000000∧d.ks.length≤1000000∧d.vs.length≤1000000∧d.cs.length≤1000000∧U64s d.ws:=by
 have h1:=g.elw;have h2:=g.elk;have h3:=g.elv;have h4:=g.elc;have h5:=g.cn;have h6:=g.s4;have h7:=g.nm;have h9:1*lc≤S*lc:=Nat.mul_le_mul_right _ xo;exact ⟨by omega,by omega,by omega,by omega,g.u⟩
theorem nil_nums:nilC.ws.length≤1000000∧nilC.ks.length≤1000000∧nilC.vs.length≤1000000∧nilC.cs.length≤1000000∧U64s nilC.ws:=
  ⟨Nat.zero_le _,Nat.zero_le _,Nat.zero_le _,Nat.zero_le _,fun x hx=>by cases hx⟩
theorem put_gd {c:Cfg} {s:SlC} (hu:U64s s.ws) {k:Int} (p:Int×Int) (h:putE c s k=0):∃S n lc,SlGd (putC c s k p) S ((n+63)/64) n lc:=by
 obtain ⟨h0,k0,k1,k2⟩:=put_zero h;obtain ⟨hc,a,H,kn,hs,hmost,hden⟩:=gap_zero h0;rw [sum_many kn hu] at hmost;obtain ⟨g,hlw⟩:=gapN_gd kn hu;obtain ⟨p1,p2,p3,p4,p5,p6⟩:=kn.pows;obtain ⟨n,rfl⟩:∃n:Nat,k=n:=⟨k.toNat,by omega⟩
 have hn:n≤manyC s:=xo;have hat:=homeC_lt p5 n;rw [putC,if_pos h,sgL_eq kn.cap.seg,kn.cap.hgt,Int.toNat_natCast];unfold putN;by_cases ht:topI (ovB c s a H (homeC s n)) (H+1)=H
 · rw [if_pos ht];have hLn:(prs s 0 s.ks.length).length=manyC s:=prs_length _ _ _;have hil:(insL (prs s 0 s.ks.length) n p).length=manyC s+1:=by rw [insL_length (by rw [hLn];exact hn),hLn]
   have hcap:=cap_facts kn (n:=manyC s+1) xo;exact ⟨_,_,_,(emptyL_gd p1 p2 hcap.2.2.1 hcap.2.2.2.1 s.laid).sp (Nat.zero_le _) (Nat.le_refl _) (by rw [hil];have:=hcap.2.2.2.2.1;omega)⟩
 · rw [if_neg ht];obtain ⟨h',eh,hh,hroom⟩:=put_room kn hu hat ht;have hht:(topI (ovB c s a H (homeC s n)) (H+1)+1).toNat=h':=xo;simp only [hht];have b:=wnd_bd (a:=a) (at_:=homeC s n) hh (by rw [←kn.nk];exact hat);have hhi:(wnd a h' (homeC s n)+1)*2^(a+h')≤s.ks.length:=by rw [kn.nk];exact b.2.2.2
   obtain ⟨q1,q2⟩:=home_in p5 hn b.2.1 b.2.2.1 hhi;have hil:=insL_length q2 p;have hpl:=prs_length s (wnd a h' (homeC s n)*2^(a+h')) ((wnd a h' (homeC s n)+1)*2^(a+h'));have eww:(wnd a h' (homeC s n)+1)*2^(a+h')=wnd a h' (homeC s n)*2^(a+h')+2^(a+h'):=Nat.succ_mul _ _;exact ⟨_,_,_,g.sp xo hhi (by rw [hil,hpl];omega)⟩
theorem put_nums (c:Cfg) (s:SlC) (hu:U64s s.ws) (k:Int) (p:Int×Int):(putC c s k p).ws.length≤1000000∧(putC c s k p).ks.length≤1000000∧(putC c s k p).vs.length≤1000000∧(putC c s k p).cs.length≤1000000∧U64s (putC c s k p).ws:=by
 by_cases h:putE c s k=0
 · obtain ⟨_,_,_,g⟩:=put_gd hu p h;exact gd_nums g
 · rw [putC,if_neg h];exact nil_nums
theorem take_gd {c:Cfg} {s:SlC} (hu:U64s s.ws) {k:Int} (h:takE c s k=0):∃S n lc,SlGd (takC c s k) S ((n+63)/64) n lc:=by
 obtain ⟨h0,k0,k1⟩:=take_zero h;obtain ⟨hc,a,H,kn,hs,hmost,hden⟩:=gap_zero h0;obtain ⟨n,rfl⟩:∃n:Nat,k=n:=⟨k.toNat,by omega⟩
 have hn:n<(plsW s.ws 0 s.ks.length).length:=by rw [plsW_length];unfold manyC at k1;omega
 obtain ⟨hr,hbit,hat⟩:=pls_rank hn;rw [takC,if_pos h,sgL_eq kn.cap.seg,kn.cap.hgt,Int.toNat_natCast];unfold takN;generalize (plsW s.ws 0 s.ks.length).getD n 0=at_ at *;obtain ⟨kz,gz,zl,t1,t2,hzm⟩:=take_in kn hu hat hbit;dsimp only;generalize tkC s at_=z at *;obtain ⟨z1,z2,z3,z4,z5,z6⟩:=kz.pows;by_cases ht1:topI (unfB c z a H at_) (H+1)= -1
 · rw [if_pos ht1];exact ⟨_,_,_,gz⟩
 · rw [if_neg ht1];by_cases ht:topI (unfB c z a H at_) (H+1)=H
   · rw [if_pos ht];have hLn:(prs z 0 z.ks.length).length=manyC z:=prs_length _ _ _;have hcn:manyC z≤z.ks.length:=by have:=cntW_le z.ws 0 z.ks.length;unfold manyC;omega
     obtain ⟨H',n1,n2,n3,n4⟩:=nar_ok (m:=manyC z) 20 z.ks.length a H kz.cap xo xo;have hnar:narF c (manyC z) 20 z.ks.length=((2^a*2^H':Nat):Int):=n2.all;have hbig:=n2.big;have hdiv:(narF c (manyC z) 20 z.ks.length).toNat/2^a=2^H':=by rw [hnar,Int.toNat_natCast,Nat.mul_div_cancel_left _ xo]
     rw [hdiv];have hle:manyC z≤2^a*2^H':=by rw [hnar] at n3;omega
     exact ⟨_,_,_,(emptyL_gd z1 z2 (Nat.two_pow_pos H') hbig z.laid).sp (Nat.zero_le _) (Nat.le_refl _) (by rw [hLn];omega)⟩
   · rw [if_neg ht];obtain ⟨h',eh,hh⟩:∃h':Nat,topI (unfB c z a H at_) (H+1)+1=h'∧h'≤H:=by
      have:=topI_bd (unfB c z a H at_) (H+1);exact ⟨(topI (unfB c z a H at_) (H+1)+1).toNat,by omega,by omega⟩
     have hht:(topI (unfB c z a H at_) (H+1)+1).toNat=h':=xo;simp only [hht];have b:=wnd_bd (a:=a) (at_:=at_) hh (by rw [←kz.nk];omega);have hhi:(wnd a h' at_+1)*2^(a+h')≤s.ks.length:=by rw [←zl,kz.nk];exact b.2.2.2
     have eww:(wnd a h' at_+1)*2^(a+h')=wnd a h' at_*2^(a+h')+2^(a+h'):=Nat.succ_mul _ _;have hpl:=prs_length z (wnd a h' at_*2^(a+h')) ((wnd a h' at_+1)*2^(a+h'));have hc2:=cntW_le z.ws (wnd a h' at_*2^(a+h')) ((wnd a h' at_+1)*2^(a+h'));exact ⟨_,_,_,gz.sp xo hhi (by rw [hpl];exact hc2)⟩
theorem take_nums (c:Cfg) (s:SlC) (hu:U64s s.ws) (k:Int):(takC c s k).ws.length≤1000000∧(takC c s k).ks.length≤1000000∧(takC c s k).vs.length≤1000000∧(takC c s k).cs.length≤1000000∧U64s (takC c s k).ws:=by
 by_cases h:takE c s k=0
 · obtain ⟨_,_,_,g⟩:=take_gd hu h;exact gd_nums g
 · rw [takC,if_neg h];exact nil_nums
theorem new_nums9 (c:Cfg):(newC c).ws.length≤1000000∧(newC c).ks.length≤1000000∧(newC c).vs.length≤1000000∧(newC c).cs.length≤1000000∧U64s (newC c).ws:=by
 unfold newC;split
 · rename_i h
   obtain ⟨S,M,h1,h2,h4,h6,hM,hm,-,-⟩:=least_nums h;rw [emptyC_eq h1 h2 h4];exact gd_nums (emptyL_gd h4 h6 hM hm 0)
 · exact nil_nums
end
section
open Go.RowKit
theorem pput_nums (c:Cfg) (s:SlC) (hu:U64s s.ws) (key val:Int):(pPutC c s key val).ws.length≤1000000∧(pPutC c s key val).ks.length≤1000000∧(pPutC c s key val).vs.length≤1000000∧(pPutC c s key val).cs.length≤1000000∧U64s (pPutC c s key val).ws:=by
 by_cases h:pPutE c s key=0
 · rw [pPutC,if_pos h];cases hb:hasB s key with
   | true=>
    rw [if_pos rfl];have h0:pmE c s=0:=by
     by_cases h0:pmE c s=0
     · exact h0
     · rw [pPutE,if_neg h0] at h;exact h
    obtain ⟨hg,hs⟩:=pm_zero h0;obtain ⟨hc,a,H,kn,hsg,hmost,hden⟩:=gap_zero hg;obtain ⟨g,-⟩:=gapN_gd kn hu;exact gd_nums (g.ly (has_yes hs hb).2.1 key val)
   | false=>rw [if_neg xdd];exact put_nums c s hu _ _
 · rw [pPutC,if_neg h];exact nil_nums
theorem pdel_nums (c:Cfg) (s:SlC) (hu:U64s s.ws) (key:Int):(pDelC c s key).ws.length≤1000000∧(pDelC c s key).ks.length≤1000000∧(pDelC c s key).vs.length≤1000000∧(pDelC c s key).cs.length≤1000000∧U64s (pDelC c s key).ws:=by
 by_cases h:pDelE c s key=0
 · rw [pDelC,if_pos h];exact take_nums c s hu _
 · rw [pDelC,if_neg h];exact nil_nums
end
end Go.Proofs.YtmnlagmmbfjbeaaDoor

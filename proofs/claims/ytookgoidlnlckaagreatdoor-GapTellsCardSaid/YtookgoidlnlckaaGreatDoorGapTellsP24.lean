/- Merged: Ref05. -/
import Derived.Test.YtookgoidlnlckaaGreatDoorGapTellsP7
import Derived.Test.YtookgoidlnlckaaGreatDoorGapTellsP9
namespace Go.Proofs.YtookgoidlnlckaaGreatDoor
set_option maxRecDepth 100000
set_option maxHeartbeats 40000000
set_option linter.unusedVariables false
set_option linter.unusedSimpArgs false
section
open Go.RowKit Go.Shelf Go.Sort
theorem Takes05_ok (c:Cfg) (hc:cfHead c=true) (n:Int) (h0:0≤n) (h1:n≤16384) (w:World):
    Calls Tryz.prog 52 #[.agg #[.int .u8 c.tag,.int .i64 c.most,.int .i64 c.seg,.int .i64 c.least,.int .i64 c.den,.int .i64 c.ll,.int .i64 c.rl,.int .i64 c.rh,.int .i64 c.lh],.int .i64 n] w (AnsB w (.int .i64 (taks c n))):=by
 obtain ⟨d0,d1,d2,d3,d4,d5,d6,d7,d8,d9,d10,d11,d12,d13,d14,d15,d16,d17⟩:=cfHead_num hc;obtain ⟨s1,s2,s3⟩:=tak_start (c:=c) h0 h1 xo d8 d9;have HQ:=hid (And.intro h0 (And.intro h1 (And.intro (show 1≤c.rh by omega) d15)));unfold taks;obtain ⟨T,hT⟩:∃T,takF c n 20 c.least=T:=⟨_,rfl⟩
 rw [hT];have HT:=hid hT;obtain ⟨X,hX⟩:∃X,n*c.den=X:=⟨_,rfl⟩
 rw [hX] at s1 s2 s3;have HX:=hid hX;have H1:=hid s1;have hwX:IntKind.i64.wrap (n*c.den)=X:=by rw [hX];exact IntWalk.i64_in _ xo
 have hr7:c.rh≤64:=xo;have hr1:1≤c.rh:=xo;clear hT hX s1 hc d17;go_enter Tryz.func52,Tryz.ntmps52
 go_upto_region 1 with (fail)
 generalize hwz:w.alloc (.cells #[.int .u8 c.tag,.int .i64 c.most,.int .i64 c.seg,.int .i64 c.least,.int .i64 c.den,.int .i64 c.ll,.int .i64 c.rl,.int .i64 c.rh,.int .i64 c.lh] 23)=wz;have hh:=ec9 hwz (al9 (b:=w.heap.size) (by simp));obtain ⟨c_t0,c_t1,c_t2,c_t3,c_t4,c_t5,c_t6,c_t7,c_t8⟩:=hh;have z_t:=elt hwz (alz (b:=w.heap.size) (by simp));have HS:Hid (Below w.heap.size w wz):=by rw [←hwz];exact hid ((Below.refl _ _).alloc (Nat.le_refl _) _)
 have hz:w.heap.size<wz.heap.size:=by rw [←hwz];simp
 clear hwz;go_wp2
 go_loopg [5] 20 (fun gk v wr=>∃size:Int,v= .int .i64 size∧0≤size∧size≤65536∧Hid (takF c n gk size=T∧X≤size*2^gk)∧wz=wr)
 case atStart=>exact ⟨c.least,rfl,by omega,by omega,hid ⟨HT.out,H1.out⟩,rfl⟩
 case round=>
  obtain ⟨size,rfl,z0,z1,HK,rfl⟩:=hrel;obtain ⟨Y,hY⟩:∃Y,c.rh*size=Y:=⟨_,rfl⟩
  have hY2:0≤Y∧Y≤64*65536∧size≤Y:=by
   rw [←hY];have a1:=Int.mul_le_mul hr7 z1 xo xo;have a2:=Int.mul_le_mul_of_nonneg_right hr1 z0;exact ⟨Int.mul_nonneg xo z0,a1,by omega⟩
  have hwY:IntKind.i64.wrap (c.rh*size)=Y:=by rw [hY];exact IntWalk.i64_in _ xo
  have tt:=tak_turn HX.out hY HQ.out.1 HQ.out.2.1 HQ.out.2.2.1 HQ.out.2.2.2 HK.out z0 hY2.2.2;clear hY HK;by_cases hlt:Y<X
  · obtain ⟨hn2,j,rfl,hj⟩:=tt.2 hlt;have HN:=hid hj;clear hj tt;go_wp2
    go_roundg j
    case measure=>omega
    case rel=>exact ⟨2*size,by go_num,by omega,by omega,HN,rfl⟩
  · have hfin:=tt.1 hlt;subst hfin;clear tt;go_wp2
    go_ret
    exact ⟨rfl,HS.out⟩
theorem Height05_ok (c:Cfg) (size:Int) (h0:0≤size) (h1:size≤65536) (h2:1≤c.seg) (w:World):
    Calls Tryz.prog 51 #[.agg #[.int .u8 c.tag,.int .i64 c.most,.int .i64 c.seg,.int .i64 c.least,.int .i64 c.den,.int .i64 c.ll,.int .i64 c.rl,.int .i64 c.rh,.int .i64 c.lh],.int .i64 size] w (AnsB w (.int .i64 (htC c size:Nat))):=by
 have hq0:0≤size/c.seg:=Int.ediv_nonneg h0 xo;have hq1:size/c.seg≤65536:=Int.le_trans (Int.ediv_le_self _ h0) h1;have hq2:size.tdiv c.seg=size/c.seg:=Int.tdiv_eq_ediv_of_nonneg h0;have hs0:(c.seg==0)=false:=by simp;omega
 unfold htC;generalize size/c.seg=q at *;obtain ⟨m,rfl⟩:=Int.eq_ofNat_of_zero_le hq0;rw [Int.toNat_natCast];have LG:=hid (fun w=>Log_any m m rfl xo w);generalize m.log2=z at *;have hwm:IntKind.i64.wrap (m:Int)=(m:Int):=IntWalk.i64_in _ xo;go_enter Tryz.func51,Tryz.ntmps51
 go_wp2_with (go_at_call 89;refine (LG.out _).mono ?_;rintro e w' ⟨rfl,rfl⟩)
 go_ret
 exact ⟨rfl,(Below.refl _ _).alloc (Nat.le_refl _) _⟩
theorem power05_ok (n lo hi:Int) (hh:hi≤65536) (w:World):
    Calls Tryz.prog 50 #[.int .i64 n,.int .i64 lo,.int .i64 hi] w fun e w'=>e= .returned (.bool (powB n lo hi))∧w=w':=by
 by_cases c1:lo≤n
 · by_cases c2:n≤hi
   · have e:powB n lo hi=pwB n:=by simp [powB,c1,c2]
     rw [e];have PW:=hid (fun w=>Power01_ok n xo w);generalize pwB n=b at *;clear e;go_enter Tryz.func50,Tryz.ntmps50
     go_wp2_with (go_at_call 88;refine (PW.out _).mono ?_;rintro e w' ⟨rfl,rfl⟩)
     go_ret
     exact ⟨rfl,rfl⟩
   · have e:powB n lo hi=false:=by simp [powB,c2]
     rw [e];clear e;go_enter Tryz.func50,Tryz.ntmps50
     go_wp2
     go_ret
     exact ⟨rfl,rfl⟩
 · have e:powB n lo hi=false:=by simp [powB,c1]
   rw [e];clear e;go_enter Tryz.func50,Tryz.ntmps50
   go_wp2
   go_ret
   exact ⟨rfl,rfl⟩
theorem cfHeadR_not {c:Cfg} (h:cfHeadR c=false):cfMay c=false:=by
 rw [cfHeadR_eq] at h;simp [cfMay,h]
theorem May05_bad (c:Cfg) (h:cfHeadR c=false) (w:World):
    Calls Tryz.prog 18 #[.agg #[.int .u8 c.tag,.int .i64 c.most,.int .i64 c.seg,.int .i64 c.least,.int .i64 c.den,.int .i64 c.ll,.int .i64 c.rl,.int .i64 c.rh,.int .i64 c.lh]] w (AnsB w (.bool false)):=by
 have PS:=hid (fun w=>power05_ok c.seg 4 64 xo w);have PL:=hid (fun w=>power05_ok c.least c.seg 256 xo w);have HC:=hid h;clear h;obtain ⟨bs,hbs⟩:∃b,powB c.seg 4 64=b:=⟨_,rfl⟩
 obtain ⟨bl,hbl⟩:∃b,powB c.least c.seg 256=b:=⟨_,rfl⟩
 rw [hbs] at PS;rw [hbl] at PL;have HPS:=hid hbs;have HPL:=hid hbl;clear hbs hbl;go_enter Tryz.func18,Tryz.ntmps18
 go_upto_region 1 with (fail)
 generalize hwz:w.alloc (.cells #[.int .u8 c.tag,.int .i64 c.most,.int .i64 c.seg,.int .i64 c.least,.int .i64 c.den,.int .i64 c.ll,.int .i64 c.rl,.int .i64 c.rh,.int .i64 c.lh] 23)=wz;have hh:=ec9 hwz (al9 (b:=w.heap.size) (by simp));obtain ⟨c_t0,c_t1,c_t2,c_t3,c_t4,c_t5,c_t6,c_t7,c_t8⟩:=hh;have z_t:=elt hwz (alz (b:=w.heap.size) (by simp));have HS:Hid (Below w.heap.size w wz):=by rw [←hwz];exact hid ((Below.refl _ _).alloc (Nat.le_refl _) _)
 have hz:w.heap.size<wz.heap.size:=by rw [←hwz];simp
 clear hwz;by_cases d0:1≤c.tag
 rotate_left
 · have g0:decide (c.tag<1)=true:=by simp;omega
   clear HC HPS HPL;have K0:=hid (fun d os=>Calls.regrown_of (w:=wz) (d:=d) (os:=os) ((PS.out (grow (redrawn wz d) os)).mono fun _ _ h=>⟨h.1,h.2 ▸ Below.refl _ _⟩));have K1:=hid (fun d os=>Calls.regrown_of (w:=wz) (d:=d) (os:=os) ((PL.out (grow (redrawn wz d) os)).mono fun _ _ h=>⟨h.1,h.2 ▸ Below.refl _ _⟩));have q0:=cell_regrown c_t0;have q1:=cell_regrown c_t1;have q2:=cell_regrown c_t2;have q3:=cell_regrown c_t3;have q4:=cell_regrown c_t4;have q5:=cell_regrown c_t5;have q6:=cell_regrown c_t6;have q7:=cell_regrown c_t7;have q8:=cell_regrown c_t8;refine wp_text_quiet_below ?_;repeat (go_big_quiet_step (first|with_reducible exact K0.out _ _|with_reducible exact K1.out _ _|exact K0.out _ _|exact K1.out _ _))
   refine wpQuiet_nil ?_;intro _ hw';obtain ⟨⟨dq,osq⟩,hw''⟩:=hw';subst hw'';have hbq:=below_regrown wz dq osq;clear q0 q1 q2 q3 q4 q5 q6 q7 q8 K0 K1;generalize Sort.grow (redrawn wz dq) osq=wx at *;have HE:=xv hbq HS;go_wp2
   go_ret
   exact ⟨rfl,HE.out⟩
 have g0:decide (c.tag<1)=false:=by simp;omega
 by_cases d1:c.tag≤3
 rotate_left
 · have g1:decide (3<c.tag)=true:=by simp;omega
   clear HC HPS HPL;have K0:=hid (fun d os=>Calls.regrown_of (w:=wz) (d:=d) (os:=os) ((PS.out (grow (redrawn wz d) os)).mono fun _ _ h=>⟨h.1,h.2 ▸ Below.refl _ _⟩));have K1:=hid (fun d os=>Calls.regrown_of (w:=wz) (d:=d) (os:=os) ((PL.out (grow (redrawn wz d) os)).mono fun _ _ h=>⟨h.1,h.2 ▸ Below.refl _ _⟩));have q0:=cell_regrown c_t0;have q1:=cell_regrown c_t1;have q2:=cell_regrown c_t2;have q3:=cell_regrown c_t3;have q4:=cell_regrown c_t4;have q5:=cell_regrown c_t5;have q6:=cell_regrown c_t6;have q7:=cell_regrown c_t7;have q8:=cell_regrown c_t8;refine wp_text_quiet_below ?_;repeat (go_big_quiet_step (first|with_reducible exact K0.out _ _|with_reducible exact K1.out _ _|exact K0.out _ _|exact K1.out _ _))
   refine wpQuiet_nil ?_;intro _ hw';obtain ⟨⟨dq,osq⟩,hw''⟩:=hw';subst hw'';have hbq:=below_regrown wz dq osq;clear q0 q1 q2 q3 q4 q5 q6 q7 q8 K0 K1;generalize Sort.grow (redrawn wz dq) osq=wx at *;have HE:=xv hbq HS;go_wp2
   go_ret
   exact ⟨rfl,HE.out⟩
 have g1:decide (3<c.tag)=false:=by simp;omega
 by_cases d2:1≤c.most
 rotate_left
 · have g2:decide (c.most<1)=true:=by simp;omega
   clear HC HPS HPL;have K0:=hid (fun d os=>Calls.regrown_of (w:=wz) (d:=d) (os:=os) ((PS.out (grow (redrawn wz d) os)).mono fun _ _ h=>⟨h.1,h.2 ▸ Below.refl _ _⟩));have K1:=hid (fun d os=>Calls.regrown_of (w:=wz) (d:=d) (os:=os) ((PL.out (grow (redrawn wz d) os)).mono fun _ _ h=>⟨h.1,h.2 ▸ Below.refl _ _⟩));have q0:=cell_regrown c_t0;have q1:=cell_regrown c_t1;have q2:=cell_regrown c_t2;have q3:=cell_regrown c_t3;have q4:=cell_regrown c_t4;have q5:=cell_regrown c_t5;have q6:=cell_regrown c_t6;have q7:=cell_regrown c_t7;have q8:=cell_regrown c_t8;refine wp_text_quiet_below ?_;repeat (go_big_quiet_step (first|with_reducible exact K0.out _ _|with_reducible exact K1.out _ _|exact K0.out _ _|exact K1.out _ _))
   refine wpQuiet_nil ?_;intro _ hw';obtain ⟨⟨dq,osq⟩,hw''⟩:=hw';subst hw'';have hbq:=below_regrown wz dq osq;clear q0 q1 q2 q3 q4 q5 q6 q7 q8 K0 K1;generalize Sort.grow (redrawn wz dq) osq=wx at *;have HE:=xv hbq HS;go_wp2
   go_ret
   exact ⟨rfl,HE.out⟩
 have g2:decide (c.most<1)=false:=by simp;omega
 by_cases d3:c.most≤16384
 rotate_left
 · have g3:decide (16384<c.most)=true:=by simp;omega
   clear HC HPS HPL;have K0:=hid (fun d os=>Calls.regrown_of (w:=wz) (d:=d) (os:=os) ((PS.out (grow (redrawn wz d) os)).mono fun _ _ h=>⟨h.1,h.2 ▸ Below.refl _ _⟩));have K1:=hid (fun d os=>Calls.regrown_of (w:=wz) (d:=d) (os:=os) ((PL.out (grow (redrawn wz d) os)).mono fun _ _ h=>⟨h.1,h.2 ▸ Below.refl _ _⟩));have q0:=cell_regrown c_t0;have q1:=cell_regrown c_t1;have q2:=cell_regrown c_t2;have q3:=cell_regrown c_t3;have q4:=cell_regrown c_t4;have q5:=cell_regrown c_t5;have q6:=cell_regrown c_t6;have q7:=cell_regrown c_t7;have q8:=cell_regrown c_t8;refine wp_text_quiet_below ?_;repeat (go_big_quiet_step (first|with_reducible exact K0.out _ _|with_reducible exact K1.out _ _|exact K0.out _ _|exact K1.out _ _))
   refine wpQuiet_nil ?_;intro _ hw';obtain ⟨⟨dq,osq⟩,hw''⟩:=hw';subst hw'';have hbq:=below_regrown wz dq osq;clear q0 q1 q2 q3 q4 q5 q6 q7 q8 K0 K1;generalize Sort.grow (redrawn wz dq) osq=wx at *;have HE:=xv hbq HS;go_wp2
   go_ret
   exact ⟨rfl,HE.out⟩
 have g3:decide (16384<c.most)=false:=by simp;omega
 cases bs with
 | false=>
  clear HC HPS HPL;have K0:=hid (fun d os=>Calls.regrown_of (w:=wz) (d:=d) (os:=os) ((PS.out (grow (redrawn wz d) os)).mono fun _ _ h=>⟨h.1,h.2 ▸ Below.refl _ _⟩));have K1:=hid (fun d os=>Calls.regrown_of (w:=wz) (d:=d) (os:=os) ((PL.out (grow (redrawn wz d) os)).mono fun _ _ h=>⟨h.1,h.2 ▸ Below.refl _ _⟩));have q0:=cell_regrown c_t0;have q1:=cell_regrown c_t1;have q2:=cell_regrown c_t2;have q3:=cell_regrown c_t3;have q4:=cell_regrown c_t4;have q5:=cell_regrown c_t5;have q6:=cell_regrown c_t6;have q7:=cell_regrown c_t7;have q8:=cell_regrown c_t8;refine wp_text_quiet_below ?_;repeat (go_big_quiet_step (first|with_reducible exact K0.out _ _|with_reducible exact K1.out _ _|exact K0.out _ _|exact K1.out _ _))
  refine wpQuiet_nil ?_;intro _ hw';obtain ⟨⟨dq,osq⟩,hw''⟩:=hw';subst hw'';have hbq:=below_regrown wz dq osq;clear q0 q1 q2 q3 q4 q5 q6 q7 q8 K0 K1;generalize Sort.grow (redrawn wz dq) osq=wx at *;have HE:=xv hbq HS;go_wp2
  go_ret
  exact ⟨rfl,HE.out⟩
 | true=>
  cases bl with
  | false=>
   clear HC HPS HPL;have K0:=hid (fun d os=>Calls.regrown_of (w:=wz) (d:=d) (os:=os) ((PS.out (grow (redrawn wz d) os)).mono fun _ _ h=>⟨h.1,h.2 ▸ Below.refl _ _⟩));have K1:=hid (fun d os=>Calls.regrown_of (w:=wz) (d:=d) (os:=os) ((PL.out (grow (redrawn wz d) os)).mono fun _ _ h=>⟨h.1,h.2 ▸ Below.refl _ _⟩));have q0:=cell_regrown c_t0;have q1:=cell_regrown c_t1;have q2:=cell_regrown c_t2;have q3:=cell_regrown c_t3;have q4:=cell_regrown c_t4;have q5:=cell_regrown c_t5;have q6:=cell_regrown c_t6;have q7:=cell_regrown c_t7;have q8:=cell_regrown c_t8;refine wp_text_quiet_below ?_;repeat (go_big_quiet_step (first|with_reducible exact K0.out _ _|with_reducible exact K1.out _ _|exact K0.out _ _|exact K1.out _ _))
   refine wpQuiet_nil ?_;intro _ hw';obtain ⟨⟨dq,osq⟩,hw''⟩:=hw';subst hw'';have hbq:=below_regrown wz dq osq;clear q0 q1 q2 q3 q4 q5 q6 q7 q8 K0 K1;generalize Sort.grow (redrawn wz dq) osq=wx at *;have HE:=xv hbq HS;go_wp2
   go_ret
   exact ⟨rfl,HE.out⟩
  | true=>
   have hseg:=(powB_iff.1 HPS.out).1;have hseg2:=(powB_iff.1 HPS.out).2.1;have hleast:=(powB_iff.1 HPL.out)
   obtain ⟨hl1,hl2,-⟩:=hleast;by_cases d6:1≤c.den
   rotate_left
   · have g6:decide (c.den<1)=true:=by simp;omega
     clear HC HPS HPL;have K0:=hid (fun d os=>Calls.regrown_of (w:=wz) (d:=d) (os:=os) ((PS.out (grow (redrawn wz d) os)).mono fun _ _ h=>⟨h.1,h.2 ▸ Below.refl _ _⟩));have K1:=hid (fun d os=>Calls.regrown_of (w:=wz) (d:=d) (os:=os) ((PL.out (grow (redrawn wz d) os)).mono fun _ _ h=>⟨h.1,h.2 ▸ Below.refl _ _⟩));have q0:=cell_regrown c_t0;have q1:=cell_regrown c_t1;have q2:=cell_regrown c_t2;have q3:=cell_regrown c_t3;have q4:=cell_regrown c_t4;have q5:=cell_regrown c_t5;have q6:=cell_regrown c_t6;have q7:=cell_regrown c_t7;have q8:=cell_regrown c_t8;refine wp_text_quiet_below ?_;repeat (go_big_quiet_step (first|with_reducible exact K0.out _ _|with_reducible exact K1.out _ _|exact K0.out _ _|exact K1.out _ _))
     refine wpQuiet_nil ?_;intro _ hw';obtain ⟨⟨dq,osq⟩,hw''⟩:=hw';subst hw'';have hbq:=below_regrown wz dq osq;clear q0 q1 q2 q3 q4 q5 q6 q7 q8 K0 K1;generalize Sort.grow (redrawn wz dq) osq=wx at *;have HE:=xv hbq HS;go_wp2
     go_ret
     exact ⟨rfl,HE.out⟩
   have g6:decide (c.den<1)=false:=by simp;omega
   by_cases d7:c.den≤64
   rotate_left
   · have g7:decide (64<c.den)=true:=by simp;omega
     clear HC HPS HPL;have K0:=hid (fun d os=>Calls.regrown_of (w:=wz) (d:=d) (os:=os) ((PS.out (grow (redrawn wz d) os)).mono fun _ _ h=>⟨h.1,h.2 ▸ Below.refl _ _⟩));have K1:=hid (fun d os=>Calls.regrown_of (w:=wz) (d:=d) (os:=os) ((PL.out (grow (redrawn wz d) os)).mono fun _ _ h=>⟨h.1,h.2 ▸ Below.refl _ _⟩));have q0:=cell_regrown c_t0;have q1:=cell_regrown c_t1;have q2:=cell_regrown c_t2;have q3:=cell_regrown c_t3;have q4:=cell_regrown c_t4;have q5:=cell_regrown c_t5;have q6:=cell_regrown c_t6;have q7:=cell_regrown c_t7;have q8:=cell_regrown c_t8;refine wp_text_quiet_below ?_;repeat (go_big_quiet_step (first|with_reducible exact K0.out _ _|with_reducible exact K1.out _ _|exact K0.out _ _|exact K1.out _ _))
     refine wpQuiet_nil ?_;intro _ hw';obtain ⟨⟨dq,osq⟩,hw''⟩:=hw';subst hw'';have hbq:=below_regrown wz dq osq;clear q0 q1 q2 q3 q4 q5 q6 q7 q8 K0 K1;generalize Sort.grow (redrawn wz dq) osq=wx at *;have HE:=xv hbq HS;go_wp2
     go_ret
     exact ⟨rfl,HE.out⟩
   have g7:decide (64<c.den)=false:=by simp;omega
   have K0:=hid (fun d os=>Calls.regrown_of (w:=wz) (d:=d) (os:=os) ((PS.out (grow (redrawn wz d) os)).mono fun _ _ h=>⟨h.1,h.2 ▸ Below.refl _ _⟩));have K1:=hid (fun d os=>Calls.regrown_of (w:=wz) (d:=d) (os:=os) ((PL.out (grow (redrawn wz d) os)).mono fun _ _ h=>⟨h.1,h.2 ▸ Below.refl _ _⟩));have q0:=cell_regrown c_t0;have q1:=cell_regrown c_t1;have q2:=cell_regrown c_t2;have q3:=cell_regrown c_t3;have q4:=cell_regrown c_t4;have q5:=cell_regrown c_t5;have q6:=cell_regrown c_t6;have q7:=cell_regrown c_t7;have q8:=cell_regrown c_t8;refine wp_text_quiet_below ?_;repeat (go_big_quiet_step (first|with_reducible exact K0.out _ _|with_reducible exact K1.out _ _|exact K0.out _ _|exact K1.out _ _))
   refine wpQuiet_nil ?_;intro _ hw';obtain ⟨⟨dq,osq⟩,hw''⟩:=hw';subst hw'';have hbq:=below_regrown wz dq osq;clear q0 q1 q2 q3 q4 q5 q6 q7 q8 K0 K1;generalize Sort.grow (redrawn wz dq) osq=wx at *;have HB2:=xv hbq HS;have hz_wx:=hbq.size;simp (disch:=omega) only [xcl hbq] at c_t0 c_t1 c_t2 c_t3 c_t4 c_t5 c_t6 c_t7 c_t8;replace z_t:=blt hbq z_t;clear hbq;go_upto_region 3 with (fail)
   by_cases d8:0≤c.ll
   rotate_left
   · have g8:decide (c.ll<0)=true:=by simp;omega
     clear HC HPS HPL;have q0:=cell_regrown c_t0;have q1:=cell_regrown c_t1;have q2:=cell_regrown c_t2;have q3:=cell_regrown c_t3;have q4:=cell_regrown c_t4;have q5:=cell_regrown c_t5;have q6:=cell_regrown c_t6;have q7:=cell_regrown c_t7;have q8:=cell_regrown c_t8;refine wp_text_quiet_below ?_;repeat (go_big_quiet_step (fail))
     refine wpQuiet_nil ?_;intro _ hw';obtain ⟨⟨dq,osq⟩,hw''⟩:=hw';subst hw'';have hbq:=below_regrown wx dq osq;clear q0 q1 q2 q3 q4 q5 q6 q7 q8;generalize Sort.grow (redrawn wx dq) osq=wx2 at *;have HE:=xv hbq HB2;go_wp2
     go_ret
     exact ⟨rfl,HE.out⟩
   have g8:decide (c.ll<0)=false:=by simp;omega
   by_cases d9:c.ll<c.rl
   rotate_left
   · have g9:decide (c.rl≤c.ll)=true:=by simp;omega
     clear HC HPS HPL;have q0:=cell_regrown c_t0;have q1:=cell_regrown c_t1;have q2:=cell_regrown c_t2;have q3:=cell_regrown c_t3;have q4:=cell_regrown c_t4;have q5:=cell_regrown c_t5;have q6:=cell_regrown c_t6;have q7:=cell_regrown c_t7;have q8:=cell_regrown c_t8;refine wp_text_quiet_below ?_;repeat (go_big_quiet_step (fail))
     refine wpQuiet_nil ?_;intro _ hw';obtain ⟨⟨dq,osq⟩,hw''⟩:=hw';subst hw'';have hbq:=below_regrown wx dq osq;clear q0 q1 q2 q3 q4 q5 q6 q7 q8;generalize Sort.grow (redrawn wx dq) osq=wx2 at *;have HE:=xv hbq HB2;go_wp2
     go_ret
     exact ⟨rfl,HE.out⟩
   have g9:decide (c.rl≤c.ll)=false:=by simp;omega
   by_cases d10:c.rh<c.lh
   rotate_left
   · have g10:decide (c.lh≤c.rh)=true:=by simp;omega
     clear HC HPS HPL;have q0:=cell_regrown c_t0;have q1:=cell_regrown c_t1;have q2:=cell_regrown c_t2;have q3:=cell_regrown c_t3;have q4:=cell_regrown c_t4;have q5:=cell_regrown c_t5;have q6:=cell_regrown c_t6;have q7:=cell_regrown c_t7;have q8:=cell_regrown c_t8;refine wp_text_quiet_below ?_;repeat (go_big_quiet_step (fail))
     refine wpQuiet_nil ?_;intro _ hw';obtain ⟨⟨dq,osq⟩,hw''⟩:=hw';subst hw'';have hbq:=below_regrown wx dq osq;clear q0 q1 q2 q3 q4 q5 q6 q7 q8;generalize Sort.grow (redrawn wx dq) osq=wx2 at *;have HE:=xv hbq HB2;go_wp2
     go_ret
     exact ⟨rfl,HE.out⟩
   have g10:decide (c.lh≤c.rh)=false:=by simp;omega
   by_cases d11:c.lh≤c.den
   rotate_left
   · have g11:decide (c.den<c.lh)=true:=by simp;omega
     clear HC HPS HPL;have q0:=cell_regrown c_t0;have q1:=cell_regrown c_t1;have q2:=cell_regrown c_t2;have q3:=cell_regrown c_t3;have q4:=cell_regrown c_t4;have q5:=cell_regrown c_t5;have q6:=cell_regrown c_t6;have q7:=cell_regrown c_t7;have q8:=cell_regrown c_t8;refine wp_text_quiet_below ?_;repeat (go_big_quiet_step (fail))
     refine wpQuiet_nil ?_;intro _ hw';obtain ⟨⟨dq,osq⟩,hw''⟩:=hw';subst hw'';have hbq:=below_regrown wx dq osq;clear q0 q1 q2 q3 q4 q5 q6 q7 q8;generalize Sort.grow (redrawn wx dq) osq=wx2 at *;have HE:=xv hbq HB2;go_wp2
     go_ret
     exact ⟨rfl,HE.out⟩
   have g11:decide (c.den<c.lh)=false:=by simp;omega
   by_cases d12:c.rl≤c.den
   rotate_left
   · have g12:decide (c.den<c.rl)=true:=by simp;omega
     clear HC HPS HPL;have q0:=cell_regrown c_t0;have q1:=cell_regrown c_t1;have q2:=cell_regrown c_t2;have q3:=cell_regrown c_t3;have q4:=cell_regrown c_t4;have q5:=cell_regrown c_t5;have q6:=cell_regrown c_t6;have q7:=cell_regrown c_t7;have q8:=cell_regrown c_t8;refine wp_text_quiet_below ?_;repeat (go_big_quiet_step (fail))
     refine wpQuiet_nil ?_;intro _ hw';obtain ⟨⟨dq,osq⟩,hw''⟩:=hw';subst hw'';have hbq:=below_regrown wx dq osq;clear q0 q1 q2 q3 q4 q5 q6 q7 q8;generalize Sort.grow (redrawn wx dq) osq=wx2 at *;have HE:=xv hbq HB2;go_wp2
     go_ret
     exact ⟨rfl,HE.out⟩
   have g12:decide (c.den<c.rl)=false:=by simp;omega
   have q0:=cell_regrown c_t0;have q1:=cell_regrown c_t1;have q2:=cell_regrown c_t2;have q3:=cell_regrown c_t3;have q4:=cell_regrown c_t4;have q5:=cell_regrown c_t5;have q6:=cell_regrown c_t6;have q7:=cell_regrown c_t7;have q8:=cell_regrown c_t8;refine wp_text_quiet_below ?_;repeat (go_big_quiet_step (fail))
   refine wpQuiet_nil ?_;intro _ hw';obtain ⟨⟨dq,osq⟩,hw''⟩:=hw';subst hw'';have hbq:=below_regrown wx dq osq;clear q0 q1 q2 q3 q4 q5 q6 q7 q8;generalize Sort.grow (redrawn wx dq) osq=wx2 at *;have HB3:=xv hbq HB2;have hz_wx2:=hbq.size;simp (disch:=omega) only [xcl hbq] at c_t0 c_t1 c_t2 c_t3 c_t4 c_t5 c_t6 c_t7 c_t8;replace z_t:=blt hbq z_t;clear hbq;go_upto_region 5 with (fail)
   by_cases d13:0≤c.rh
   rotate_left
   · have g13:decide (c.rh<0)=true:=by simp;omega
     clear HC HPS HPL;have q0:=cell_regrown c_t0;have q1:=cell_regrown c_t1;have q2:=cell_regrown c_t2;have q3:=cell_regrown c_t3;have q4:=cell_regrown c_t4;have q5:=cell_regrown c_t5;have q6:=cell_regrown c_t6;have q7:=cell_regrown c_t7;have q8:=cell_regrown c_t8;refine wp_text_quiet_below ?_;repeat (go_big_quiet_step (fail))
     refine wpQuiet_nil ?_;intro _ hw';obtain ⟨⟨dq,osq⟩,hw''⟩:=hw';subst hw'';have hbq:=below_regrown wx2 dq osq;clear q0 q1 q2 q3 q4 q5 q6 q7 q8;generalize Sort.grow (redrawn wx2 dq) osq=wx3 at *;have HE:=xv hbq HB3;go_wp2
     go_ret
     exact ⟨rfl,HE.out⟩
   have g13:decide (c.rh<0)=false:=by simp;omega
   have x1:IntKind.i64.wrap (2*c.rh)=2*c.rh:=IntWalk.i64_in _ xo;have x2:IntKind.i64.wrap (8*c.rl)=8*c.rl:=IntWalk.i64_in _ xo;have x3:IntKind.i64.wrap (2*c.den)=2*c.den:=IntWalk.i64_in _ xo;by_cases d14:c.den≤2*c.rh
   rotate_left
   · have g14:decide (2*c.rh<c.den)=true:=by simp;omega
     clear HC HPS HPL;have q0:=cell_regrown c_t0;have q1:=cell_regrown c_t1;have q2:=cell_regrown c_t2;have q3:=cell_regrown c_t3;have q4:=cell_regrown c_t4;have q5:=cell_regrown c_t5;have q6:=cell_regrown c_t6;have q7:=cell_regrown c_t7;have q8:=cell_regrown c_t8;refine wp_text_quiet_below ?_;repeat (go_big_quiet_step (fail))
     refine wpQuiet_nil ?_;intro _ hw';obtain ⟨⟨dq,osq⟩,hw''⟩:=hw';subst hw'';have hbq:=below_regrown wx2 dq osq;clear q0 q1 q2 q3 q4 q5 q6 q7 q8;generalize Sort.grow (redrawn wx2 dq) osq=wx3 at *;have HE:=xv hbq HB3;go_wp2
     go_ret
     exact ⟨rfl,HE.out⟩
   have g14:decide (2*c.rh<c.den)=false:=by simp;omega
   by_cases d15:8*c.rl≤c.den
   rotate_left
   · have g15:decide (c.den<8*c.rl)=true:=by simp;omega
     clear HC HPS HPL;have q0:=cell_regrown c_t0;have q1:=cell_regrown c_t1;have q2:=cell_regrown c_t2;have q3:=cell_regrown c_t3;have q4:=cell_regrown c_t4;have q5:=cell_regrown c_t5;have q6:=cell_regrown c_t6;have q7:=cell_regrown c_t7;have q8:=cell_regrown c_t8;refine wp_text_quiet_below ?_;repeat (go_big_quiet_step (fail))
     refine wpQuiet_nil ?_;intro _ hw';obtain ⟨⟨dq,osq⟩,hw''⟩:=hw';subst hw'';have hbq:=below_regrown wx2 dq osq;clear q0 q1 q2 q3 q4 q5 q6 q7 q8;generalize Sort.grow (redrawn wx2 dq) osq=wx3 at *;have HE:=xv hbq HB3;go_wp2
     go_ret
     exact ⟨rfl,HE.out⟩
   have g15:decide (c.den<8*c.rl)=false:=by simp;omega
   have hq:=Int.mul_le_mul (show c.rl≤64 by omega) hl2 xo xo;have hq0:=Int.mul_nonneg (show 0≤c.rl by omega) (show 0≤c.least by omega);have hqw:IntKind.i64.wrap (c.rl*c.least)=c.rl*c.least:=IntWalk.i64_in _ xo;by_cases d16:2*c.den≤c.rl*c.least
   rotate_left
   · have g16:decide (c.rl*c.least<2*c.den)=true:=by simp;omega
     clear HC HPS HPL;have q0:=cell_regrown c_t0;have q1:=cell_regrown c_t1;have q2:=cell_regrown c_t2;have q3:=cell_regrown c_t3;have q4:=cell_regrown c_t4;have q5:=cell_regrown c_t5;have q6:=cell_regrown c_t6;have q7:=cell_regrown c_t7;have q8:=cell_regrown c_t8;refine wp_text_quiet_below ?_;repeat (go_big_quiet_step (fail))
     refine wpQuiet_nil ?_;intro _ hw';obtain ⟨⟨dq,osq⟩,hw''⟩:=hw';subst hw'';have hbq:=below_regrown wx2 dq osq;clear q0 q1 q2 q3 q4 q5 q6 q7 q8;generalize Sort.grow (redrawn wx2 dq) osq=wx3 at *;have HE:=xv hbq HB3;go_wp2
     go_ret
     exact ⟨rfl,HE.out⟩
   have g16:decide (c.rl*c.least<2*c.den)=false:=by simp;omega
   exfalso
   have:=HC.out;simp only [cfHeadR,HPS.out,HPL.out,d0,d1,d2,d3,d6,d7,d8,d9,d10,d11,d12,d13,d14,d15,d16,decide_true,Bool.and_self] at this;cases this
theorem May05_good (c:Cfg) (h:cfHead c=true) (w:World):
    Calls Tryz.prog 18 #[.agg #[.int .u8 c.tag,.int .i64 c.most,.int .i64 c.seg,.int .i64 c.least,.int .i64 c.den,.int .i64 c.ll,.int .i64 c.rl,.int .i64 c.rh,.int .i64 c.lh]] w (AnsB w (.bool (cfMay c))):=by
 have hf:=cfHead_facts h;obtain ⟨d0,d1,d2,d3,d4,d5,d6,d7,d8,d9,d10,d11,d12,d14,d15,d16,d17,d18,d19,d20⟩:=cfHead_num h;have PS:=hid (fun w=>power05_ok c.seg 4 64 xo w);have PL:=hid (fun w=>power05_ok c.least c.seg 256 xo w);rw [hf.2.2.2.2.1] at PS;rw [hf.2.2.2.2.2.1] at PL;have e:cfMay c=decide (c.den*htC c (taks c c.most)≤(c.lh-c.rh)*c.seg):=by rw [cfMay,h,Bool.true_and]
 rw [e];have tb:=taks_bd h (n:=c.most) xo xo;have TK:=hid (fun W=>Takes05_ok c h c.most xo xo W);have HT:=hid (fun W=>Height05_ok c (taks c c.most) xo xo xo W);have hb:=htC_bd (c:=c) xo (size:=taks c c.most) xo xo;have m1:=mul_bd (show 0≤c.den by omega) d9 (show (0:Int)≤(htC c (taks c c.most):Nat) by omega) (show ((htC c (taks c c.most):Nat):Int)≤16 by omega);have m2:=mul_bd (show 0≤c.lh-c.rh by omega) (show c.lh-c.rh≤64 by omega) (show 0≤c.seg by omega) d5;generalize taks c c.most=T at *;generalize ((htC c T:Nat):Int)=HH at *;have w1:IntKind.i64.wrap (c.den*HH)=c.den*HH:=IntWalk.i64_in _ xo;have w2:IntKind.i64.wrap ((c.lh-c.rh)*c.seg)=(c.lh-c.rh)*c.seg:=IntWalk.i64_in _ xo;have w3:IntKind.i64.wrap (c.lh-c.rh)=c.lh-c.rh:=IntWalk.i64_in _ xo;have w4:IntKind.i64.wrap (c.rl*c.least)=c.rl*c.least:=IntWalk.i64_in _ xo;have w5:IntKind.i64.wrap (2*c.rh)=2*c.rh:=IntWalk.i64_in _ xo;have w6:IntKind.i64.wrap (8*c.rl)=8*c.rl:=IntWalk.i64_in _ xo;have w7:IntKind.i64.wrap (2*c.den)=2*c.den:=IntWalk.i64_in _ xo;clear hf h e hb tb m1 m2;have g0:decide (c.tag<1)=false:=by simp;omega
 have g1:decide (3<c.tag)=false:=by simp;omega
 have g2:decide (c.most<1)=false:=by simp;omega
 have g3:decide (16384<c.most)=false:=by simp;omega
 have g4:decide (c.den<1)=false:=by simp;omega
 have g5:decide (64<c.den)=false:=by simp;omega
 have g6:decide (c.ll<0)=false:=by simp;omega
 have g7:decide (c.rl≤c.ll)=false:=by simp;omega
 have g8:decide (c.lh≤c.rh)=false:=by simp;omega
 have g9:decide (c.den<c.lh)=false:=by simp;omega
 have g10:decide (c.den<c.rl)=false:=by simp;omega
 have g11:decide (c.rh<0)=false:=by simp;omega
 have g12:decide (2*c.rh<c.den)=false:=by simp;omega
 have g13:decide (c.den<8*c.rl)=false:=by simp;omega
 have g14:decide (c.rl*c.least<2*c.den)=false:=by simp;omega
 obtain ⟨X,hX⟩:∃X,c.den*HH=X:=⟨_,rfl⟩
 obtain ⟨Y,hY⟩:∃Y,(c.lh-c.rh)*c.seg=Y:=⟨_,rfl⟩
 have w1':IntKind.i64.wrap (c.den*HH)=X:=w1.trans hX;have w2':IntKind.i64.wrap ((c.lh-c.rh)*c.seg)=Y:=w2.trans hY;rw [hX,hY];clear hX hY w1 w2;obtain ⟨r,hr⟩:∃r,decide (X≤Y)=r:=⟨_,rfl⟩
 rw [hr];go_enter Tryz.func18,Tryz.ntmps18
 go_upto_region 1 with (fail)
 generalize hwz:w.alloc (.cells #[.int .u8 c.tag,.int .i64 c.most,.int .i64 c.seg,.int .i64 c.least,.int .i64 c.den,.int .i64 c.ll,.int .i64 c.rl,.int .i64 c.rh,.int .i64 c.lh] 23)=wz;have hh:=ec9 hwz (al9 (b:=w.heap.size) (by simp));obtain ⟨c_t0,c_t1,c_t2,c_t3,c_t4,c_t5,c_t6,c_t7,c_t8⟩:=hh;have z_t:=elt hwz (alz (b:=w.heap.size) (by simp));have HS:Hid (Below w.heap.size w wz):=by rw [←hwz];exact hid ((Below.refl _ _).alloc (Nat.le_refl _) _)
 have hz:w.heap.size<wz.heap.size:=by rw [←hwz];simp
 clear hwz;have K0:=hid (fun d os=>Calls.regrown_of (w:=wz) (d:=d) (os:=os) ((PS.out (grow (redrawn wz d) os)).mono fun _ _ h=>⟨h.1,h.2 ▸ Below.refl _ _⟩));have K1:=hid (fun d os=>Calls.regrown_of (w:=wz) (d:=d) (os:=os) ((PL.out (grow (redrawn wz d) os)).mono fun _ _ h=>⟨h.1,h.2 ▸ Below.refl _ _⟩));have q0:=cell_regrown c_t0;have q1:=cell_regrown c_t1;have q2:=cell_regrown c_t2;have q3:=cell_regrown c_t3;have q4:=cell_regrown c_t4;have q5:=cell_regrown c_t5;have q6:=cell_regrown c_t6;have q7:=cell_regrown c_t7;have q8:=cell_regrown c_t8;refine wp_text_quiet_below ?_;repeat (go_big_quiet_step (first|with_reducible exact K0.out _ _|with_reducible exact K1.out _ _|exact K0.out _ _|exact K1.out _ _))
 refine wpQuiet_nil ?_;intro _ hw';obtain ⟨⟨dq,osq⟩,hw''⟩:=hw';subst hw'';have hbq:=below_regrown wz dq osq;clear q0 q1 q2 q3 q4 q5 q6 q7 q8 K0 K1;generalize Sort.grow (redrawn wz dq) osq=wx at *;have HB2:=xv hbq HS;have hz_wx:=hbq.size;simp (disch:=omega) only [xcl hbq] at c_t0 c_t1 c_t2 c_t3 c_t4 c_t5 c_t6 c_t7 c_t8;replace z_t:=blt hbq z_t;clear hbq;go_upto_region 3 with (fail)
 have q0:=cell_regrown c_t0;have q1:=cell_regrown c_t1;have q2:=cell_regrown c_t2;have q3:=cell_regrown c_t3;have q4:=cell_regrown c_t4;have q5:=cell_regrown c_t5;have q6:=cell_regrown c_t6;have q7:=cell_regrown c_t7;have q8:=cell_regrown c_t8;refine wp_text_quiet_below ?_;repeat (go_big_quiet_step (fail))
 refine wpQuiet_nil ?_;intro _ hw';obtain ⟨⟨dq,osq⟩,hw''⟩:=hw';subst hw'';have hbq:=below_regrown wx dq osq;clear q0 q1 q2 q3 q4 q5 q6 q7 q8;generalize Sort.grow (redrawn wx dq) osq=wx2 at *;have HB3:=xv hbq HB2;have hz_wx2:=hbq.size;simp (disch:=omega) only [xcl hbq] at c_t0 c_t1 c_t2 c_t3 c_t4 c_t5 c_t6 c_t7 c_t8;replace z_t:=blt hbq z_t;clear hbq;go_upto_region 5 with (fail)
 have q0:=cell_regrown c_t0;have q1:=cell_regrown c_t1;have q2:=cell_regrown c_t2;have q3:=cell_regrown c_t3;have q4:=cell_regrown c_t4;have q5:=cell_regrown c_t5;have q6:=cell_regrown c_t6;have q7:=cell_regrown c_t7;have q8:=cell_regrown c_t8;refine wp_text_quiet_below ?_;repeat (go_big_quiet_step (fail))
 refine wpQuiet_nil ?_;intro _ hw';obtain ⟨⟨dq,osq⟩,hw''⟩:=hw';subst hw'';have hbq:=below_regrown wx2 dq osq;clear q0 q1 q2 q3 q4 q5 q6 q7 q8;generalize Sort.grow (redrawn wx2 dq) osq=wx3 at *;have HB4:=xv hbq HB3;have hz_wx3:=hbq.size;simp (disch:=omega) only [xcl hbq] at c_t0 c_t1 c_t2 c_t3 c_t4 c_t5 c_t6 c_t7 c_t8;replace z_t:=blt hbq z_t;clear hbq;go_upto_region 7 with (fail)
 have K0:=hid (fun d os=>Calls.regrown_of (w:=wx3) (d:=d) (os:=os) (TK.out (grow (redrawn wx3 d) os)));have K1:=hid (fun d os=>Calls.regrown_of (w:=wx3) (d:=d) (os:=os) (HT.out (grow (redrawn wx3 d) os)));have q0:=cell_regrown c_t0;have q1:=cell_regrown c_t1;have q2:=cell_regrown c_t2;have q3:=cell_regrown c_t3;have q4:=cell_regrown c_t4;have q5:=cell_regrown c_t5;have q6:=cell_regrown c_t6;have q7:=cell_regrown c_t7;have q8:=cell_regrown c_t8;refine wp_region_quiet_below xk xk ?_;repeat (go_big_quiet_step (first|with_reducible exact K0.out _ _|with_reducible exact K1.out _ _|exact K0.out _ _|exact K1.out _ _))
 refine wpQuiet_nil ?_;intro _ hw';obtain ⟨⟨dq,osq⟩,hw''⟩:=hw';subst hw'';have hbq:=below_regrown wx3 dq osq;clear q0 q1 q2 q3 q4 q5 q6 q7 q8 K0 K1;generalize Sort.grow (redrawn wx3 dq) osq=wx4 at *;have HB5:=xv hbq HB4;go_wp2
 go_ret
 exact ⟨rfl,HB5.out⟩
theorem May05_ok (c:Cfg) (w:World):
    Calls Tryz.prog 18 #[.agg #[.int .u8 c.tag,.int .i64 c.most,.int .i64 c.seg,.int .i64 c.least,.int .i64 c.den,.int .i64 c.ll,.int .i64 c.rl,.int .i64 c.rh,.int .i64 c.lh]] w (AnsB w (.bool (cfMay c))):=by
 cases h:cfHead c with
 | true=>exact May05_good c h w
 | false=>
  have h2:cfHeadR c=false:=by rw [cfHeadR_eq];exact h
  rw [cfHeadR_not h2];exact May05_bad c h2 w
theorem Is05_ok (c:Cfg) (h:cfHead c=true) (size:Int) (w:World):
    Calls Tryz.prog 83 #[.agg #[.int .u8 c.tag,.int .i64 c.most,.int .i64 c.seg,.int .i64 c.least,.int .i64 c.den,.int .i64 c.ll,.int .i64 c.rl,.int .i64 c.rh,.int .i64 c.lh],.int .i64 size] w (AnsB w (.bool (powB size c.least (taks c c.most)))):=by
 obtain ⟨d0,d1,d2,d3,d4,d5,d6,d7,d8,d9,d10,d11,d12,d14,d15,d16,d17,d18,d19,d20⟩:=cfHead_num h;have tb:=taks_bd h (n:=c.most) xo xo;have TK:=hid (fun W=>Takes05_ok c h c.most xo xo W);have PL:=hid (fun W=>power05_ok size c.least (taks c c.most) xo W);generalize taks c c.most=T at *;generalize powB size c.least T=b at *;clear h;go_enter Tryz.func83,Tryz.ntmps83
 go_upto_region 1 with (fail)
 generalize hwz:w.alloc (.cells #[.int .u8 c.tag,.int .i64 c.most,.int .i64 c.seg,.int .i64 c.least,.int .i64 c.den,.int .i64 c.ll,.int .i64 c.rl,.int .i64 c.rh,.int .i64 c.lh] 23)=wz;have hh:=ec9 hwz (al9 (b:=w.heap.size) (by simp));obtain ⟨c_t0,c_t1,c_t2,c_t3,c_t4,c_t5,c_t6,c_t7,c_t8⟩:=hh;have z_t:=elt hwz (alz (b:=w.heap.size) (by simp));have HS:Hid (Below w.heap.size w wz):=by rw [←hwz];exact hid ((Below.refl _ _).alloc (Nat.le_refl _) _)
 have hz:w.heap.size<wz.heap.size:=by rw [←hwz];simp
 clear hwz;have K0:=hid (fun d os=>Calls.regrown_of (w:=wz) (d:=d) (os:=os) (TK.out (grow (redrawn wz d) os)));have K1:=hid (fun d os=>Calls.regrown_of (w:=wz) (d:=d) (os:=os) ((PL.out (grow (redrawn wz d) os)).mono fun _ _ h=>⟨h.1,h.2 ▸ Below.refl _ _⟩));have q0:=cell_regrown c_t0;have q1:=cell_regrown c_t1;have q2:=cell_regrown c_t2;have q3:=cell_regrown c_t3;have q4:=cell_regrown c_t4;have q5:=cell_regrown c_t5;have q6:=cell_regrown c_t6;have q7:=cell_regrown c_t7;have q8:=cell_regrown c_t8;refine wp_region_quiet_below xk xk ?_;repeat (go_big_quiet_step (first|with_reducible exact K0.out _ _|with_reducible exact K1.out _ _|exact K0.out _ _|exact K1.out _ _))
 refine wpQuiet_nil ?_;intro _ hw';obtain ⟨⟨dq,osq⟩,hw''⟩:=hw';subst hw'';have hbq:=below_regrown wz dq osq;clear q0 q1 q2 q3 q4 q5 q6 q7 q8 K0 K1;generalize Sort.grow (redrawn wz dq) osq=wx at *;have HB2:=xv hbq HS;go_wp2
 go_ret
 exact ⟨rfl,HB2.out⟩
theorem Wide05_ok (c:Cfg) (h:Nat) (hh:h≤16) (h0:0≤c.seg) (h1:c.seg≤64) (w:World):
    Calls Tryz.prog 110 #[.agg #[.int .u8 c.tag,.int .i64 c.most,.int .i64 c.seg,.int .i64 c.least,.int .i64 c.den,.int .i64 c.ll,.int .i64 c.rl,.int .i64 c.rh,.int .i64 c.lh],.int .i64 h] w (AnsB w (.int .i64 (wdC c h))):=by
 have hp:2^h≤2^16:=Nat.pow_le_pow_right xo hh;have m:=mul_bd h0 h1 (show (0:Int)≤((2^h:Nat):Int) from Int.natCast_nonneg _) (show ((2^h:Nat):Int)≤65536 by omega);have e:wdC c h=c.seg*((2^h:Nat):Int):=by rw [wdC];push_cast;rfl
 rw [e];have PW:=hid (fun W=>Pow_any h h rfl xo W);generalize ((2^h:Nat):Int)=z at *;have hw:IntKind.i64.wrap (c.seg*z)=c.seg*z:=IntWalk.i64_in _ xo;clear e;go_enter Tryz.func110,Tryz.ntmps110
 go_upto_region 1 with (fail)
 generalize hwz:w.alloc (.cells #[.int .u8 c.tag,.int .i64 c.most,.int .i64 c.seg,.int .i64 c.least,.int .i64 c.den,.int .i64 c.ll,.int .i64 c.rl,.int .i64 c.rh,.int .i64 c.lh] 23)=wz;have hh:=ec9 hwz (al9 (b:=w.heap.size) (by simp));obtain ⟨c_t0,c_t1,c_t2,c_t3,c_t4,c_t5,c_t6,c_t7,c_t8⟩:=hh;have z_t:=elt hwz (alz (b:=w.heap.size) (by simp));have HS:Hid (Below w.heap.size w wz):=by rw [←hwz];exact hid ((Below.refl _ _).alloc (Nat.le_refl _) _)
 have hz:w.heap.size<wz.heap.size:=by rw [←hwz];simp
 clear hwz;have K0:=hid (fun d os=>Calls.regrown_of (w:=wz) (d:=d) (os:=os) ((PW.out (grow (redrawn wz d) os)).mono fun _ _ h=>⟨h.1,h.2 ▸ Below.refl _ _⟩));have q0:=cell_regrown c_t0;have q1:=cell_regrown c_t1;have q2:=cell_regrown c_t2;have q3:=cell_regrown c_t3;have q4:=cell_regrown c_t4;have q5:=cell_regrown c_t5;have q6:=cell_regrown c_t6;have q7:=cell_regrown c_t7;have q8:=cell_regrown c_t8;refine wp_region_quiet_below xk xk ?_;repeat (go_big_quiet_step (first|with_reducible exact K0.out _ _|exact K0.out _ _))
 refine wpQuiet_nil ?_;intro _ hw';obtain ⟨⟨dq,osq⟩,hw''⟩:=hw';subst hw'';have hbq:=below_regrown wz dq osq;clear q0 q1 q2 q3 q4 q5 q6 q7 q8 K0;generalize Sort.grow (redrawn wz dq) osq=wx at *;have HB2:=xv hbq HS;go_wp2
 go_ret
 exact ⟨rfl,HB2.out⟩
theorem NotMany05_ok (c:Cfg) (size:Int) (a H h:Nat) (k:CapC c size a H) (hh:h≤H) (n:Int) (hn0:0≤n) (hn1:n≤65537) (w:World):
    Calls Tryz.prog 97 #[.agg #[.int .u8 c.tag,.int .i64 c.most,.int .i64 c.seg,.int .i64 c.least,.int .i64 c.den,.int .i64 c.ll,.int .i64 c.rl,.int .i64 c.rh,.int .i64 c.lh],.int .i64 size,.int .i64 h,.int .i64 n] w (AnsB w (.bool (fulB c H h n))):=by
 obtain ⟨d0,d1,d2,d3,d4,d5,d6,d7,d8,d9,d10,d11,d12,d14,d15,d16,d17,d18,d19,d20⟩:=cfHead_num (cfMay_head k.may);have hH2:=k.h14;have hz:=k.all;have hzb:=k.big;have HT:=hid (fun W=>Height05_ok c size xo xo xo W);have WD:=hid (fun W=>Wide05_ok c h xo xo d5 W);obtain ⟨-,wb4,wb6,-⟩:=k.wd hh;rw [k.hgt] at HT;clear hz hzb;unfold fulB;generalize wdC c h=W at *;have m1:=mul_bd hn0 hn1 (show 0≤c.den by omega) d9;have m2:=mul_bd (show 0≤W by omega) wb6 (show 0≤c.rh by omega) (show c.rh≤64 by omega);have m3:=mul_bd hn0 hn1 (show (0:Int)≤(H:Int) by omega) (show (H:Int)≤16 by omega);have m4:=mul_bd m3.1 m3.2 (show 0≤c.den by omega) d9;have m5:=mul_bd (show 0≤c.lh by omega) (show c.lh≤64 by omega) (show (0:Int)≤(H:Int)-h by omega) (show (H:Int)-h≤16 by omega);have m6:=mul_bd (show 0≤c.rh by omega) (show c.rh≤64 by omega) (show (0:Int)≤(h:Int) by omega) (show (h:Int)≤16 by omega);have m7:=mul_bd (show 0≤W by omega) wb6 (show 0≤c.lh*((H:Int)-h)+c.rh*h by omega) (show c.lh*((H:Int)-h)+c.rh*h≤2048 by omega);have w1:IntKind.i64.wrap (n*c.den)=n*c.den:=IntWalk.i64_in _ xo;have w2:IntKind.i64.wrap (W*c.rh)=W*c.rh:=IntWalk.i64_in _ xo;have w3:IntKind.i64.wrap (n*H)=n*H:=IntWalk.i64_in _ xo;have w4:IntKind.i64.wrap (n*H*c.den)=n*H*c.den:=IntWalk.i64_in _ xo;have w5:IntKind.i64.wrap (c.lh*((H:Int)-h))=c.lh*((H:Int)-h):=IntWalk.i64_in _ xo;have w6:IntKind.i64.wrap (c.rh*h)=c.rh*h:=IntWalk.i64_in _ xo;have w7:IntKind.i64.wrap (c.lh*((H:Int)-h)+c.rh*h)=c.lh*((H:Int)-h)+c.rh*h:=IntWalk.i64_in _ xo;have w8:IntKind.i64.wrap (W*(c.lh*((H:Int)-h)+c.rh*h))=W*(c.lh*((H:Int)-h)+c.rh*h):=IntWalk.i64_in _ xo;have w9:IntKind.i64.wrap ((H:Int)-h)=(H:Int)-h:=IntWalk.i64_in _ xo;clear k m1 m2 m3 m4 m5 m6 m7;rcases Nat.eq_zero_or_pos H with e|e
 · subst e;rw [if_pos rfl];obtain rfl:h=0:=xo;clear w3 w4 w5 w6 w7 w8 w9;go_enter Tryz.func97,Tryz.ntmps97
   go_wp2_with fail
   refine (HT.out _).mono ?_;rintro e wz ⟨rfl,hb1⟩;have hz_wz:=hb1.size;try simp only [World.size_alloc,World.size_setCell] at hz_wz
   have hh:=bc9 hb1 (al9 (b:=w.heap.size) (by simp));obtain ⟨c_t0,c_t1,c_t2,c_t3,c_t4,c_t5,c_t6,c_t7,c_t8⟩:=hh;have z_t:=blt hb1 (alz (b:=w.heap.size) (by simp));have hB1:Below w.heap.size w wz:=xbel;have HS:=hid hB1;clear hb1 hB1;go_upto_region 3 with (fail)
   have K0:=hid (fun d os=>Calls.regrown_of (w:=wz) (d:=d) (os:=os) (WD.out (grow (redrawn wz d) os)));have q0:=cell_regrown c_t0;have q1:=cell_regrown c_t1;have q2:=cell_regrown c_t2;have q3:=cell_regrown c_t3;have q4:=cell_regrown c_t4;have q5:=cell_regrown c_t5;have q6:=cell_regrown c_t6;have q7:=cell_regrown c_t7;have q8:=cell_regrown c_t8;refine wp_region_quiet_below xk xk ?_;repeat (go_big_quiet_step (first|with_reducible exact K0.out _ _|exact K0.out _ _))
   refine wpQuiet_nil ?_;intro _ hw';obtain ⟨⟨dq,osq⟩,hw''⟩:=hw';subst hw'';have hbq:=below_regrown wz dq osq;clear q0 q1 q2 q3 q4 q5 q6 q7 q8 K0;generalize Sort.grow (redrawn wz dq) osq=wx at *;have HB2:=xv hbq HS;go_wp2
   go_ret
   exact ⟨rfl,HB2.out⟩
 · have hg:((H:Int)==0)=false:=by simp;omega
   rw [if_neg xo];clear w1 w2;go_enter Tryz.func97,Tryz.ntmps97
   go_wp2_with fail
   refine (HT.out _).mono ?_;rintro e wz ⟨rfl,hb1⟩;have hz_wz:=hb1.size;try simp only [World.size_alloc,World.size_setCell] at hz_wz
   have hh:=bc9 hb1 (al9 (b:=w.heap.size) (by simp));obtain ⟨c_t0,c_t1,c_t2,c_t3,c_t4,c_t5,c_t6,c_t7,c_t8⟩:=hh;have z_t:=blt hb1 (alz (b:=w.heap.size) (by simp));have hB1:Below w.heap.size w wz:=xbel;have HS:=hid hB1;clear hb1 hB1;go_upto_region 4 with (fail)
   have K0:=hid (fun d os=>Calls.regrown_of (w:=wz) (d:=d) (os:=os) (WD.out (grow (redrawn wz d) os)));have q0:=cell_regrown c_t0;have q1:=cell_regrown c_t1;have q2:=cell_regrown c_t2;have q3:=cell_regrown c_t3;have q4:=cell_regrown c_t4;have q5:=cell_regrown c_t5;have q6:=cell_regrown c_t6;have q7:=cell_regrown c_t7;have q8:=cell_regrown c_t8;refine wp_region_quiet_below xk xk ?_;repeat (go_big_quiet_step (first|with_reducible exact K0.out _ _|exact K0.out _ _))
   refine wpQuiet_nil ?_;intro _ hw';obtain ⟨⟨dq,osq⟩,hw''⟩:=hw';subst hw'';have hbq:=below_regrown wz dq osq;clear q0 q1 q2 q3 q4 q5 q6 q7 q8 K0;generalize Sort.grow (redrawn wz dq) osq=wx at *;have HB2:=xv hbq HS;go_wp2
   go_ret
   exact ⟨rfl,HB2.out⟩
theorem NotFew05_ok (c:Cfg) (size:Int) (a H h:Nat) (k:CapC c size a H) (hh:h≤H) (n:Int) (hn0:0≤n) (hn1:n≤65537) (w:World):
    Calls Tryz.prog 78 #[.agg #[.int .u8 c.tag,.int .i64 c.most,.int .i64 c.seg,.int .i64 c.least,.int .i64 c.den,.int .i64 c.ll,.int .i64 c.rl,.int .i64 c.rh,.int .i64 c.lh],.int .i64 size,.int .i64 h,.int .i64 n] w (AnsB w (.bool (sprB c size H h n))):=by
 obtain ⟨d0,d1,d2,d3,d4,d5,d6,d7,d8,d9,d10,d11,d12,d14,d15,d16,d17,d18,d19,d20⟩:=cfHead_num (cfMay_head k.may);have hH2:=k.h14;have hz:=k.all;have hzb:=k.big;have HT:=hid (fun W=>Height05_ok c size xo xo xo W);have WD:=hid (fun W=>Wide05_ok c h xo xo d5 W);obtain ⟨-,wb4,wb6,-⟩:=k.wd hh;rw [k.hgt] at HT;clear hz hzb;unfold sprB;generalize wdC c h=W at *;have m3:=mul_bd (show 0≤n+1 by omega) (show n+1≤65538 by omega) (show (0:Int)≤(H:Int) by omega) (show (H:Int)≤16 by omega);have m4:=mul_bd m3.1 m3.2 (show 0≤c.den by omega) d9;have m5:=mul_bd (show 0≤c.ll by omega) (show c.ll≤64 by omega) (show (0:Int)≤(H:Int)-h by omega) (show (H:Int)-h≤16 by omega);have m6:=mul_bd (show 0≤c.rl by omega) (show c.rl≤64 by omega) (show (0:Int)≤(h:Int) by omega) (show (h:Int)≤16 by omega);have m7:=mul_bd (show 0≤W by omega) wb6 (show 0≤c.ll*((H:Int)-h)+c.rl*h by omega) (show c.ll*((H:Int)-h)+c.rl*h≤2048 by omega);have w0:IntKind.i64.wrap (n+1)=n+1:=IntWalk.i64_in _ xo;have w3:IntKind.i64.wrap ((n+1)*H)=(n+1)*H:=IntWalk.i64_in _ xo;have w4:IntKind.i64.wrap ((n+1)*H*c.den)=(n+1)*H*c.den:=IntWalk.i64_in _ xo;have w5:IntKind.i64.wrap (c.ll*((H:Int)-h))=c.ll*((H:Int)-h):=IntWalk.i64_in _ xo;have w6:IntKind.i64.wrap (c.rl*h)=c.rl*h:=IntWalk.i64_in _ xo;have w7:IntKind.i64.wrap (c.ll*((H:Int)-h)+c.rl*h)=c.ll*((H:Int)-h)+c.rl*h:=IntWalk.i64_in _ xo;have w8:IntKind.i64.wrap (W*(c.ll*((H:Int)-h)+c.rl*h))=W*(c.ll*((H:Int)-h)+c.rl*h):=IntWalk.i64_in _ xo;have w9:IntKind.i64.wrap ((H:Int)-h)=(H:Int)-h:=IntWalk.i64_in _ xo;clear k m3 m4 m5 m6 m7;by_cases e:size=c.least
 · have e2:(size==c.least)=true:=by simp [e]
   rw [decide_eq_true e,Bool.true_or];clear e WD w0 w3 w4 w5 w6 w7 w8 w9;generalize c.least=le at *;go_enter Tryz.func78,Tryz.ntmps78
   go_wp2_with fail
   refine (HT.out _).mono ?_;rintro e wz ⟨rfl,hb1⟩;have hz_wz:=hb1.size;try simp only [World.size_alloc,World.size_setCell] at hz_wz
   have hh:=bc9 hb1 (al9 (b:=w.heap.size) (by simp));obtain ⟨c_t0,c_t1,c_t2,c_t3,c_t4,c_t5,c_t6,c_t7,c_t8⟩:=hh;have z_t:=blt hb1 (alz (b:=w.heap.size) (by simp));have hB1:Below w.heap.size w wz:=xbel;have HS:=hid hB1;clear hb1 hB1;go_upto_region 2 with (fail)
   have q0:=cell_regrown c_t0;have q1:=cell_regrown c_t1;have q2:=cell_regrown c_t2;have q3:=cell_regrown c_t3;have q4:=cell_regrown c_t4;have q5:=cell_regrown c_t5;have q6:=cell_regrown c_t6;have q7:=cell_regrown c_t7;have q8:=cell_regrown c_t8;refine wp_region_quiet_below xk xk ?_;repeat (go_big_quiet_step (fail))
   refine wpQuiet_nil ?_;intro _ hw';obtain ⟨⟨dq,osq⟩,hw''⟩:=hw';subst hw'';have hbq:=below_regrown wz dq osq;clear q0 q1 q2 q3 q4 q5 q6 q7 q8;generalize Sort.grow (redrawn wz dq) osq=wx at *;have HB2:=xv hbq HS;go_wp2
   go_ret
   exact ⟨rfl,HB2.out⟩
 · have e2:(size==c.least)=false:=by simp [e]
   rw [decide_eq_false e,Bool.false_or];clear e;generalize c.least=le at *;go_enter Tryz.func78,Tryz.ntmps78
   go_wp2_with fail
   refine (HT.out _).mono ?_;rintro e wz ⟨rfl,hb1⟩;have hz_wz:=hb1.size;try simp only [World.size_alloc,World.size_setCell] at hz_wz
   have hh:=bc9 hb1 (al9 (b:=w.heap.size) (by simp));obtain ⟨c_t0,c_t1,c_t2,c_t3,c_t4,c_t5,c_t6,c_t7,c_t8⟩:=hh;have z_t:=blt hb1 (alz (b:=w.heap.size) (by simp));have hB1:Below w.heap.size w wz:=xbel;have HS:=hid hB1;clear hb1 hB1;go_upto_region 2 with (fail)
   have K0:=hid (fun d os=>Calls.regrown_of (w:=wz) (d:=d) (os:=os) (WD.out (grow (redrawn wz d) os)));have q0:=cell_regrown c_t0;have q1:=cell_regrown c_t1;have q2:=cell_regrown c_t2;have q3:=cell_regrown c_t3;have q4:=cell_regrown c_t4;have q5:=cell_regrown c_t5;have q6:=cell_regrown c_t6;have q7:=cell_regrown c_t7;have q8:=cell_regrown c_t8;refine wp_region_quiet_below xk xk ?_;repeat (go_big_quiet_step (first|with_reducible exact K0.out _ _|exact K0.out _ _))
   refine wpQuiet_nil ?_;intro _ hw';obtain ⟨⟨dq,osq⟩,hw''⟩:=hw';subst hw'';have hbq:=below_regrown wz dq osq;clear q0 q1 q2 q3 q4 q5 q6 q7 q8 K0;generalize Sort.grow (redrawn wz dq) osq=wx at *;have HB2:=xv hbq HS;go_wp2
   go_ret
   exact ⟨rfl,HB2.out⟩
end
end Go.Proofs.YtookgoidlnlckaaGreatDoor

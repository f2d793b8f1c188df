/- Merged: Ref05, Ref09. -/
import Derived.Test.YtbedhbpgnfffmaaGreatCobTellsP12
import Derived.Test.YtbedhbpgnfffmaaGreatCobTellsP13
import Derived.Test.YtbedhbpgnfffmaaGreatCobTellsP5
namespace Go.Proofs.YtbedhbpgnfffmaaGreat
set_option maxRecDepth 100000
set_option maxHeartbeats 40000000
set_option linter.unusedVariables false
set_option linter.unusedSimpArgs false
section
open Go.RowKit Go.Shelf Go.Sort
theorem Takes05_ok (c:Cfg) (hc:cfHead c=true) (n:Int) (h0:0≤n) (h1:n≤16384) (w:World):
    Calls Tryz.prog 87 #[.agg #[.int .u8 c.tag,.int .i64 c.most,.int .i64 c.seg,.int .i64 c.least,.int .i64 c.den,.int .i64 c.ll,.int .i64 c.rl,.int .i64 c.rh,.int .i64 c.lh],.int .i64 n] w (AnsB w (.int .i64 (taks c n))):=by
 obtain ⟨d0,d1,d2,d3,d4,d5,d6,d7,d8,d9,d10,d11,d12,d13,d14,d15,d16,d17⟩:=cfHead_num hc;obtain ⟨s1,s2,s3⟩:=tak_start (c:=c) h0 h1 xo d8 d9;have HQ:=hid (And.intro h0 (And.intro h1 (And.intro (show 1≤c.rh by omega) d15)));unfold taks;obtain ⟨T,hT⟩:∃T,takF c n 20 c.least=T:=⟨_,rfl⟩
 rw [hT];have HT:=hid hT;obtain ⟨X,hX⟩:∃X,n*c.den=X:=⟨_,rfl⟩
 rw [hX] at s1 s2 s3;have HX:=hid hX;have H1:=hid s1;have hwX:IntKind.i64.wrap (n*c.den)=X:=by rw [hX];exact IntWalk.i64_in _ xo
 have hr7:c.rh≤64:=xo;have hr1:1≤c.rh:=xo;clear hT hX s1 hc d17;go_enter Tryz.func87,Tryz.ntmps87
 go_upto_region 1 with (fail)
 generalize hwz:w.alloc _=wz;have hh:=ec9 hwz (al9 (b:=w.heap.size) xsi);obtain ⟨c_t0,c_t1,c_t2,c_t3,c_t4,c_t5,c_t6,c_t7,c_t8⟩:=hh;have z_t:=elt hwz (alz (b:=w.heap.size) xsi);have HS:Hid (Below w.heap.size w wz):=by rw [←hwz];exact hid (br.alloc (Nat.le_refl _) _)
 have hz:w.heap.size<wz.heap.size:=by rw [←hwz];simp
 clear hwz;go_wp2
 go_loopg [5] 20 (fun gk v wr=>∃size:Int,v= .int .i64 size∧0≤size∧size≤65536∧Hid (takF c n gk size=T∧X≤size*2^gk)∧wz=wr)
 case atStart=>exact ⟨c.least,rfl,by omega,by omega,hid ⟨HT.out,H1.out⟩,rfl⟩
 case round=>
  obtain ⟨size,rfl,z0,z1,HK,rfl⟩:=hrel;obtain ⟨Y,hY⟩:∃Y,c.rh*size=Y:=⟨_,rfl⟩
  have hY2:0≤Y∧Y≤64*65536∧size≤Y:=by
   rw [←hY];have a1:=Int.mul_le_mul hr7 z1 xo xo;have a2:=Int.mul_le_mul_of_nonneg_right hr1 z0;exact ⟨Int.mul_nonneg xo z0,a1,by omega⟩
  have hwY:IntKind.i64.wrap (c.rh*size)=Y:=by rw [hY];exact IntWalk.i64_in _ xo
  have tt:=tak_turn HX.out hY HQ.out.1 HQ.out.2.1 HQ.out.2.2.1 HQ.out.2.2.2 HK.out z0 hY2.2.2;clear hY HK;by_cases hlt:Y<X
  · obtain ⟨hn2,j,rfl,hj⟩:=tt.2 hlt;have HN:=hid hj;clear hj tt;go_wp2
    go_roundg j
    case measure=>omega
    case rel=>exact ⟨2*size,by go_num,by omega,by omega,HN,rfl⟩
  · have hfin:=tt.1 hlt;subst hfin;clear tt;go_wp2
    go_ret
    exact ⟨rfl,HS.out⟩
theorem Height05_ok (c:Cfg) (size:Int) (h0:0≤size) (h1:size≤65536) (h2:1≤c.seg) (w:World):
    Calls Tryz.prog 86 #[.agg #[.int .u8 c.tag,.int .i64 c.most,.int .i64 c.seg,.int .i64 c.least,.int .i64 c.den,.int .i64 c.ll,.int .i64 c.rl,.int .i64 c.rh,.int .i64 c.lh],.int .i64 size] w (AnsB w (.int .i64 (htC c size:Nat))):=by
 have hq0:0≤size/c.seg:=Int.ediv_nonneg h0 xo;have hq1:size/c.seg≤65536:=Int.le_trans (Int.ediv_le_self _ h0) h1;have hq2:size.tdiv c.seg=size/c.seg:=Int.tdiv_eq_ediv_of_nonneg h0;have hs0:(c.seg==0)=false:=by simp;omega
 unfold htC;generalize size/c.seg=q at *;obtain ⟨m,rfl⟩:=Int.eq_ofNat_of_zero_le hq0;rw [Int.toNat_natCast];have LG:=hid (fun w=>Log_any m m rfl xo w);generalize m.log2=z at *;have hwm:IntKind.i64.wrap (m:Int)=(m:Int):=IntWalk.i64_in _ xo;go_enter Tryz.func86,Tryz.ntmps86
 go_wp2_with (go_at_call 70;refine (LG.out _).mono ?_;rintro e w' ⟨rfl,rfl⟩)
 go_ret
 exact ⟨rfl,br.alloc (Nat.le_refl _) _⟩
theorem power05_ok (n lo hi:Int) (hh:hi≤65536) (w:World):
    Calls Tryz.prog 85 #[.int .i64 n,.int .i64 lo,.int .i64 hi] w fun e w'=>e= .returned (.bool (powB n lo hi))∧w=w':=by
 by_cases c1:lo≤n
 · by_cases c2:n≤hi
   · have e:powB n lo hi=pwB n:=by simp [powB,c1,c2]
     rw [e];have PW:=hid (fun w=>Power01_ok n xo w);generalize pwB n=b at *;clear e;go_enter Tryz.func85,Tryz.ntmps85
     go_wp2_with (go_at_call 119;refine (PW.out _).mono ?_;rintro e w' ⟨rfl,rfl⟩)
     go_ret
     exact ⟨rfl,rfl⟩
   · have e:powB n lo hi=false:=by simp [powB,c2]
     rw [e];clear e;go_enter Tryz.func85,Tryz.ntmps85
     go_wp2
     go_ret
     exact ⟨rfl,rfl⟩
 · have e:powB n lo hi=false:=by simp [powB,c1]
   rw [e];clear e;go_enter Tryz.func85,Tryz.ntmps85
   go_wp2
   go_ret
   exact ⟨rfl,rfl⟩
theorem cfHeadR_not {c:Cfg} (h:cfHeadR c=false):cfMay c=false:=by
 rw [cfHeadR_eq] at h;simp [cfMay,h]
theorem May05_bad (c:Cfg) (h:cfHeadR c=false) (w:World):
    Calls Tryz.prog 55 #[.agg #[.int .u8 c.tag,.int .i64 c.most,.int .i64 c.seg,.int .i64 c.least,.int .i64 c.den,.int .i64 c.ll,.int .i64 c.rl,.int .i64 c.rh,.int .i64 c.lh]] w (AnsB w (.bool false)):=by
 have PS:=hid (fun w=>power05_ok c.seg 4 64 xo w);have PL:=hid (fun w=>power05_ok c.least c.seg 256 xo w);have HC:=hid h;clear h;obtain ⟨bs,hbs⟩:∃b,powB c.seg 4 64=b:=⟨_,rfl⟩
 obtain ⟨bl,hbl⟩:∃b,powB c.least c.seg 256=b:=⟨_,rfl⟩
 rw [hbs] at PS;rw [hbl] at PL;have HPS:=hid hbs;have HPL:=hid hbl;clear hbs hbl;go_enter Tryz.func55,Tryz.ntmps55
 go_upto_region 1 with (fail)
 generalize hwz:w.alloc _=wz;have hh:=ec9 hwz (al9 (b:=w.heap.size) xsi);obtain ⟨c_t0,c_t1,c_t2,c_t3,c_t4,c_t5,c_t6,c_t7,c_t8⟩:=hh;have z_t:=elt hwz (alz (b:=w.heap.size) xsi);have HS:Hid (Below w.heap.size w wz):=by rw [←hwz];exact hid (br.alloc (Nat.le_refl _) _)
 have hz:w.heap.size<wz.heap.size:=by rw [←hwz];simp
 clear hwz;by_cases d0:1≤c.tag
 rotate_left
 · have g0:decide (c.tag<1)=true:=by simp;omega
   clear HC HPS HPL;have K0:=hid (fun d os=>kr wz d os ((PS.out _).mono fun _ _ h=>⟨h.1,h.2 ▸ Below.refl _ _⟩));have K1:=hid (fun d os=>kr wz d os ((PL.out _).mono fun _ _ h=>⟨h.1,h.2 ▸ Below.refl _ _⟩));have q0:=cg c_t0;have q1:=cg c_t1;have q2:=cg c_t2;have q3:=cg c_t3;have q4:=cg c_t4;have q5:=cg c_t5;have q6:=cg c_t6;have q7:=cg c_t7;have q8:=cg c_t8;refine wp_text_quiet_below ?_;repeat (go_big_quiet_step (first|with_reducible exact K0.out _ _|with_reducible exact K1.out _ _|exact K0.out _ _|exact K1.out _ _))
   refine wpQuiet_nil ?_;intro _ hw';obtain ⟨⟨dq,osq⟩,hw''⟩:=hw';subst hw'';have hbq:=below_regrown wz dq osq;clear q0 q1 q2 q3 q4 q5 q6 q7 q8 K0 K1;generalize Sort.grow (redrawn wz dq) osq=wx at *;have HE:=xv hbq HS;go_wp2
   go_ret
   exact ⟨rfl,HE.out⟩
 have g0:decide (c.tag<1)=false:=by simp;omega
 by_cases d1:c.tag≤3
 rotate_left
 · have g1:decide (3<c.tag)=true:=by simp;omega
   clear HC HPS HPL;have K0:=hid (fun d os=>kr wz d os ((PS.out _).mono fun _ _ h=>⟨h.1,h.2 ▸ Below.refl _ _⟩));have K1:=hid (fun d os=>kr wz d os ((PL.out _).mono fun _ _ h=>⟨h.1,h.2 ▸ Below.refl _ _⟩));have q0:=cg c_t0;have q1:=cg c_t1;have q2:=cg c_t2;have q3:=cg c_t3;have q4:=cg c_t4;have q5:=cg c_t5;have q6:=cg c_t6;have q7:=cg c_t7;have q8:=cg c_t8;refine wp_text_quiet_below ?_;repeat (go_big_quiet_step (first|with_reducible exact K0.out _ _|with_reducible exact K1.out _ _|exact K0.out _ _|exact K1.out _ _))
   refine wpQuiet_nil ?_;intro _ hw';obtain ⟨⟨dq,osq⟩,hw''⟩:=hw';subst hw'';have hbq:=below_regrown wz dq osq;clear q0 q1 q2 q3 q4 q5 q6 q7 q8 K0 K1;generalize Sort.grow (redrawn wz dq) osq=wx at *;have HE:=xv hbq HS;go_wp2
   go_ret
   exact ⟨rfl,HE.out⟩
 have g1:decide (3<c.tag)=false:=by simp;omega
 by_cases d2:1≤c.most
 rotate_left
 · have g2:decide (c.most<1)=true:=by simp;omega
   clear HC HPS HPL;have K0:=hid (fun d os=>kr wz d os ((PS.out _).mono fun _ _ h=>⟨h.1,h.2 ▸ Below.refl _ _⟩));have K1:=hid (fun d os=>kr wz d os ((PL.out _).mono fun _ _ h=>⟨h.1,h.2 ▸ Below.refl _ _⟩));have q0:=cg c_t0;have q1:=cg c_t1;have q2:=cg c_t2;have q3:=cg c_t3;have q4:=cg c_t4;have q5:=cg c_t5;have q6:=cg c_t6;have q7:=cg c_t7;have q8:=cg c_t8;refine wp_text_quiet_below ?_;repeat (go_big_quiet_step (first|with_reducible exact K0.out _ _|with_reducible exact K1.out _ _|exact K0.out _ _|exact K1.out _ _))
   refine wpQuiet_nil ?_;intro _ hw';obtain ⟨⟨dq,osq⟩,hw''⟩:=hw';subst hw'';have hbq:=below_regrown wz dq osq;clear q0 q1 q2 q3 q4 q5 q6 q7 q8 K0 K1;generalize Sort.grow (redrawn wz dq) osq=wx at *;have HE:=xv hbq HS;go_wp2
   go_ret
   exact ⟨rfl,HE.out⟩
 have g2:decide (c.most<1)=false:=by simp;omega
 by_cases d3:c.most≤16384
 rotate_left
 · have g3:decide (16384<c.most)=true:=by simp;omega
   clear HC HPS HPL;have K0:=hid (fun d os=>kr wz d os ((PS.out _).mono fun _ _ h=>⟨h.1,h.2 ▸ Below.refl _ _⟩));have K1:=hid (fun d os=>kr wz d os ((PL.out _).mono fun _ _ h=>⟨h.1,h.2 ▸ Below.refl _ _⟩));have q0:=cg c_t0;have q1:=cg c_t1;have q2:=cg c_t2;have q3:=cg c_t3;have q4:=cg c_t4;have q5:=cg c_t5;have q6:=cg c_t6;have q7:=cg c_t7;have q8:=cg c_t8;refine wp_text_quiet_below ?_;repeat (go_big_quiet_step (first|with_reducible exact K0.out _ _|with_reducible exact K1.out _ _|exact K0.out _ _|exact K1.out _ _))
   refine wpQuiet_nil ?_;intro _ hw';obtain ⟨⟨dq,osq⟩,hw''⟩:=hw';subst hw'';have hbq:=below_regrown wz dq osq;clear q0 q1 q2 q3 q4 q5 q6 q7 q8 K0 K1;generalize Sort.grow (redrawn wz dq) osq=wx at *;have HE:=xv hbq HS;go_wp2
   go_ret
   exact ⟨rfl,HE.out⟩
 have g3:decide (16384<c.most)=false:=by simp;omega
 cases bs with
 | false=>
  clear HC HPS HPL;have K0:=hid (fun d os=>kr wz d os ((PS.out _).mono fun _ _ h=>⟨h.1,h.2 ▸ Below.refl _ _⟩));have K1:=hid (fun d os=>kr wz d os ((PL.out _).mono fun _ _ h=>⟨h.1,h.2 ▸ Below.refl _ _⟩));have q0:=cg c_t0;have q1:=cg c_t1;have q2:=cg c_t2;have q3:=cg c_t3;have q4:=cg c_t4;have q5:=cg c_t5;have q6:=cg c_t6;have q7:=cg c_t7;have q8:=cg c_t8;refine wp_text_quiet_below ?_;repeat (go_big_quiet_step (first|with_reducible exact K0.out _ _|with_reducible exact K1.out _ _|exact K0.out _ _|exact K1.out _ _))
  refine wpQuiet_nil ?_;intro _ hw';obtain ⟨⟨dq,osq⟩,hw''⟩:=hw';subst hw'';have hbq:=below_regrown wz dq osq;clear q0 q1 q2 q3 q4 q5 q6 q7 q8 K0 K1;generalize Sort.grow (redrawn wz dq) osq=wx at *;have HE:=xv hbq HS;go_wp2
  go_ret
  exact ⟨rfl,HE.out⟩
 | true=>
  cases bl with
  | false=>
   clear HC HPS HPL;have K0:=hid (fun d os=>kr wz d os ((PS.out _).mono fun _ _ h=>⟨h.1,h.2 ▸ Below.refl _ _⟩));have K1:=hid (fun d os=>kr wz d os ((PL.out _).mono fun _ _ h=>⟨h.1,h.2 ▸ Below.refl _ _⟩));have q0:=cg c_t0;have q1:=cg c_t1;have q2:=cg c_t2;have q3:=cg c_t3;have q4:=cg c_t4;have q5:=cg c_t5;have q6:=cg c_t6;have q7:=cg c_t7;have q8:=cg c_t8;refine wp_text_quiet_below ?_;repeat (go_big_quiet_step (first|with_reducible exact K0.out _ _|with_reducible exact K1.out _ _|exact K0.out _ _|exact K1.out _ _))
   refine wpQuiet_nil ?_;intro _ hw';obtain ⟨⟨dq,osq⟩,hw''⟩:=hw';subst hw'';have hbq:=below_regrown wz dq osq;clear q0 q1 q2 q3 q4 q5 q6 q7 q8 K0 K1;generalize Sort.grow (redrawn wz dq) osq=wx at *;have HE:=xv hbq HS;go_wp2
   go_ret
   exact ⟨rfl,HE.out⟩
  | true=>
   have hseg:=(powB_iff.1 HPS.out).1;have hseg2:=(powB_iff.1 HPS.out).2.1;have hleast:=(powB_iff.1 HPL.out)
   obtain ⟨hl1,hl2,-⟩:=hleast;by_cases d6:1≤c.den
   rotate_left
   · have g6:decide (c.den<1)=true:=by simp;omega
     clear HC HPS HPL;have K0:=hid (fun d os=>kr wz d os ((PS.out _).mono fun _ _ h=>⟨h.1,h.2 ▸ Below.refl _ _⟩));have K1:=hid (fun d os=>kr wz d os ((PL.out _).mono fun _ _ h=>⟨h.1,h.2 ▸ Below.refl _ _⟩));have q0:=cg c_t0;have q1:=cg c_t1;have q2:=cg c_t2;have q3:=cg c_t3;have q4:=cg c_t4;have q5:=cg c_t5;have q6:=cg c_t6;have q7:=cg c_t7;have q8:=cg c_t8;refine wp_text_quiet_below ?_;repeat (go_big_quiet_step (first|with_reducible exact K0.out _ _|with_reducible exact K1.out _ _|exact K0.out _ _|exact K1.out _ _))
     refine wpQuiet_nil ?_;intro _ hw';obtain ⟨⟨dq,osq⟩,hw''⟩:=hw';subst hw'';have hbq:=below_regrown wz dq osq;clear q0 q1 q2 q3 q4 q5 q6 q7 q8 K0 K1;generalize Sort.grow (redrawn wz dq) osq=wx at *;have HE:=xv hbq HS;go_wp2
     go_ret
     exact ⟨rfl,HE.out⟩
   have g6:decide (c.den<1)=false:=by simp;omega
   by_cases d7:c.den≤64
   rotate_left
   · have g7:decide (64<c.den)=true:=by simp;omega
     clear HC HPS HPL;have K0:=hid (fun d os=>kr wz d os ((PS.out _).mono fun _ _ h=>⟨h.1,h.2 ▸ Below.refl _ _⟩));have K1:=hid (fun d os=>kr wz d os ((PL.out _).mono fun _ _ h=>⟨h.1,h.2 ▸ Below.refl _ _⟩));have q0:=cg c_t0;have q1:=cg c_t1;have q2:=cg c_t2;have q3:=cg c_t3;have q4:=cg c_t4;have q5:=cg c_t5;have q6:=cg c_t6;have q7:=cg c_t7;have q8:=cg c_t8;refine wp_text_quiet_below ?_;repeat (go_big_quiet_step (first|with_reducible exact K0.out _ _|with_reducible exact K1.out _ _|exact K0.out _ _|exact K1.out _ _))
     refine wpQuiet_nil ?_;intro _ hw';obtain ⟨⟨dq,osq⟩,hw''⟩:=hw';subst hw'';have hbq:=below_regrown wz dq osq;clear q0 q1 q2 q3 q4 q5 q6 q7 q8 K0 K1;generalize Sort.grow (redrawn wz dq) osq=wx at *;have HE:=xv hbq HS;go_wp2
     go_ret
     exact ⟨rfl,HE.out⟩
   have g7:decide (64<c.den)=false:=by simp;omega
   have K0:=hid (fun d os=>kr wz d os ((PS.out _).mono fun _ _ h=>⟨h.1,h.2 ▸ Below.refl _ _⟩));have K1:=hid (fun d os=>kr wz d os ((PL.out _).mono fun _ _ h=>⟨h.1,h.2 ▸ Below.refl _ _⟩));have q0:=cg c_t0;have q1:=cg c_t1;have q2:=cg c_t2;have q3:=cg c_t3;have q4:=cg c_t4;have q5:=cg c_t5;have q6:=cg c_t6;have q7:=cg c_t7;have q8:=cg c_t8;refine wp_text_quiet_below ?_;repeat (go_big_quiet_step (first|with_reducible exact K0.out _ _|with_reducible exact K1.out _ _|exact K0.out _ _|exact K1.out _ _))
   refine wpQuiet_nil ?_;intro _ hw';obtain ⟨⟨dq,osq⟩,hw''⟩:=hw';subst hw'';have hbq:=below_regrown wz dq osq;clear q0 q1 q2 q3 q4 q5 q6 q7 q8 K0 K1;generalize Sort.grow (redrawn wz dq) osq=wx at *;have HB2:=xv hbq HS;have hz_wx:=hbq.size;simp (disch:=omega) only [xcl hbq] at *;replace z_t:=blt hbq z_t;clear hbq;go_upto_region 3 with (fail)
   by_cases d8:0≤c.ll
   rotate_left
   · have g8:decide (c.ll<0)=true:=by simp;omega
     clear HC HPS HPL;have q0:=cg c_t0;have q1:=cg c_t1;have q2:=cg c_t2;have q3:=cg c_t3;have q4:=cg c_t4;have q5:=cg c_t5;have q6:=cg c_t6;have q7:=cg c_t7;have q8:=cg c_t8;refine wp_text_quiet_below ?_;repeat (go_big_quiet_step (fail))
     refine wpQuiet_nil ?_;intro _ hw';obtain ⟨⟨dq,osq⟩,hw''⟩:=hw';subst hw'';have hbq:=below_regrown wx dq osq;clear q0 q1 q2 q3 q4 q5 q6 q7 q8;generalize Sort.grow (redrawn wx dq) osq=wx2 at *;have HE:=xv hbq HB2;go_wp2
     go_ret
     exact ⟨rfl,HE.out⟩
   have g8:decide (c.ll<0)=false:=by simp;omega
   by_cases d9:c.ll<c.rl
   rotate_left
   · have g9:decide (c.rl≤c.ll)=true:=by simp;omega
     clear HC HPS HPL;have q0:=cg c_t0;have q1:=cg c_t1;have q2:=cg c_t2;have q3:=cg c_t3;have q4:=cg c_t4;have q5:=cg c_t5;have q6:=cg c_t6;have q7:=cg c_t7;have q8:=cg c_t8;refine wp_text_quiet_below ?_;repeat (go_big_quiet_step (fail))
     refine wpQuiet_nil ?_;intro _ hw';obtain ⟨⟨dq,osq⟩,hw''⟩:=hw';subst hw'';have hbq:=below_regrown wx dq osq;clear q0 q1 q2 q3 q4 q5 q6 q7 q8;generalize Sort.grow (redrawn wx dq) osq=wx2 at *;have HE:=xv hbq HB2;go_wp2
     go_ret
     exact ⟨rfl,HE.out⟩
   have g9:decide (c.rl≤c.ll)=false:=by simp;omega
   by_cases d10:c.rh<c.lh
   rotate_left
   · have g10:decide (c.lh≤c.rh)=true:=by simp;omega
     clear HC HPS HPL;have q0:=cg c_t0;have q1:=cg c_t1;have q2:=cg c_t2;have q3:=cg c_t3;have q4:=cg c_t4;have q5:=cg c_t5;have q6:=cg c_t6;have q7:=cg c_t7;have q8:=cg c_t8;refine wp_text_quiet_below ?_;repeat (go_big_quiet_step (fail))
     refine wpQuiet_nil ?_;intro _ hw';obtain ⟨⟨dq,osq⟩,hw''⟩:=hw';subst hw'';have hbq:=below_regrown wx dq osq;clear q0 q1 q2 q3 q4 q5 q6 q7 q8;generalize Sort.grow (redrawn wx dq) osq=wx2 at *;have HE:=xv hbq HB2;go_wp2
     go_ret
     exact ⟨rfl,HE.out⟩
   have g10:decide (c.lh≤c.rh)=false:=by simp;omega
   by_cases d11:c.lh≤c.den
   rotate_left
   · have g11:decide (c.den<c.lh)=true:=by simp;omega
     clear HC HPS HPL;have q0:=cg c_t0;have q1:=cg c_t1;have q2:=cg c_t2;have q3:=cg c_t3;have q4:=cg c_t4;have q5:=cg c_t5;have q6:=cg c_t6;have q7:=cg c_t7;have q8:=cg c_t8;refine wp_text_quiet_below ?_;repeat (go_big_quiet_step (fail))
     refine wpQuiet_nil ?_;intro _ hw';obtain ⟨⟨dq,osq⟩,hw''⟩:=hw';subst hw'';have hbq:=below_regrown wx dq osq;clear q0 q1 q2 q3 q4 q5 q6 q7 q8;generalize Sort.grow (redrawn wx dq) osq=wx2 at *;have HE:=xv hbq HB2;go_wp2
     go_ret
     exact ⟨rfl,HE.out⟩
   have g11:decide (c.den<c.lh)=false:=by simp;omega
   by_cases d12:c.rl≤c.den
   rotate_left
   · have g12:decide (c.den<c.rl)=true:=by simp;omega
     clear HC HPS HPL;have q0:=cg c_t0;have q1:=cg c_t1;have q2:=cg c_t2;have q3:=cg c_t3;have q4:=cg c_t4;have q5:=cg c_t5;have q6:=cg c_t6;have q7:=cg c_t7;have q8:=cg c_t8;refine wp_text_quiet_below ?_;repeat (go_big_quiet_step (fail))
     refine wpQuiet_nil ?_;intro _ hw';obtain ⟨⟨dq,osq⟩,hw''⟩:=hw';subst hw'';have hbq:=below_regrown wx dq osq;clear q0 q1 q2 q3 q4 q5 q6 q7 q8;generalize Sort.grow (redrawn wx dq) osq=wx2 at *;have HE:=xv hbq HB2;go_wp2
     go_ret
     exact ⟨rfl,HE.out⟩
   have g12:decide (c.den<c.rl)=false:=by simp;omega
   have q0:=cg c_t0;have q1:=cg c_t1;have q2:=cg c_t2;have q3:=cg c_t3;have q4:=cg c_t4;have q5:=cg c_t5;have q6:=cg c_t6;have q7:=cg c_t7;have q8:=cg c_t8;refine wp_text_quiet_below ?_;repeat (go_big_quiet_step (fail))
   refine wpQuiet_nil ?_;intro _ hw';obtain ⟨⟨dq,osq⟩,hw''⟩:=hw';subst hw'';have hbq:=below_regrown wx dq osq;clear q0 q1 q2 q3 q4 q5 q6 q7 q8;generalize Sort.grow (redrawn wx dq) osq=wx2 at *;have HB3:=xv hbq HB2;have hz_wx2:=hbq.size;simp (disch:=omega) only [xcl hbq] at *;replace z_t:=blt hbq z_t;clear hbq;go_upto_region 5 with (fail)
   by_cases d13:0≤c.rh
   rotate_left
   · have g13:decide (c.rh<0)=true:=by simp;omega
     clear HC HPS HPL;have q0:=cg c_t0;have q1:=cg c_t1;have q2:=cg c_t2;have q3:=cg c_t3;have q4:=cg c_t4;have q5:=cg c_t5;have q6:=cg c_t6;have q7:=cg c_t7;have q8:=cg c_t8;refine wp_text_quiet_below ?_;repeat (go_big_quiet_step (fail))
     refine wpQuiet_nil ?_;intro _ hw';obtain ⟨⟨dq,osq⟩,hw''⟩:=hw';subst hw'';have hbq:=below_regrown wx2 dq osq;clear q0 q1 q2 q3 q4 q5 q6 q7 q8;generalize Sort.grow (redrawn wx2 dq) osq=wx3 at *;have HE:=xv hbq HB3;go_wp2
     go_ret
     exact ⟨rfl,HE.out⟩
   have g13:decide (c.rh<0)=false:=by simp;omega
   have x1:IntKind.i64.wrap (2*c.rh)=2*c.rh:=IntWalk.i64_in _ xo;have x2:IntKind.i64.wrap (8*c.rl)=8*c.rl:=IntWalk.i64_in _ xo;have x3:IntKind.i64.wrap (2*c.den)=2*c.den:=IntWalk.i64_in _ xo;by_cases d14:c.den≤2*c.rh
   rotate_left
   · have g14:decide (2*c.rh<c.den)=true:=by simp;omega
     clear HC HPS HPL;have q0:=cg c_t0;have q1:=cg c_t1;have q2:=cg c_t2;have q3:=cg c_t3;have q4:=cg c_t4;have q5:=cg c_t5;have q6:=cg c_t6;have q7:=cg c_t7;have q8:=cg c_t8;refine wp_text_quiet_below ?_;repeat (go_big_quiet_step (fail))
     refine wpQuiet_nil ?_;intro _ hw';obtain ⟨⟨dq,osq⟩,hw''⟩:=hw';subst hw'';have hbq:=below_regrown wx2 dq osq;clear q0 q1 q2 q3 q4 q5 q6 q7 q8;generalize Sort.grow (redrawn wx2 dq) osq=wx3 at *;have HE:=xv hbq HB3;go_wp2
     go_ret
     exact ⟨rfl,HE.out⟩
   have g14:decide (2*c.rh<c.den)=false:=by simp;omega
   by_cases d15:8*c.rl≤c.den
   rotate_left
   · have g15:decide (c.den<8*c.rl)=true:=by simp;omega
     clear HC HPS HPL;have q0:=cg c_t0;have q1:=cg c_t1;have q2:=cg c_t2;have q3:=cg c_t3;have q4:=cg c_t4;have q5:=cg c_t5;have q6:=cg c_t6;have q7:=cg c_t7;have q8:=cg c_t8;refine wp_text_quiet_below ?_;repeat (go_big_quiet_step (fail))
     refine wpQuiet_nil ?_;intro _ hw';obtain ⟨⟨dq,osq⟩,hw''⟩:=hw';subst hw'';have hbq:=below_regrown wx2 dq osq;clear q0 q1 q2 q3 q4 q5 q6 q7 q8;generalize Sort.grow (redrawn wx2 dq) osq=wx3 at *;have HE:=xv hbq HB3;go_wp2
     go_ret
     exact ⟨rfl,HE.out⟩
   have g15:decide (c.den<8*c.rl)=false:=by simp;omega
   have hq:=Int.mul_le_mul (show c.rl≤64 by omega) hl2 xo xo;have hq0:=Int.mul_nonneg (show 0≤c.rl by omega) (show 0≤c.least by omega);have hqw:IntKind.i64.wrap (c.rl*c.least)=c.rl*c.least:=IntWalk.i64_in _ xo;by_cases d16:2*c.den≤c.rl*c.least
   rotate_left
   · have g16:decide (c.rl*c.least<2*c.den)=true:=by simp;omega
     clear HC HPS HPL;have q0:=cg c_t0;have q1:=cg c_t1;have q2:=cg c_t2;have q3:=cg c_t3;have q4:=cg c_t4;have q5:=cg c_t5;have q6:=cg c_t6;have q7:=cg c_t7;have q8:=cg c_t8;refine wp_text_quiet_below ?_;repeat (go_big_quiet_step (fail))
     refine wpQuiet_nil ?_;intro _ hw';obtain ⟨⟨dq,osq⟩,hw''⟩:=hw';subst hw'';have hbq:=below_regrown wx2 dq osq;clear q0 q1 q2 q3 q4 q5 q6 q7 q8;generalize Sort.grow (redrawn wx2 dq) osq=wx3 at *;have HE:=xv hbq HB3;go_wp2
     go_ret
     exact ⟨rfl,HE.out⟩
   have g16:decide (c.rl*c.least<2*c.den)=false:=by simp;omega
   exfalso
   have:=HC.out;simp only [cfHeadR,HPS.out,HPL.out,d0,d1,d2,d3,d6,d7,d8,d9,d10,d11,d12,d13,d14,d15,d16,decide_true,Bool.and_self] at this;cases this
theorem May05_good (c:Cfg) (h:cfHead c=true) (w:World):
    Calls Tryz.prog 55 #[.agg #[.int .u8 c.tag,.int .i64 c.most,.int .i64 c.seg,.int .i64 c.least,.int .i64 c.den,.int .i64 c.ll,.int .i64 c.rl,.int .i64 c.rh,.int .i64 c.lh]] w (AnsB w (.bool (cfMay c))):=by
 have hf:=cfHead_facts h;obtain ⟨d0,d1,d2,d3,d4,d5,d6,d7,d8,d9,d10,d11,d12,d14,d15,d16,d17,d18,d19,d20⟩:=cfHead_num h;have PS:=hid (fun w=>power05_ok c.seg 4 64 xo w);have PL:=hid (fun w=>power05_ok c.least c.seg 256 xo w);rw [hf.2.2.2.2.1] at PS;rw [hf.2.2.2.2.2.1] at PL;have e:cfMay c=decide (c.den*htC c (taks c c.most)≤(c.lh-c.rh)*c.seg):=by rw [cfMay,h,Bool.true_and]
 rw [e];have tb:=taks_bd h (n:=c.most) xo xo;have TK:=hid (fun W=>Takes05_ok c h c.most xo xo W);have HT:=hid (fun W=>Height05_ok c (taks c c.most) xo xo xo W);have hb:=htC_bd (c:=c) xo (size:=taks c c.most) xo xo;have m1:=mul_bd (show 0≤c.den by omega) d9 (show (0:Int)≤(htC c (taks c c.most):Nat) by omega) (show ((htC c (taks c c.most):Nat):Int)≤16 by omega);have m2:=mul_bd (show 0≤c.lh-c.rh by omega) (show c.lh-c.rh≤64 by omega) (show 0≤c.seg by omega) d5;generalize taks c c.most=T at *;generalize ((htC c T:Nat):Int)=HH at *;have w1:IntKind.i64.wrap (c.den*HH)=c.den*HH:=IntWalk.i64_in _ xo;have w2:IntKind.i64.wrap ((c.lh-c.rh)*c.seg)=(c.lh-c.rh)*c.seg:=IntWalk.i64_in _ xo;have w3:IntKind.i64.wrap (c.lh-c.rh)=c.lh-c.rh:=IntWalk.i64_in _ xo;have w4:IntKind.i64.wrap (c.rl*c.least)=c.rl*c.least:=IntWalk.i64_in _ xo;have w5:IntKind.i64.wrap (2*c.rh)=2*c.rh:=IntWalk.i64_in _ xo;have w6:IntKind.i64.wrap (8*c.rl)=8*c.rl:=IntWalk.i64_in _ xo;have w7:IntKind.i64.wrap (2*c.den)=2*c.den:=IntWalk.i64_in _ xo;clear hf h e hb tb m1 m2;have g0:decide (c.tag<1)=false:=by simp;omega
 have g1:decide (3<c.tag)=false:=by simp;omega
 have g2:decide (c.most<1)=false:=by simp;omega
 have g3:decide (16384<c.most)=false:=by simp;omega
 have g4:decide (c.den<1)=false:=by simp;omega
 have g5:decide (64<c.den)=false:=by simp;omega
 have g6:decide (c.ll<0)=false:=by simp;omega
 have g7:decide (c.rl≤c.ll)=false:=by simp;omega
 have g8:decide (c.lh≤c.rh)=false:=by simp;omega
 have g9:decide (c.den<c.lh)=false:=by simp;omega
 have g10:decide (c.den<c.rl)=false:=by simp;omega
 have g11:decide (c.rh<0)=false:=by simp;omega
 have g12:decide (2*c.rh<c.den)=false:=by simp;omega
 have g13:decide (c.den<8*c.rl)=false:=by simp;omega
 have g14:decide (c.rl*c.least<2*c.den)=false:=by simp;omega
 obtain ⟨X,hX⟩:∃X,c.den*HH=X:=⟨_,rfl⟩
 obtain ⟨Y,hY⟩:∃Y,(c.lh-c.rh)*c.seg=Y:=⟨_,rfl⟩
 have w1':IntKind.i64.wrap (c.den*HH)=X:=w1.trans hX;have w2':IntKind.i64.wrap ((c.lh-c.rh)*c.seg)=Y:=w2.trans hY;rw [hX,hY];clear hX hY w1 w2;obtain ⟨r,hr⟩:∃r,decide (X≤Y)=r:=⟨_,rfl⟩
 rw [hr];go_enter Tryz.func55,Tryz.ntmps55
 go_upto_region 1 with (fail)
 generalize hwz:w.alloc _=wz;have hh:=ec9 hwz (al9 (b:=w.heap.size) xsi);obtain ⟨c_t0,c_t1,c_t2,c_t3,c_t4,c_t5,c_t6,c_t7,c_t8⟩:=hh;have z_t:=elt hwz (alz (b:=w.heap.size) xsi);have HS:Hid (Below w.heap.size w wz):=by rw [←hwz];exact hid (br.alloc (Nat.le_refl _) _)
 have hz:w.heap.size<wz.heap.size:=by rw [←hwz];simp
 clear hwz;have K0:=hid (fun d os=>kr wz d os ((PS.out _).mono fun _ _ h=>⟨h.1,h.2 ▸ Below.refl _ _⟩));have K1:=hid (fun d os=>kr wz d os ((PL.out _).mono fun _ _ h=>⟨h.1,h.2 ▸ Below.refl _ _⟩));have q0:=cg c_t0;have q1:=cg c_t1;have q2:=cg c_t2;have q3:=cg c_t3;have q4:=cg c_t4;have q5:=cg c_t5;have q6:=cg c_t6;have q7:=cg c_t7;have q8:=cg c_t8;refine wp_text_quiet_below ?_;repeat (go_big_quiet_step (first|with_reducible exact K0.out _ _|with_reducible exact K1.out _ _|exact K0.out _ _|exact K1.out _ _))
 refine wpQuiet_nil ?_;intro _ hw';obtain ⟨⟨dq,osq⟩,hw''⟩:=hw';subst hw'';have hbq:=below_regrown wz dq osq;clear q0 q1 q2 q3 q4 q5 q6 q7 q8 K0 K1;generalize Sort.grow (redrawn wz dq) osq=wx at *;have HB2:=xv hbq HS;have hz_wx:=hbq.size;simp (disch:=omega) only [xcl hbq] at *;replace z_t:=blt hbq z_t;clear hbq;go_upto_region 3 with (fail)
 have q0:=cg c_t0;have q1:=cg c_t1;have q2:=cg c_t2;have q3:=cg c_t3;have q4:=cg c_t4;have q5:=cg c_t5;have q6:=cg c_t6;have q7:=cg c_t7;have q8:=cg c_t8;refine wp_text_quiet_below ?_;repeat (go_big_quiet_step (fail))
 refine wpQuiet_nil ?_;intro _ hw';obtain ⟨⟨dq,osq⟩,hw''⟩:=hw';subst hw'';have hbq:=below_regrown wx dq osq;clear q0 q1 q2 q3 q4 q5 q6 q7 q8;generalize Sort.grow (redrawn wx dq) osq=wx2 at *;have HB3:=xv hbq HB2;have hz_wx2:=hbq.size;simp (disch:=omega) only [xcl hbq] at *;replace z_t:=blt hbq z_t;clear hbq;go_upto_region 5 with (fail)
 have q0:=cg c_t0;have q1:=cg c_t1;have q2:=cg c_t2;have q3:=cg c_t3;have q4:=cg c_t4;have q5:=cg c_t5;have q6:=cg c_t6;have q7:=cg c_t7;have q8:=cg c_t8;refine wp_text_quiet_below ?_;repeat (go_big_quiet_step (fail))
 refine wpQuiet_nil ?_;intro _ hw';obtain ⟨⟨dq,osq⟩,hw''⟩:=hw';subst hw'';have hbq:=below_regrown wx2 dq osq;clear q0 q1 q2 q3 q4 q5 q6 q7 q8;generalize Sort.grow (redrawn wx2 dq) osq=wx3 at *;have HB4:=xv hbq HB3;have hz_wx3:=hbq.size;simp (disch:=omega) only [xcl hbq] at *;replace z_t:=blt hbq z_t;clear hbq;go_upto_region 7 with (fail)
 have K0:=hid (fun d os=>kr wx3 d os (TK.out _));have K1:=hid (fun d os=>kr wx3 d os (HT.out _));have q0:=cg c_t0;have q1:=cg c_t1;have q2:=cg c_t2;have q3:=cg c_t3;have q4:=cg c_t4;have q5:=cg c_t5;have q6:=cg c_t6;have q7:=cg c_t7;have q8:=cg c_t8;refine wp_region_quiet_below xk xk ?_;repeat (go_big_quiet_step (first|with_reducible exact K0.out _ _|with_reducible exact K1.out _ _|exact K0.out _ _|exact K1.out _ _))
 refine wpQuiet_nil ?_;intro _ hw';obtain ⟨⟨dq,osq⟩,hw''⟩:=hw';subst hw'';have hbq:=below_regrown wx3 dq osq;clear q0 q1 q2 q3 q4 q5 q6 q7 q8 K0 K1;generalize Sort.grow (redrawn wx3 dq) osq=wx4 at *;have HB5:=xv hbq HB4;go_wp2
 go_ret
 exact ⟨rfl,HB5.out⟩
theorem May05_ok (c:Cfg) (w:World):
    Calls Tryz.prog 55 #[.agg #[.int .u8 c.tag,.int .i64 c.most,.int .i64 c.seg,.int .i64 c.least,.int .i64 c.den,.int .i64 c.ll,.int .i64 c.rl,.int .i64 c.rh,.int .i64 c.lh]] w (AnsB w (.bool (cfMay c))):=by
 cases h:cfHead c with
 | true=>exact May05_good c h w
 | false=>
  have h2:cfHeadR c=false:=by rw [cfHeadR_eq];exact h
  rw [cfHeadR_not h2];exact May05_bad c h2 w
theorem Is05_ok (c:Cfg) (h:cfHead c=true) (size:Int) (w:World):
    Calls Tryz.prog 134 #[.agg #[.int .u8 c.tag,.int .i64 c.most,.int .i64 c.seg,.int .i64 c.least,.int .i64 c.den,.int .i64 c.ll,.int .i64 c.rl,.int .i64 c.rh,.int .i64 c.lh],.int .i64 size] w (AnsB w (.bool (powB size c.least (taks c c.most)))):=by
 obtain ⟨d0,d1,d2,d3,d4,d5,d6,d7,d8,d9,d10,d11,d12,d14,d15,d16,d17,d18,d19,d20⟩:=cfHead_num h;have tb:=taks_bd h (n:=c.most) xo xo;have TK:=hid (fun W=>Takes05_ok c h c.most xo xo W);have PL:=hid (fun W=>power05_ok size c.least (taks c c.most) xo W);generalize taks c c.most=T at *;generalize powB size c.least T=b at *;clear h;go_enter Tryz.func134,Tryz.ntmps134
 go_upto_region 1 with (fail)
 generalize hwz:w.alloc _=wz;have hh:=ec9 hwz (al9 (b:=w.heap.size) xsi);obtain ⟨c_t0,c_t1,c_t2,c_t3,c_t4,c_t5,c_t6,c_t7,c_t8⟩:=hh;have z_t:=elt hwz (alz (b:=w.heap.size) xsi);have HS:Hid (Below w.heap.size w wz):=by rw [←hwz];exact hid (br.alloc (Nat.le_refl _) _)
 have hz:w.heap.size<wz.heap.size:=by rw [←hwz];simp
 clear hwz;have K0:=hid (fun d os=>kr wz d os (TK.out _));have K1:=hid (fun d os=>kr wz d os ((PL.out _).mono fun _ _ h=>⟨h.1,h.2 ▸ Below.refl _ _⟩));have q0:=cg c_t0;have q1:=cg c_t1;have q2:=cg c_t2;have q3:=cg c_t3;have q4:=cg c_t4;have q5:=cg c_t5;have q6:=cg c_t6;have q7:=cg c_t7;have q8:=cg c_t8;refine wp_region_quiet_below xk xk ?_;repeat (go_big_quiet_step (first|with_reducible exact K0.out _ _|with_reducible exact K1.out _ _|exact K0.out _ _|exact K1.out _ _))
 refine wpQuiet_nil ?_;intro _ hw';obtain ⟨⟨dq,osq⟩,hw''⟩:=hw';subst hw'';have hbq:=below_regrown wz dq osq;clear q0 q1 q2 q3 q4 q5 q6 q7 q8 K0 K1;generalize Sort.grow (redrawn wz dq) osq=wx at *;have HB2:=xv hbq HS;go_wp2
 go_ret
 exact ⟨rfl,HB2.out⟩
theorem Wide05_ok (c:Cfg) (h:Nat) (hh:h≤16) (h0:0≤c.seg) (h1:c.seg≤64) (w:World):
    Calls Tryz.prog 152 #[.agg #[.int .u8 c.tag,.int .i64 c.most,.int .i64 c.seg,.int .i64 c.least,.int .i64 c.den,.int .i64 c.ll,.int .i64 c.rl,.int .i64 c.rh,.int .i64 c.lh],.int .i64 h] w (AnsB w (.int .i64 (wdC c h))):=by
 have hp:2^h≤2^16:=Nat.pow_le_pow_right xo hh;have m:=mul_bd h0 h1 (show (0:Int)≤((2^h:Nat):Int) from Int.natCast_nonneg _) (show ((2^h:Nat):Int)≤65536 by omega);have e:wdC c h=c.seg*((2^h:Nat):Int):=by rw [wdC];push_cast;rfl
 rw [e];have PW:=hid (fun W=>Pow_any h h rfl xo W);generalize ((2^h:Nat):Int)=z at *;have hw:IntKind.i64.wrap (c.seg*z)=c.seg*z:=IntWalk.i64_in _ xo;clear e;go_enter Tryz.func152,Tryz.ntmps152
 go_upto_region 1 with (fail)
 generalize hwz:w.alloc _=wz;have hh:=ec9 hwz (al9 (b:=w.heap.size) xsi);obtain ⟨c_t0,c_t1,c_t2,c_t3,c_t4,c_t5,c_t6,c_t7,c_t8⟩:=hh;have z_t:=elt hwz (alz (b:=w.heap.size) xsi);have HS:Hid (Below w.heap.size w wz):=by rw [←hwz];exact hid (br.alloc (Nat.le_refl _) _)
 have hz:w.heap.size<wz.heap.size:=by rw [←hwz];simp
 clear hwz;have K0:=hid (fun d os=>kr wz d os ((PW.out _).mono fun _ _ h=>⟨h.1,h.2 ▸ Below.refl _ _⟩));have q0:=cg c_t0;have q1:=cg c_t1;have q2:=cg c_t2;have q3:=cg c_t3;have q4:=cg c_t4;have q5:=cg c_t5;have q6:=cg c_t6;have q7:=cg c_t7;have q8:=cg c_t8;refine wp_region_quiet_below xk xk ?_;repeat (go_big_quiet_step (first|with_reducible exact K0.out _ _|exact K0.out _ _))
 refine wpQuiet_nil ?_;intro _ hw';obtain ⟨⟨dq,osq⟩,hw''⟩:=hw';subst hw'';have hbq:=below_regrown wz dq osq;clear q0 q1 q2 q3 q4 q5 q6 q7 q8 K0;generalize Sort.grow (redrawn wz dq) osq=wx at *;have HB2:=xv hbq HS;go_wp2
 go_ret
 exact ⟨rfl,HB2.out⟩
theorem NotMany05_ok (c:Cfg) (size:Int) (a H h:Nat) (k:CapC c size a H) (hh:h≤H) (n:Int) (hn0:0≤n) (hn1:n≤65537) (w:World):
    Calls Tryz.prog 153 #[.agg #[.int .u8 c.tag,.int .i64 c.most,.int .i64 c.seg,.int .i64 c.least,.int .i64 c.den,.int .i64 c.ll,.int .i64 c.rl,.int .i64 c.rh,.int .i64 c.lh],.int .i64 size,.int .i64 h,.int .i64 n] w (AnsB w (.bool (fulB c H h n))):=by
 obtain ⟨d0,d1,d2,d3,d4,d5,d6,d7,d8,d9,d10,d11,d12,d14,d15,d16,d17,d18,d19,d20⟩:=cfHead_num (cfMay_head k.may);have hH2:=k.h14;have hz:=k.all;have hzb:=k.big;have HT:=hid (fun W=>Height05_ok c size xo xo xo W);have WD:=hid (fun W=>Wide05_ok c h xo xo d5 W);obtain ⟨-,wb4,wb6,-⟩:=k.wd hh;rw [k.hgt] at HT;clear hz hzb;unfold fulB;generalize wdC c h=W at *;have m1:=mul_bd hn0 hn1 (show 0≤c.den by omega) d9;have m2:=mul_bd (show 0≤W by omega) wb6 (show 0≤c.rh by omega) (show c.rh≤64 by omega);have m3:=mul_bd hn0 hn1 (show (0:Int)≤(H:Int) by omega) (show (H:Int)≤16 by omega);have m4:=mul_bd m3.1 m3.2 (show 0≤c.den by omega) d9;have m5:=mul_bd (show 0≤c.lh by omega) (show c.lh≤64 by omega) (show (0:Int)≤(H:Int)-h by omega) (show (H:Int)-h≤16 by omega);have m6:=mul_bd (show 0≤c.rh by omega) (show c.rh≤64 by omega) (show (0:Int)≤(h:Int) by omega) (show (h:Int)≤16 by omega);have m7:=mul_bd (show 0≤W by omega) wb6 (show 0≤c.lh*((H:Int)-h)+c.rh*h by omega) (show c.lh*((H:Int)-h)+c.rh*h≤2048 by omega);have w1:IntKind.i64.wrap (n*c.den)=n*c.den:=IntWalk.i64_in _ xo;have w2:IntKind.i64.wrap (W*c.rh)=W*c.rh:=IntWalk.i64_in _ xo;have w3:IntKind.i64.wrap (n*H)=n*H:=IntWalk.i64_in _ xo;have w4:IntKind.i64.wrap (n*H*c.den)=n*H*c.den:=IntWalk.i64_in _ xo;have w5:IntKind.i64.wrap (c.lh*((H:Int)-h))=c.lh*((H:Int)-h):=IntWalk.i64_in _ xo;have w6:IntKind.i64.wrap (c.rh*h)=c.rh*h:=IntWalk.i64_in _ xo;have w7:IntKind.i64.wrap (c.lh*((H:Int)-h)+c.rh*h)=c.lh*((H:Int)-h)+c.rh*h:=IntWalk.i64_in _ xo;have w8:IntKind.i64.wrap (W*(c.lh*((H:Int)-h)+c.rh*h))=W*(c.lh*((H:Int)-h)+c.rh*h):=IntWalk.i64_in _ xo;have w9:IntKind.i64.wrap ((H:Int)-h)=(H:Int)-h:=IntWalk.i64_in _ xo;clear k m1 m2 m3 m4 m5 m6 m7;rcases Nat.eq_zero_or_pos H with e|e
 · subst e;rw [if_pos rfl];obtain rfl:h=0:=xo;clear w3 w4 w5 w6 w7 w8 w9;go_enter Tryz.func153,Tryz.ntmps153
   go_wp2_with fail
   refine (HT.out _).mono ?_;rintro e wz ⟨rfl,hb1⟩;have hz_wz:=hb1.size;try simp only [World.size_alloc,World.size_setCell] at hz_wz
   have hh:=bc9 hb1 (al9 (b:=w.heap.size) xsi);obtain ⟨c_t0,c_t1,c_t2,c_t3,c_t4,c_t5,c_t6,c_t7,c_t8⟩:=hh;have z_t:=blt hb1 (alz (b:=w.heap.size) xsi);have hB1:Below w.heap.size w wz:=xbel;have HS:=hid hB1;clear hb1 hB1;go_upto_region 3 with (fail)
   have K0:=hid (fun d os=>kr wz d os (WD.out _));have q0:=cg c_t0;have q1:=cg c_t1;have q2:=cg c_t2;have q3:=cg c_t3;have q4:=cg c_t4;have q5:=cg c_t5;have q6:=cg c_t6;have q7:=cg c_t7;have q8:=cg c_t8;refine wp_region_quiet_below xk xk ?_;repeat (go_big_quiet_step (first|with_reducible exact K0.out _ _|exact K0.out _ _))
   refine wpQuiet_nil ?_;intro _ hw';obtain ⟨⟨dq,osq⟩,hw''⟩:=hw';subst hw'';have hbq:=below_regrown wz dq osq;clear q0 q1 q2 q3 q4 q5 q6 q7 q8 K0;generalize Sort.grow (redrawn wz dq) osq=wx at *;have HB2:=xv hbq HS;go_wp2
   go_ret
   exact ⟨rfl,HB2.out⟩
 · have hg:((H:Int)==0)=false:=by simp;omega
   rw [if_neg xo];clear w1 w2;go_enter Tryz.func153,Tryz.ntmps153
   go_wp2_with fail
   refine (HT.out _).mono ?_;rintro e wz ⟨rfl,hb1⟩;have hz_wz:=hb1.size;try simp only [World.size_alloc,World.size_setCell] at hz_wz
   have hh:=bc9 hb1 (al9 (b:=w.heap.size) xsi);obtain ⟨c_t0,c_t1,c_t2,c_t3,c_t4,c_t5,c_t6,c_t7,c_t8⟩:=hh;have z_t:=blt hb1 (alz (b:=w.heap.size) xsi);have hB1:Below w.heap.size w wz:=xbel;have HS:=hid hB1;clear hb1 hB1;go_upto_region 4 with (fail)
   have K0:=hid (fun d os=>kr wz d os (WD.out _));have q0:=cg c_t0;have q1:=cg c_t1;have q2:=cg c_t2;have q3:=cg c_t3;have q4:=cg c_t4;have q5:=cg c_t5;have q6:=cg c_t6;have q7:=cg c_t7;have q8:=cg c_t8;refine wp_region_quiet_below xk xk ?_;repeat (go_big_quiet_step (first|with_reducible exact K0.out _ _|exact K0.out _ _))
   refine wpQuiet_nil ?_;intro _ hw';obtain ⟨⟨dq,osq⟩,hw''⟩:=hw';subst hw'';have hbq:=below_regrown wz dq osq;clear q0 q1 q2 q3 q4 q5 q6 q7 q8 K0;generalize Sort.grow (redrawn wz dq) osq=wx at *;have HB2:=xv hbq HS;go_wp2
   go_ret
   exact ⟨rfl,HB2.out⟩
theorem NotFew05_ok (c:Cfg) (size:Int) (a H h:Nat) (k:CapC c size a H) (hh:h≤H) (n:Int) (hn0:0≤n) (hn1:n≤65537) (w:World):
    Calls Tryz.prog 154 #[.agg #[.int .u8 c.tag,.int .i64 c.most,.int .i64 c.seg,.int .i64 c.least,.int .i64 c.den,.int .i64 c.ll,.int .i64 c.rl,.int .i64 c.rh,.int .i64 c.lh],.int .i64 size,.int .i64 h,.int .i64 n] w (AnsB w (.bool (sprB c size H h n))):=by
 obtain ⟨d0,d1,d2,d3,d4,d5,d6,d7,d8,d9,d10,d11,d12,d14,d15,d16,d17,d18,d19,d20⟩:=cfHead_num (cfMay_head k.may);have hH2:=k.h14;have hz:=k.all;have hzb:=k.big;have HT:=hid (fun W=>Height05_ok c size xo xo xo W);have WD:=hid (fun W=>Wide05_ok c h xo xo d5 W);obtain ⟨-,wb4,wb6,-⟩:=k.wd hh;rw [k.hgt] at HT;clear hz hzb;unfold sprB;generalize wdC c h=W at *;have m3:=mul_bd (show 0≤n+1 by omega) (show n+1≤65538 by omega) (show (0:Int)≤(H:Int) by omega) (show (H:Int)≤16 by omega);have m4:=mul_bd m3.1 m3.2 (show 0≤c.den by omega) d9;have m5:=mul_bd (show 0≤c.ll by omega) (show c.ll≤64 by omega) (show (0:Int)≤(H:Int)-h by omega) (show (H:Int)-h≤16 by omega);have m6:=mul_bd (show 0≤c.rl by omega) (show c.rl≤64 by omega) (show (0:Int)≤(h:Int) by omega) (show (h:Int)≤16 by omega);have m7:=mul_bd (show 0≤W by omega) wb6 (show 0≤c.ll*((H:Int)-h)+c.rl*h by omega) (show c.ll*((H:Int)-h)+c.rl*h≤2048 by omega);have w0:IntKind.i64.wrap (n+1)=n+1:=IntWalk.i64_in _ xo;have w3:IntKind.i64.wrap ((n+1)*H)=(n+1)*H:=IntWalk.i64_in _ xo;have w4:IntKind.i64.wrap ((n+1)*H*c.den)=(n+1)*H*c.den:=IntWalk.i64_in _ xo;have w5:IntKind.i64.wrap (c.ll*((H:Int)-h))=c.ll*((H:Int)-h):=IntWalk.i64_in _ xo;have w6:IntKind.i64.wrap (c.rl*h)=c.rl*h:=IntWalk.i64_in _ xo;have w7:IntKind.i64.wrap (c.ll*((H:Int)-h)+c.rl*h)=c.ll*((H:Int)-h)+c.rl*h:=IntWalk.i64_in _ xo;have w8:IntKind.i64.wrap (W*(c.ll*((H:Int)-h)+c.rl*h))=W*(c.ll*((H:Int)-h)+c.rl*h):=IntWalk.i64_in _ xo;have w9:IntKind.i64.wrap ((H:Int)-h)=(H:Int)-h:=IntWalk.i64_in _ xo;clear k m3 m4 m5 m6 m7;by_cases e:size=c.least
 · have e2:(size==c.least)=true:=by simp [e]
   rw [decide_eq_true e,Bool.true_or];clear e WD w0 w3 w4 w5 w6 w7 w8 w9;generalize c.least=le at *;go_enter Tryz.func154,Tryz.ntmps154
   go_wp2_with fail
   refine (HT.out _).mono ?_;rintro e wz ⟨rfl,hb1⟩;have hz_wz:=hb1.size;try simp only [World.size_alloc,World.size_setCell] at hz_wz
   have hh:=bc9 hb1 (al9 (b:=w.heap.size) xsi);obtain ⟨c_t0,c_t1,c_t2,c_t3,c_t4,c_t5,c_t6,c_t7,c_t8⟩:=hh;have z_t:=blt hb1 (alz (b:=w.heap.size) xsi);have hB1:Below w.heap.size w wz:=xbel;have HS:=hid hB1;clear hb1 hB1;go_upto_region 2 with (fail)
   have q0:=cg c_t0;have q1:=cg c_t1;have q2:=cg c_t2;have q3:=cg c_t3;have q4:=cg c_t4;have q5:=cg c_t5;have q6:=cg c_t6;have q7:=cg c_t7;have q8:=cg c_t8;refine wp_region_quiet_below xk xk ?_;repeat (go_big_quiet_step (fail))
   refine wpQuiet_nil ?_;intro _ hw';obtain ⟨⟨dq,osq⟩,hw''⟩:=hw';subst hw'';have hbq:=below_regrown wz dq osq;clear q0 q1 q2 q3 q4 q5 q6 q7 q8;generalize Sort.grow (redrawn wz dq) osq=wx at *;have HB2:=xv hbq HS;go_wp2
   go_ret
   exact ⟨rfl,HB2.out⟩
 · have e2:(size==c.least)=false:=by simp [e]
   rw [decide_eq_false e,Bool.false_or];clear e;generalize c.least=le at *;go_enter Tryz.func154,Tryz.ntmps154
   go_wp2_with fail
   refine (HT.out _).mono ?_;rintro e wz ⟨rfl,hb1⟩;have hz_wz:=hb1.size;try simp only [World.size_alloc,World.size_setCell] at hz_wz
   have hh:=bc9 hb1 (al9 (b:=w.heap.size) xsi);obtain ⟨c_t0,c_t1,c_t2,c_t3,c_t4,c_t5,c_t6,c_t7,c_t8⟩:=hh;have z_t:=blt hb1 (alz (b:=w.heap.size) xsi);have hB1:Below w.heap.size w wz:=xbel;have HS:=hid hB1;clear hb1 hB1;go_upto_region 2 with (fail)
   have K0:=hid (fun d os=>kr wz d os (WD.out _));have q0:=cg c_t0;have q1:=cg c_t1;have q2:=cg c_t2;have q3:=cg c_t3;have q4:=cg c_t4;have q5:=cg c_t5;have q6:=cg c_t6;have q7:=cg c_t7;have q8:=cg c_t8;refine wp_region_quiet_below xk xk ?_;repeat (go_big_quiet_step (first|with_reducible exact K0.out _ _|exact K0.out _ _))
   refine wpQuiet_nil ?_;intro _ hw';obtain ⟨⟨dq,osq⟩,hw''⟩:=hw';subst hw'';have hbq:=below_regrown wz dq osq;clear q0 q1 q2 q3 q4 q5 q6 q7 q8 K0;generalize Sort.grow (redrawn wz dq) osq=wx at *;have HB2:=xv hbq HS;go_wp2
   go_ret
   exact ⟨rfl,HB2.out⟩
theorem Among09_core (w:World) (seg:Int) (wa ka va ca:Option Addr) (wc kc vc cc lw n lv lc:Nat) (laid:Int) (cs:List Int) (A B:Int) (S lo hi:Nat) (hseg:seg=S) (hS:4≤S) (hS2:S≤64) (hA:A=((lo*S:Nat):Int)) (hB:B=((hi*S:Nat):Int)) (h1:lo≤hi) (h2:hi≤lc) (hlc:lc≤65536) (hlen:cs.length=lc) (hcs:CntB cs S) (hcn:IsRow .i64 w ca cs):
    Calls Tryz.prog 151 #[.agg #[.int .i64 seg,.slice wa lw wc,.slice ka n kc,.slice va lv vc,.slice ca lc cc,.int .u64 laid],.int .i64 A,.int .i64 B] w (AnsB w (.int .i64 (sumC cs lo hi))):=by
 have tA:A.tdiv seg=lo:=by
  rw [hA,hseg,Int.tdiv_eq_ediv_of_nonneg xo,←Int.natCast_ediv,Nat.mul_div_cancel _ xo]
 have tB:B.tdiv seg=hi:=by
  rw [hB,hseg,Int.tdiv_eq_ediv_of_nonneg xo,←Int.natCast_ediv,Nat.mul_div_cancel _ xo]
 have hs0:(seg==0)=false:=by simp;omega
 have hs1:¬seg=0:=xo;have wlo:IntKind.i64.wrap (lo:Int)=lo:=IntWalk.i64_in _ xo;have whi:IntKind.i64.wrap (hi:Int)=hi:=IntWalk.i64_in _ xo;have HN:=hid (hcn.below (br.alloc (Nat.le_refl _) (.cells #[.int .i64 seg,.slice wa lw wc,.slice ka n kc,.slice va lv vc,.slice ca lc cc,.int .u64 laid] 29)));have HL:=hid hlen;have HC:=hid hcs;have HSS:=hid (And.intro hS hS2);clear hA hB hseg hcn hlen hcs hS hS2;go_enter Tryz.func151,Tryz.ntmps151
 go_upto_region 1 with (fail)
 generalize hwz:w.alloc _=wz;have hh:=ec6 hwz (al6 (b:=w.heap.size) xsi);obtain ⟨c_t0,c_t1,c_t2,c_t3,c_t4,c_t5⟩:=hh;have z_t:=elt hwz (alz (b:=w.heap.size) xsi);have HS:Hid (Below w.heap.size w wz):=by rw [←hwz];exact hid (br.alloc (Nat.le_refl _) _)
 rw [hwz] at HN;clear hwz;go_wp2
 go_loopg [7,8] (hi-lo) (fun gk sv iv wr=>∃i:Nat,i+gk=hi∧lo≤i∧iv= .int .i64 i∧sv= .int .i64 (sumC cs lo i)∧wz=wr)
 case atStart=>exact ⟨lo,by omega,Nat.le_refl _,rfl,by rw [sumC_nil],rfl⟩
 case round=>
  obtain ⟨i,hi2,hli,rfl,rfl,rfl⟩:=hrel;by_cases hlt:i<hi
  · obtain ⟨b,off,x,rfl,hxx,hc,-⟩:=HN.out.get (i:=i) (by rw [HL.out];omega);have hsb:=sumC_bd2 HC.out lo i;have hx2:=HC.out i;have hsu:=sumC_succ cs (a:=lo) (b:=i) hli;rw [hxx.out] at hsu hx2;have hsn:S*(i-lo)≤64*65536:=Nat.mul_le_mul HSS.out.2 xo;have hS64:=HSS.out.2;generalize sumC cs lo i=s0 at *;have hw1:IntKind.i64.wrap (s0+x)=s0+x:=IntWalk.i64_in _ xo;have HSU:=hid hsu;clear hxx hsu hx2 hsb;go_wp2
    go_roundg (gk-1)
    case measure=>omega
    case rel=>exact ⟨i+1,by omega,by omega,by go_num,by rw [HSU.out],rfl⟩
  · have him:i=hi:=xo;subst him;go_wp2
    go_ret
    exact ⟨rfl,HS.out⟩
theorem Many09_core (w:World) (seg:Int) (wa ka va ca:Option Addr) (wc kc vc cc lw n lv lc:Nat) (laid:Int) (many:Int)
    (AM:Hid (∀W,Below w.heap.size w W→Calls Tryz.prog 151 #[.agg #[.int .i64 seg,.slice wa lw wc,.slice ka n kc,.slice va lv vc,.slice ca lc cc,.int .u64 laid],.int .i64 0,.int .i64 n] W (AnsB W (.int .i64 many)))):
    Calls Tryz.prog 135 #[.agg #[.int .i64 seg,.slice wa lw wc,.slice ka n kc,.slice va lv vc,.slice ca lc cc,.int .u64 laid]] w (AnsB w (.int .i64 many)):=by
 go_enter Tryz.func135,Tryz.ntmps135
 go_wp2_with fail
 refine (AM.out _ (br.alloc (Nat.le_refl _) _)).mono ?_;rintro e w1 ⟨rfl,hb1⟩;have hz_w1:=hb1.size;try simp only [World.size_alloc,World.size_setCell] at hz_w1
 have hh:=bc6 hb1 (al6 (b:=w.heap.size) xsi);obtain ⟨c_t0,c_t1,c_t2,c_t3,c_t4,c_t5⟩:=hh;have z_t:=blt hb1 (alz (b:=w.heap.size) xsi);have hB1:Below w.heap.size w w1:=xbel;go_wp2
 go_ret
 exact ⟨rfl,hB1⟩
theorem dense_core (c:Cfg) (s:SlC) (seg:Int) (wa ka va ca:Option Addr) (wc kc vc cc lw n lv lc:Nat) (laid:Int) (a H:Nat) (k:CapC c n a H) (hlc:s.cs.length=2^H) (hnk:s.ks.length=n) (hcb:CntB s.cs (2^a)) (z:Bool) (hz:denB c s H=z) (w:World)
    (AW:Hid (∀h i,h≤H→i<2^(H-h)→∀W,Below w.heap.size w W→Calls Tryz.prog 151 #[.agg #[.int .i64 seg,.slice wa lw wc,.slice ka n kc,.slice va lv vc,.slice ca lc cc,.int .u64 laid],.int .i64 ((i*(2^a*2^h):Nat):Int),.int .i64 (((i*(2^a*2^h):Nat):Int)+((2^a*2^h:Nat):Int))] W (AnsB W (.int .i64 (sumC s.cs (i*2^h) ((i+1)*2^h)))))):
    Calls Tryz.prog 136 #[.agg #[.int .u8 c.tag,.int .i64 c.most,.int .i64 c.seg,.int .i64 c.least,.int .i64 c.den,.int .i64 c.ll,.int .i64 c.rl,.int .i64 c.rh,.int .i64 c.lh],.agg #[.int .i64 seg,.slice wa lw wc,.slice ka n kc,.slice va lv vc,.slice ca lc cc,.int .u64 laid]] w (AnsB w (.bool z)):=by
 have hH:=k.h14;have hd:=cfHead_num (cfMay_head k.may);have hzb:=k.big;have hza:=k.all;have HT:=hid (fun W=>Height05_ok c n xo xo xo W);rw [k.hgt] at HT;have WD:=hid (fun h (hh:h≤H) W=>Wide05_ok c h xo xo xo W);have FU:=hid (fun h (hh:h≤H) x h0 h1 W=>NotMany05_ok c n a H h k hh x h0 h1 W);have SP:=hid (fun h (hh:h≤H) x h0 h1 W=>NotFew05_ok c n a H h k hh x h0 h1 W);have HZ:=hid hz;have HLC:=hid hlc;have HNK:=hid hnk;have hsum:∀h i,h≤H→0≤sumC s.cs (i*2^h) ((i+1)*2^h)∧sumC s.cs (i*2^h) ((i+1)*2^h)≤65536:=by
  intro h i hh;obtain ⟨e,-,e2,-⟩:=k.wd hh;have:=sumC_bd2 hcb (i*2^h) ((i+1)*2^h);rw [win_wd] at this;omega
 have HSM:=hid hsum;have HWD:=hid (fun h (hh:h≤H)=>k.wd hh);have HNL:=hid (show n≤65536 by omega);have HNW:=hid (fun h (hh:h≤H)=>show n=2^a*2^h*2^(H-h) by
  have:=k.all;rw [Nat.mul_assoc,←Nat.pow_add 2 h (H-h),Nat.add_sub_cancel' hh];omega)
 clear hz hlc hnk hcb hsum k hd hzb hza;go_enter Tryz.func136,Tryz.ntmps136
 go_upto_region 1 with (fail)
 generalize hwx:(w.alloc _).alloc _=wx;have hh:=ec9 hwx (au9 (al9 (b:=w.heap.size) xsi));obtain ⟨c_t0,c_t1,c_t2,c_t3,c_t4,c_t5,c_t6,c_t7,c_t8⟩:=hh;have z_t:=elt hwx (auz (alz (b:=w.heap.size) xsi));have hh:=ec6 hwx (al6 (b:=w.heap.size+1) xsi);obtain ⟨c_s0,c_s1,c_s2,c_s3,c_s4,c_s5⟩:=hh;have z_s:=elt hwx (alz (b:=w.heap.size+1) xsi);have HB3:Hid (Below w.heap.size w wx):=by rw [←hwx];exact hid xbel
 clear hwx;go_wp2
 go_loopg [6] (H+1) (fun gk iv wr=>∃h:Nat,h+gk=H+1∧iv= .int .i64 h∧Hid (∀h',h'<h→rowB c s H h'=true)∧Hid (Below wx.heap.size wx wr))
 case atStart=>exact ⟨0,by omega,rfl,hid fun h' q=>by omega,hid br⟩
 case round=>
  obtain ⟨h,hk,rfl,HD,HB⟩:=hrel;have hbr:=HB.out;have hz_wr:=hbr.size;simp (disch:=omega) only [xcl hbr] at c_t0 c_t1 c_t2 c_t3 c_t4 c_t5 c_t6 c_t7 c_t8 c_s0 c_s1 c_s2 c_s3 c_s4 c_s5;replace z_t:=blt hbr z_t;replace z_s:=blt hbr z_s;have HB4:=xv hbr HB3;have hz4:=HB4.out.size;clear hbr;go_wp2_with fail
  refine (HT.out _).mono ?_;rintro e w4 ⟨rfl,hb4⟩;have hz_w4:=hb4.size;simp (disch:=omega) only [xcl hb4] at c_t0 c_t1 c_t2 c_t3 c_t4 c_t5 c_t6 c_t7 c_t8 c_s0 c_s1 c_s2 c_s3 c_s4 c_s5;replace z_t:=blt hb4 z_t;replace z_s:=blt hb4 z_s;have HC4:=hid (below_via hb4 HB4.out hz4);have HW4:=xv hb4 HB;clear hb4;by_cases hlt:h<H+1
  · generalize gk=go at *;have HK:=hid hk;clear hk;have hgoh:decide ((h:Int)≤H)=true:=by simp;omega
    go_wp2_with fail
    refine (WD.out h xo _).mono ?_;rintro e w5 ⟨rfl,hb5⟩;have hz_w5:=hb5.size;simp (disch:=omega) only [xcl hb5] at c_t0 c_t1 c_t2 c_t3 c_t4 c_t5 c_t6 c_t7 c_t8 c_s0 c_s1 c_s2 c_s3 c_s4 c_s5;replace z_t:=blt hb5 z_t;replace z_s:=blt hb5 z_s;have HB5:=xv hb5 HC4;have HW5:=xv hb5 HW4;have hz5:=hb5.size;obtain ⟨we,we4,we6,-⟩:=HWD.out h xo;have hnw:=HNW.out h xo;rw [we];have AW2:=hid (fun i hi W hb=>AW.out h i xo hi W hb);have SM2:=hid (fun i=>HSM.out h i xo);have hbad:Hid (∀i,i<2^(H-h)→winB c s H h i=false→z=false):=hid fun i hi hb=>by
     rw [←HZ.out,winB_bad hlt (by rw [HLC.out,Nat.pow_div xo xo];exact hi) hb]
    have hgood:Hid ((∀i,i<2^(H-h)→winB c s H h i=true)→rowB c s H h=true):=hid fun hg=>List.all_eq_true.2 fun i hi=>hg i (by have:=List.mem_range.1 hi;rwa [HLC.out,Nat.pow_div xo xo] at this)
    have hm0:=Nat.two_pow_pos (H-h);generalize 2^(H-h)=m at *;have hWb:4≤2^a*2^h∧2^a*2^h≤65536:=xo;generalize hWW:2^a*2^h=Wd at *;have hn6:n≤65536*m:=by rw [hnw];exact Nat.mul_le_mul_right _ hWb.2
    have HNN:=hid hnw;clear hb5 we we4 we6 hnw;go_wp2
    go_loopg [8] m (fun gk2 iv wr2=>∃i:Nat,i+gk2=m∧iv= .int .i64 ((i*Wd:Nat):Int)∧Hid (∀j,j<i→winB c s H h j=true)∧Hid (Below w5.heap.size w5 wr2))
    case atStart=>exact ⟨0,by omega,by simp,hid fun j q=>by omega,hid br⟩
    case round=>
     obtain ⟨i,hk2,rfl,HD2,HBB⟩:=hrel;have hbr2:=HBB.out;have hz_wr:=hbr2.size;simp (disch:=omega) only [xcl hbr2] at c_t0 c_t1 c_t2 c_t3 c_t4 c_t5 c_t6 c_t7 c_t8 c_s0 c_s1 c_s2 c_s3 c_s4 c_s5;replace z_t:=blt hbr2 z_t;replace z_s:=blt hbr2 z_s;have HB6:=xv hbr2 HB5;have hz6:=HB6.out.size;clear hbr2;by_cases hlt2:i<m
     · have AW3:=hid (fun W hb=>AW2.out i hlt2 W hb);have sb:=SM2.out i;obtain ⟨sb1,sb2⟩:=sb;have HWB:Hid (winB c s H h i=(fulB c H h (sumC s.cs (i*2^h) ((i+1)*2^h))&&sprB c n H h (sumC s.cs (i*2^h) ((i+1)*2^h)))):=hid (by rw [←HNK.out];rfl);generalize sumC s.cs (i*2^h) ((i+1)*2^h)=sm at *;have hiw:(i+1)*Wd≤Wd*m:=by rw [Nat.mul_comm Wd];exact Nat.mul_le_mul_right _ hlt2
       rw [Nat.succ_mul] at hiw;have hgo:decide (((i*Wd:Nat):Int)<(n:Int))=true:=by have:=HNN.out;simp;omega
       have hnl:=HNL.out;have hnx:IntKind.i64.wrap (((i*Wd:Nat):Int)+(Wd:Int))=((i*Wd:Nat):Int)+(Wd:Int):=IntWalk.i64_in _ (by have:=HNN.out;omega);have hnx2:((i*Wd:Nat):Int)+(Wd:Int)=(((i+1)*Wd:Nat):Int):=by rw [Nat.succ_mul];push_cast;rfl
       have HNX:=hid hnx2;clear hiw hnx2;generalize ((i*Wd:Nat):Int)=x0 at *;have FU2:=hid (fun W=>FU.out h xo sm sb1 xo W);have SP2:=hid (fun W=>SP.out h xo sm sb1 xo W);have HK2:=hid hk2;clear hk2;go_wp2_with fail
       refine (AW3.out _ HB6.out).mono ?_;rintro e w7 ⟨rfl,hb7⟩;have hz_w7:=hb7.size;simp (disch:=omega) only [xcl hb7] at c_t0 c_t1 c_t2 c_t3 c_t4 c_t5 c_t6 c_t7 c_t8 c_s0 c_s1 c_s2 c_s3 c_s4 c_s5;replace z_t:=blt hb7 z_t;replace z_s:=blt hb7 z_s;have HB7:=hid (below_via hb7 HB6.out hz6);have HC7:=xv hb7 HBB;clear hb7;go_wp2_with fail
       refine (FU2.out _).mono ?_;rintro e w8 ⟨rfl,hb8⟩;have hz_w8:=hb8.size;simp (disch:=omega) only [xcl hb8] at c_t0 c_t1 c_t2 c_t3 c_t4 c_t5 c_t6 c_t7 c_t8 c_s0 c_s1 c_s2 c_s3 c_s4 c_s5;replace z_t:=blt hb8 z_t;replace z_s:=blt hb8 z_s;have HB8:=xv hb8 HB7;have HC8:=xv hb8 HC7;clear hb8;cases hf:fulB c H h sm with
       | false=>
        have hz8:=hbad.out i hlt2 (by rw [HWB.out,hf];rfl);subst hz8;go_wp2
        go_ret
        exact ⟨rfl,HB8.out⟩
       | true=>
        go_wp2_with fail
        refine (SP2.out _).mono ?_;rintro e w9 ⟨rfl,hb9⟩;have hz_w9:=hb9.size;simp (disch:=omega) only [xcl hb9] at c_t0 c_t1 c_t2 c_t3 c_t4 c_t5 c_t6 c_t7 c_t8 c_s0 c_s1 c_s2 c_s3 c_s4 c_s5;replace z_t:=blt hb9 z_t;replace z_s:=blt hb9 z_s;have HB9:=xv hb9 HB8;have HC9:=xv hb9 HC8;clear hb9;cases hg:sprB c n H h sm with
        | false=>
         have hz8:=hbad.out i hlt2 (by rw [HWB.out,hf,hg];rfl);subst hz8;go_wp2
         go_ret
         exact ⟨rfl,HB9.out⟩
        | true=>
         go_wp2
         go_roundg (gk-1)
         case measure=>have:=HK2.out;omega
         case rel=>
          refine ⟨i+1,by have:=HK2.out;omega,by rw [HNX.out],hid fun j hj=> ?_,HC9⟩;by_cases hji:j=i
          · rw [hji,HWB.out,hf,hg];rfl
          · exact HD2.out j xo
     · have HK2:=hid hk2;have him:i=m:=xo;have hgo:decide (((i*Wd:Nat):Int)<(n:Int))=false:=by have:=HNN.out;rw [him,Nat.mul_comm];simp;omega
       clear hk2;generalize ((i*Wd:Nat):Int)=x0 at *;go_wp2
       go_roundg (go-1)
       case measure=>have:=HK.out;omega
       case rel=>
        refine ⟨h+1,by have:=HK.out;omega,by go_num,hid fun h' hh'=> ?_,hid (below_via HBB.out HW5.out HW5.out.size)⟩;by_cases hji:h'=h
        · rw [hji];exact hgood.out fun j hj=>HD2.out j (by have:=HK2.out;omega)
        · exact HD.out h' xo
  · have hz0:z=true:=by
      rw [←HZ.out];exact List.all_eq_true.2 fun h' hh'=>HD.out h' (by have:=List.mem_range.1 hh';omega)
    subst hz0;have hgoh:decide ((h:Int)≤H)=false:=by simp;omega
    clear hk;go_wp2
    go_ret
    exact ⟨rfl,HC4.out⟩
theorem May09_m0 (c:Cfg) (hc:cfMay c=true) (seg:Int) (wa ka va ca:Option Addr) (wc kc vc cc lw n lv lc:Nat) (laid:Int) (w:World) (SM:Hid (∀W,Below w.heap.size w W→Calls Tryz.prog 103 #[.agg #[.int .i64 seg,.slice wa lw wc,.slice ka n kc,.slice va lv vc,.slice ca lc cc,.int .u64 laid]] W (AnsB W (.bool false)))):
    Calls Tryz.prog 102 #[.agg #[.int .u8 c.tag,.int .i64 c.most,.int .i64 c.seg,.int .i64 c.least,.int .i64 c.den,.int .i64 c.ll,.int .i64 c.rl,.int .i64 c.rh,.int .i64 c.lh],.agg #[.int .i64 seg,.slice wa lw wc,.slice ka n kc,.slice va lv vc,.slice ca lc cc,.int .u64 laid]] w (AnsB w (.bool false)):=by
 go_enter Tryz.func102,Tryz.ntmps102
 go_upto_region 1 with (fail)
 generalize hwx:(w.alloc _).alloc _=wx;have hh:=ec9 hwx (au9 (al9 (b:=w.heap.size) xsi));obtain ⟨c_t0,c_t1,c_t2,c_t3,c_t4,c_t5,c_t6,c_t7,c_t8⟩:=hh;have z_t:=elt hwx (auz (alz (b:=w.heap.size) xsi));have hh:=ec6 hwx (al6 (b:=w.heap.size+1) xsi);obtain ⟨c_s0,c_s1,c_s2,c_s3,c_s4,c_s5⟩:=hh;have z_s:=elt hwx (alz (b:=w.heap.size+1) xsi);have HB2:Hid (Below w.heap.size w wx):=by rw [←hwx];exact hid xbel
 clear hwx;have K0:=hid (fun d os=>kr wx d os (SM.out _ (below_via (below_regrown _ _ _) HB2.out HB2.out.size)));have q0:=cg c_t0;have q1:=cg c_t1;have q2:=cg c_t2;have q3:=cg c_t3;have q4:=cg c_t4;have q5:=cg c_t5;have q6:=cg c_t6;have q7:=cg c_t7;have q8:=cg c_t8;have q9:=cg c_s0;have q10:=cg c_s1;have q11:=cg c_s2;have q12:=cg c_s3;have q13:=cg c_s4;have q14:=cg c_s5;refine wp_region_quiet_below xk xk ?_;repeat (go_big_quiet_step (first|with_reducible exact K0.out _ _|exact K0.out _ _))
 refine wpQuiet_nil ?_;intro _ hw';obtain ⟨⟨dq,osq⟩,hw''⟩:=hw';subst hw'';have hbq:=below_regrown wx dq osq;clear q0 q1 q2 q3 q4 q5 q6 q7 q8 q9 q10 q11 q12 q13 q14 K0;generalize Sort.grow (redrawn wx dq) osq=wy at *;have HB3:=xv hbq HB2;go_wp2
 go_ret
 exact ⟨rfl,HB3.out⟩
theorem May09_m1 (c:Cfg) (hc:cfMay c=true) (seg:Int) (wa ka va ca:Option Addr) (wc kc vc cc lw n lv lc:Nat) (laid:Int) (w:World) (hs:seg≠c.seg) (SM:Hid (∀W,Below w.heap.size w W→Calls Tryz.prog 103 #[.agg #[.int .i64 seg,.slice wa lw wc,.slice ka n kc,.slice va lv vc,.slice ca lc cc,.int .u64 laid]] W (AnsB W (.bool true)))):
    Calls Tryz.prog 102 #[.agg #[.int .u8 c.tag,.int .i64 c.most,.int .i64 c.seg,.int .i64 c.least,.int .i64 c.den,.int .i64 c.ll,.int .i64 c.rl,.int .i64 c.rh,.int .i64 c.lh],.agg #[.int .i64 seg,.slice wa lw wc,.slice ka n kc,.slice va lv vc,.slice ca lc cc,.int .u64 laid]] w (AnsB w (.bool false)):=by
 have gs:(seg==c.seg)=false:=by simpa using hs
 clear hs;go_enter Tryz.func102,Tryz.ntmps102
 go_upto_region 1 with (fail)
 generalize hwx:(w.alloc _).alloc _=wx;have hh:=ec9 hwx (au9 (al9 (b:=w.heap.size) xsi));obtain ⟨c_t0,c_t1,c_t2,c_t3,c_t4,c_t5,c_t6,c_t7,c_t8⟩:=hh;have z_t:=elt hwx (auz (alz (b:=w.heap.size) xsi));have hh:=ec6 hwx (al6 (b:=w.heap.size+1) xsi);obtain ⟨c_s0,c_s1,c_s2,c_s3,c_s4,c_s5⟩:=hh;have z_s:=elt hwx (alz (b:=w.heap.size+1) xsi);have HB2:Hid (Below w.heap.size w wx):=by rw [←hwx];exact hid xbel
 clear hwx;have K0:=hid (fun d os=>kr wx d os (SM.out _ (below_via (below_regrown _ _ _) HB2.out HB2.out.size)));have q0:=cg c_t0;have q1:=cg c_t1;have q2:=cg c_t2;have q3:=cg c_t3;have q4:=cg c_t4;have q5:=cg c_t5;have q6:=cg c_t6;have q7:=cg c_t7;have q8:=cg c_t8;have q9:=cg c_s0;have q10:=cg c_s1;have q11:=cg c_s2;have q12:=cg c_s3;have q13:=cg c_s4;have q14:=cg c_s5;refine wp_region_quiet_below xk xk ?_;repeat (go_big_quiet_step (first|with_reducible exact K0.out _ _|exact K0.out _ _))
 refine wpQuiet_nil ?_;intro _ hw';obtain ⟨⟨dq,osq⟩,hw''⟩:=hw';subst hw'';have hbq:=below_regrown wx dq osq;clear q0 q1 q2 q3 q4 q5 q6 q7 q8 q9 q10 q11 q12 q13 q14 K0;generalize Sort.grow (redrawn wx dq) osq=wy at *;have HB3:=xv hbq HB2;go_wp2
 go_ret
 exact ⟨rfl,HB3.out⟩
theorem May09_m2 (c:Cfg) (hc:cfMay c=true) (seg:Int) (wa ka va ca:Option Addr) (wc kc vc cc lw n lv lc:Nat) (laid:Int) (w:World) (hs:seg=c.seg) (hp:powB n c.least (taks c c.most)=false) (SM:Hid (∀W,Below w.heap.size w W→Calls Tryz.prog 103 #[.agg #[.int .i64 seg,.slice wa lw wc,.slice ka n kc,.slice va lv vc,.slice ca lc cc,.int .u64 laid]] W (AnsB W (.bool true)))):
    Calls Tryz.prog 102 #[.agg #[.int .u8 c.tag,.int .i64 c.most,.int .i64 c.seg,.int .i64 c.least,.int .i64 c.den,.int .i64 c.ll,.int .i64 c.rl,.int .i64 c.rh,.int .i64 c.lh],.agg #[.int .i64 seg,.slice wa lw wc,.slice ka n kc,.slice va lv vc,.slice ca lc cc,.int .u64 laid]] w (AnsB w (.bool false)):=by
 have gs:(seg==c.seg)=true:=by simpa using hs
 clear hs;have IS:=hid (fun W=>Is05_ok c (cfMay_head hc) n W);rw [hp] at IS;go_enter Tryz.func102,Tryz.ntmps102
 go_upto_region 1 with (fail)
 generalize hwx:(w.alloc _).alloc _=wx;have hh:=ec9 hwx (au9 (al9 (b:=w.heap.size) xsi));obtain ⟨c_t0,c_t1,c_t2,c_t3,c_t4,c_t5,c_t6,c_t7,c_t8⟩:=hh;have z_t:=elt hwx (auz (alz (b:=w.heap.size) xsi));have hh:=ec6 hwx (al6 (b:=w.heap.size+1) xsi);obtain ⟨c_s0,c_s1,c_s2,c_s3,c_s4,c_s5⟩:=hh;have z_s:=elt hwx (alz (b:=w.heap.size+1) xsi);have HB2:Hid (Below w.heap.size w wx):=by rw [←hwx];exact hid xbel
 clear hwx;have K0:=hid (fun d os=>kr wx d os (SM.out _ (below_via (below_regrown _ _ _) HB2.out HB2.out.size)));have K1:=hid (fun d os=>kr wx d os (IS.out _));have q0:=cg c_t0;have q1:=cg c_t1;have q2:=cg c_t2;have q3:=cg c_t3;have q4:=cg c_t4;have q5:=cg c_t5;have q6:=cg c_t6;have q7:=cg c_t7;have q8:=cg c_t8;have q9:=cg c_s0;have q10:=cg c_s1;have q11:=cg c_s2;have q12:=cg c_s3;have q13:=cg c_s4;have q14:=cg c_s5;refine wp_region_quiet_below xk xk ?_;repeat (go_big_quiet_step (first|with_reducible exact K0.out _ _|with_reducible exact K1.out _ _|exact K0.out _ _|exact K1.out _ _))
 refine wpQuiet_nil ?_;intro _ hw';obtain ⟨⟨dq,osq⟩,hw''⟩:=hw';subst hw'';have hbq:=below_regrown wx dq osq;clear q0 q1 q2 q3 q4 q5 q6 q7 q8 q9 q10 q11 q12 q13 q14 K0 K1;generalize Sort.grow (redrawn wx dq) osq=wy at *;have HB3:=xv hbq HB2;go_wp2
 go_ret
 exact ⟨rfl,HB3.out⟩
theorem May09_m3 (c:Cfg) (hc:cfMay c=true) (seg:Int) (wa ka va ca:Option Addr) (wc kc vc cc lw n lv lc:Nat) (laid:Int) (w:World) (hs:seg=c.seg) (hp:powB n c.least (taks c c.most)=true) (many:Int) (hm:c.most<many) (SM:Hid (∀W,Below w.heap.size w W→Calls Tryz.prog 103 #[.agg #[.int .i64 seg,.slice wa lw wc,.slice ka n kc,.slice va lv vc,.slice ca lc cc,.int .u64 laid]] W (AnsB W (.bool true)))) (MN:Hid (∀W,Below w.heap.size w W→Calls Tryz.prog 135 #[.agg #[.int .i64 seg,.slice wa lw wc,.slice ka n kc,.slice va lv vc,.slice ca lc cc,.int .u64 laid]] W (AnsB W (.int .i64 many)))):
    Calls Tryz.prog 102 #[.agg #[.int .u8 c.tag,.int .i64 c.most,.int .i64 c.seg,.int .i64 c.least,.int .i64 c.den,.int .i64 c.ll,.int .i64 c.rl,.int .i64 c.rh,.int .i64 c.lh],.agg #[.int .i64 seg,.slice wa lw wc,.slice ka n kc,.slice va lv vc,.slice ca lc cc,.int .u64 laid]] w (AnsB w (.bool false)):=by
 have gs:(seg==c.seg)=true:=by simpa using hs
 clear hs;have IS:=hid (fun W=>Is05_ok c (cfMay_head hc) n W);rw [hp] at IS;have gm:decide (many≤c.most)=false:=by simp;omega
 go_enter Tryz.func102,Tryz.ntmps102
 go_upto_region 1 with (fail)
 generalize hwx:(w.alloc _).alloc _=wx;have hh:=ec9 hwx (au9 (al9 (b:=w.heap.size) xsi));obtain ⟨c_t0,c_t1,c_t2,c_t3,c_t4,c_t5,c_t6,c_t7,c_t8⟩:=hh;have z_t:=elt hwx (auz (alz (b:=w.heap.size) xsi));have hh:=ec6 hwx (al6 (b:=w.heap.size+1) xsi);obtain ⟨c_s0,c_s1,c_s2,c_s3,c_s4,c_s5⟩:=hh;have z_s:=elt hwx (alz (b:=w.heap.size+1) xsi);have HB2:Hid (Below w.heap.size w wx):=by rw [←hwx];exact hid xbel
 clear hwx;have K0:=hid (fun d os=>kr wx d os (SM.out _ (below_via (below_regrown _ _ _) HB2.out HB2.out.size)));have K1:=hid (fun d os=>kr wx d os (IS.out _));have K2:=hid (fun d os=>kr wx d os (MN.out _ (below_via (below_regrown _ _ _) HB2.out HB2.out.size)));have q0:=cg c_t0;have q1:=cg c_t1;have q2:=cg c_t2;have q3:=cg c_t3;have q4:=cg c_t4;have q5:=cg c_t5;have q6:=cg c_t6;have q7:=cg c_t7;have q8:=cg c_t8;have q9:=cg c_s0;have q10:=cg c_s1;have q11:=cg c_s2;have q12:=cg c_s3;have q13:=cg c_s4;have q14:=cg c_s5;refine wp_region_quiet_below xk xk ?_;repeat (go_big_quiet_step (first|with_reducible exact K0.out _ _|with_reducible exact K1.out _ _|with_reducible exact K2.out _ _|exact K0.out _ _|exact K1.out _ _|exact K2.out _ _))
 refine wpQuiet_nil ?_;intro _ hw';obtain ⟨⟨dq,osq⟩,hw''⟩:=hw';subst hw'';have hbq:=below_regrown wx dq osq;clear q0 q1 q2 q3 q4 q5 q6 q7 q8 q9 q10 q11 q12 q13 q14 K0 K1 K2;generalize Sort.grow (redrawn wx dq) osq=wy at *;have HB3:=xv hbq HB2;go_wp2
 go_ret
 exact ⟨rfl,HB3.out⟩
theorem May09_m4 (c:Cfg) (hc:cfMay c=true) (seg:Int) (wa ka va ca:Option Addr) (wc kc vc cc lw n lv lc:Nat) (laid:Int) (w:World) (hs:seg=c.seg) (hp:powB n c.least (taks c c.most)=true) (many:Int) (hm:many≤c.most) (z:Bool) (SM:Hid (∀W,Below w.heap.size w W→Calls Tryz.prog 103 #[.agg #[.int .i64 seg,.slice wa lw wc,.slice ka n kc,.slice va lv vc,.slice ca lc cc,.int .u64 laid]] W (AnsB W (.bool true)))) (MN:Hid (∀W,Below w.heap.size w W→Calls Tryz.prog 135 #[.agg #[.int .i64 seg,.slice wa lw wc,.slice ka n kc,.slice va lv vc,.slice ca lc cc,.int .u64 laid]] W (AnsB W (.int .i64 many)))) (DN:Hid (∀W,Below w.heap.size w W→Calls Tryz.prog 136 #[.agg #[.int .u8 c.tag,.int .i64 c.most,.int .i64 c.seg,.int .i64 c.least,.int .i64 c.den,.int .i64 c.ll,.int .i64 c.rl,.int .i64 c.rh,.int .i64 c.lh],.agg #[.int .i64 seg,.slice wa lw wc,.slice ka n kc,.slice va lv vc,.slice ca lc cc,.int .u64 laid]] W (AnsB W (.bool z)))):
    Calls Tryz.prog 102 #[.agg #[.int .u8 c.tag,.int .i64 c.most,.int .i64 c.seg,.int .i64 c.least,.int .i64 c.den,.int .i64 c.ll,.int .i64 c.rl,.int .i64 c.rh,.int .i64 c.lh],.agg #[.int .i64 seg,.slice wa lw wc,.slice ka n kc,.slice va lv vc,.slice ca lc cc,.int .u64 laid]] w (AnsB w (.bool z)):=by
 have gs:(seg==c.seg)=true:=by simpa using hs
 clear hs;have IS:=hid (fun W=>Is05_ok c (cfMay_head hc) n W);rw [hp] at IS;have gm:decide (many≤c.most)=true:=by simp;omega
 go_enter Tryz.func102,Tryz.ntmps102
 go_upto_region 1 with (fail)
 generalize hwx:(w.alloc _).alloc _=wx;have hh:=ec9 hwx (au9 (al9 (b:=w.heap.size) xsi));obtain ⟨c_t0,c_t1,c_t2,c_t3,c_t4,c_t5,c_t6,c_t7,c_t8⟩:=hh;have z_t:=elt hwx (auz (alz (b:=w.heap.size) xsi));have hh:=ec6 hwx (al6 (b:=w.heap.size+1) xsi);obtain ⟨c_s0,c_s1,c_s2,c_s3,c_s4,c_s5⟩:=hh;have z_s:=elt hwx (alz (b:=w.heap.size+1) xsi);have HB2:Hid (Below w.heap.size w wx):=by rw [←hwx];exact hid xbel
 clear hwx;have K0:=hid (fun d os=>kr wx d os (SM.out _ (below_via (below_regrown _ _ _) HB2.out HB2.out.size)));have K1:=hid (fun d os=>kr wx d os (IS.out _));have K2:=hid (fun d os=>kr wx d os (MN.out _ (below_via (below_regrown _ _ _) HB2.out HB2.out.size)));have K3:=hid (fun d os=>kr wx d os (DN.out _ (below_via (below_regrown _ _ _) HB2.out HB2.out.size)));have q0:=cg c_t0;have q1:=cg c_t1;have q2:=cg c_t2;have q3:=cg c_t3;have q4:=cg c_t4;have q5:=cg c_t5;have q6:=cg c_t6;have q7:=cg c_t7;have q8:=cg c_t8;have q9:=cg c_s0;have q10:=cg c_s1;have q11:=cg c_s2;have q12:=cg c_s3;have q13:=cg c_s4;have q14:=cg c_s5;refine wp_region_quiet_below xk xk ?_;repeat (go_big_quiet_step (first|with_reducible exact K0.out _ _|with_reducible exact K1.out _ _|with_reducible exact K2.out _ _|with_reducible exact K3.out _ _|exact K0.out _ _|exact K1.out _ _|exact K2.out _ _|exact K3.out _ _))
 refine wpQuiet_nil ?_;intro _ hw';obtain ⟨⟨dq,osq⟩,hw''⟩:=hw';subst hw'';have hbq:=below_regrown wx dq osq;clear q0 q1 q2 q3 q4 q5 q6 q7 q8 q9 q10 q11 q12 q13 q14 K0 K1 K2 K3;generalize Sort.grow (redrawn wx dq) osq=wy at *;have HB3:=xv hbq HB2;go_wp2
 go_ret
 exact ⟨rfl,HB3.out⟩
end
end Go.Proofs.YtbedhbpgnfffmaaGreat

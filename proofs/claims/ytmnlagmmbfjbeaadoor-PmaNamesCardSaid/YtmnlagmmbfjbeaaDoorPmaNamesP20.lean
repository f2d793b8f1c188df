/- Merged: Spr, LoadW, GapLd, PmSz, PmGet, PmJn, LoadM, PackB, PmHp. -/
import Derived.Test.YtmnlagmmbfjbeaaDoorPmaNamesP19
import Derived.Test.YtmnlagmmbfjbeaaDoorPmaNamesP8
import Derived.Test.YtmnlagmmbfjbeaaDoorPmaNamesP10
import Derived.Test.YtmnlagmmbfjbeaaDoorPmaNamesP15
import Derived.Test.YtmnlagmmbfjbeaaDoorPmaNamesP3
import Derived.Deep.CutRange
import Derived.Test.YtmnlagmmbfjbeaaDoorPmaNamesP13
import Derived.Test.YtmnlagmmbfjbeaaDoorPmaNamesP18
import Derived.Test.YtmnlagmmbfjbeaaDoorPmaNamesP11
import Derived.Test.YtmnlagmmbfjbeaaDoorPmaNamesP14
import Derived.Test.YtmnlagmmbfjbeaaDoorPmaNamesP2
import Derived.Test.YtmnlagmmbfjbeaaDoorPmaNamesP1
import Derived.Lib.QuietBelow
import Derived.BigQuiet
import Derived.Deep.WholeRow
namespace Go.Proofs.YtmnlagmmbfjbeaaDoor
set_option maxRecDepth 100000
set_option maxHeartbeats 40000000
set_option linter.unusedVariables false
set_option linter.unusedSimpArgs false
section
open Go.RowKit
theorem gd_may {c:SlC} {S lw n lc:Nat} (h:SlGd c S lw n lc) (hS:pwB (S:Int)=true) (hM:pwB (lc:Int)=true) (hlw:lw=(n+63)/64):slMay c=true:=by
 have hlc1:1≤lc:=by
  rcases Nat.eq_zero_or_pos lc with e|e
  · rw [e] at hM;cases hM
  · exact e
 have h4:=h.s4;have hn:(n:Int)/(S:Int)=lc:=by
  rw [h.cn,Int.natCast_mul,Int.mul_ediv_cancel_left _ xo]
 have hn2:(n:Int)%(S:Int)=0:=by
  rw [h.cn,Int.natCast_mul,Int.mul_emod_right]
 have hle:S*1≤S*lc:=Nat.mul_le_mul_left _ hlc1;simp only [slMay,slHead,fitB,wMayB,clrB,cntB,Bool.and_eq_true,decide_eq_true_eq,List.all_eq_true];rw [h.elk,h.elv,h.elw,h.elc,h.seg,hn,hn2];refine ⟨⟨⟨⟨⟨⟨⟨⟨⟨⟨⟨by have:=h.s4;omega,by have:=h.s64;omega⟩,hS⟩,by have:=h.cn;omega⟩,by have:=h.nm;omega⟩,rfl⟩,hM⟩,rfl⟩,hlw,?_⟩,rfl⟩,?_⟩,?_⟩
 · intro i hi;have:=(List.mem_range'_1.1 hi).1;rw [h.hi i this];rfl
 · intro i hi;cases hb:bitW c.ws i with
   | true=>rfl
   | false=>
    have:=h.clr i hb;simp only [Bool.false_or,Bool.and_eq_true,beq_iff_eq];exact this
 · intro k hk;have:=h.cnt k (List.mem_range.1 hk);rw [Int.toNat_natCast,this,beq_self_eq_true]
theorem gd_fit {c:SlC} {S lw n lc:Nat} (h:SlGd c S lw n lc) (hm:slMay c=true):fitB (S:Int) n=true:=by
 simp only [slMay,slHead,Bool.and_eq_true] at hm;have:=hm.1.1.1.1.1;rwa [h.elk,h.seg] at this
theorem over_ok {c:SlC} {S lw n lc:Nat} (h:SlGd c S lw n lc) (hm:slMay c=true) (sa:SlA) (lo hi:Nat) (hlo:lo≤hi) (hhi:hi≤n) (L:List (Int×Int)) (hL:L.length≤hi-lo) (la:Option Addr) (pl:Nat) (w:World) (hin:SlIn w c sa) (hla:IsRow .i64 w la (prI L)):
    Calls Tryd.prog 67 #[slV c sa,.int .i64 lo,.int .i64 hi,.slice la L.length pl] w (FreshSl2 w (spC c lo hi L) (.int .i64 0)):=by
 have n1:=h.n1;have nm:=h.nm;have s4:=h.s4;have wn:=h.wn;have hlc:0<lc:=by
  rcases Nat.eq_zero_or_pos lc with e|e
  · have:=h.cn;rw [e] at this;omega
  · exact e
 have hlc2:lc≤65536:=by
  have h9:1*lc≤S*lc:=Nat.mul_le_mul_right _ xo;have:=h.cn;omega
 have hlw2:lw≤65536:=by
  have:=slHead_facts (slMay_head hm);obtain ⟨S',M,-,-,-,b3,-,-,-,b7,-,b9,-⟩:=this;rw [h.elw] at b9;omega
 refine over_core w c.seg sa.wa sa.ka sa.va sa.ca sa.wc sa.kc sa.vc sa.cc c.ws.length c.ks.length c.vs.length c.cs.length c.laid lo hi L.length (ints (plR L.length lo hi)) la pl (spC c lo hi L) (by rw [ints_length,plR_length]) (hid fun W hb=> ?_) (hid fun W hb=>Places_ok L.length lo hi hlo xo hL W) (hid fun W pa pc hb hp=> ?_)
 · have:=slCheck_ok c sa (by rw [h.elw];omega) (by rw [h.elk];omega) W (hin.below hb);rwa [show slE c=0 by simp [slE,hm]] at this
 · have hin2:=hin.below hb;have e1:=h.elw;have e2:=h.elk;have e3:=h.elv;have e4:=h.elc;rw [e1,e2,e3,e4];refine slFill_core W c.seg sa.wa sa.ka sa.va sa.ca sa.wc sa.kc sa.vc sa.cc lw n lc c.laid c lo hi L.length S (plR L.length lo hi) L pa la pc pl rfl rfl e1 e2 e3 e4 xo xo hlc nm hlw2 hlc2 h.seg s4 hlo hhi wn h.cn (plR_length _ _ _) rfl xo (fun k hk=>plR_pv hk hL) (fun j hj=>(h.tks j xo).ok) (fun k hk=>(SlGd.lys (h.tks (hi-lo) xo) (fun k=>plR_ltn hL hhi xo k) L k).ok) (hid hp) (hid (hla.below hb)) (hid fun W' hb'=> ?_) (hid fun W' hb'=> ?_)
   · have:=part_ok c sa (by rw [e1];omega) (by rw [e2];omega) lo hi W' (hin2.below hb');rw [show partE c lo hi=0 by unfold partE;rw [if_pos hm,if_pos (by rw [e2];omega)]] at this;simpa only [slV,e1,e2,e3,e4] using this
   · have:=slTwin_ok c sa W' (hin2.below hb') (by rw [e1];omega) (by rw [e2];omega) (by rw [e3];omega) (by rw [e4];omega);simpa only [slV,e1,e2,e3,e4] using this
def emptyL (S M:Nat) (laid:Int):SlC:=⟨S,List.replicate ((S*M+63)/64) 0,List.replicate (S*M) 0,List.replicate (S*M) 0,List.replicate M 0,laid⟩
theorem emptyL_gd {S M:Nat} (h4:4≤S) (h6:S≤64) (hM:1≤M) (hm:S*M≤65536) (laid:Int):SlGd (emptyL S M laid) S ((S*M+63)/64) (S*M) M:=by
 have z:=zero_gd h4 h6 hM hm (lw:=(S*M+63)/64) rfl;exact ⟨z.seg,z.elw,z.elk,z.elv,z.elc,z.s4,z.s64,z.cn,z.wn,z.n1,z.nm,z.u,z.cnt,z.hi,z.clr⟩
def wideC (S M:Nat) (laid:Int) (L:List (Int×Int)):SlC:=spC (emptyL S M laid) 0 (S*M) L
theorem new_nums {S M:Nat} (h4:4≤S) (hm:S*M≤65536):(((S*M:Nat):Int)+63).tdiv 64=((S*M+63)/64:Nat)∧((S*M:Nat):Int).tdiv S=M∧(S*M+63)/64≤2000∧M≤65536:=by
 have h9:1*M≤S*M:=Nat.mul_le_mul_right _ xo;refine ⟨?_,?_,by omega,by omega⟩
 · rw [Int.tdiv_eq_ediv_of_nonneg xo];omega
 · rw [Int.tdiv_eq_ediv_of_nonneg xo,Int.natCast_mul,Int.mul_ediv_cancel_left _ xo]
theorem Into_ok {c:SlC} {S lw n lc:Nat} (h:SlGd c S lw n lc) (hm:slMay c=true) (sa:SlA) (M:Nat) (hM:1≤M) (hS:pwB (S:Int)=true) (hMp:pwB (M:Int)=true) (hsm:S*M≤65536) (L:List (Int×Int)) (hL:L.length≤S*M) (la:Option Addr) (pl:Nat) (w:World) (hin:SlIn w c sa) (hla:IsRow .i64 w la (prI L)):
    Calls Tryd.prog 43 #[slV c sa,.int .i64 ((S*M:Nat):Int),.slice la L.length pl] w (FreshSl2 w (wideC S M c.laid L) (.int .i64 0)):=by
 obtain ⟨q1,q2,q3,q4⟩:=new_nums (M:=M) h.s4 hsm;have ge:=emptyL_gd h.s4 h.s64 hM hsm c.laid;have gm:=gd_may ge hS hMp rfl;refine Into_core w c.seg sa.wa sa.ka sa.va sa.ca sa.wc sa.kc sa.vc sa.cc c.ws.length c.ks.length c.vs.length c.cs.length c.laid (S*M) L.length la pl (zeroSl S (S*M) ((S*M+63)/64) M) (wideC S M c.laid L) ge.u (hid fun W hb=> ?_) (hid fun W hb=> ?_) (hid fun W sa' hb hi z1 z2 z3 z4=> ?_)
 · have:=slCheck_ok c sa (by rw [h.elw];have:=slHead_facts (slMay_head hm);obtain ⟨S',M',-,-,-,b3,-,-,-,b7,-,b9,-⟩:=this;rw [h.elw] at b9;omega) (by rw [h.elk];have:=h.nm;omega) W (hin.below hb);rwa [show slE c=0 by simp [slE,hm]] at this
 · rw [h.seg];refine slNew_core W S (S*M) ((S*M+63)/64) M h.s4 hsm h.s64 q1 q2 xo q4 (hid fun W'=> ?_);have:=fits_ok (S:Int) ((S*M:Nat):Int) W';rwa [gd_fit ge gm] at this
 · exact over_ok ge gm sa' 0 (S*M) (Nat.zero_le _) (Nat.le_refl _) L xo la pl W hi (hla.below hb)
end
section
open Go.RowKit Go.Shelf
attribute [local go_sem] Oper.semAt_some
end
section
open Go.RowKit
theorem cap_nat {c:Cfg} (hd:cfHead c=true) {a:Nat} (hs:c.seg=((2^a:Nat):Int)) {n:Int} (h0:0≤n) (h1:n≤16384):∃H:Nat,taks c n=((2^a*2^H:Nat):Int)∧2^a*2^H≤65536∧n≤taks c n:=by
 have f:=cfHead_facts hd;obtain ⟨d0,d1,d2,d3,d4,d5,d6,d7,d8,d9,d10,d11,d12,d13,d14,d15,d16,d17⟩:=cfHead_num hd;have tb:=taks_bd hd h0 h1;obtain ⟨l1,l2,b,eb⟩:=powB_nat f.2.2.2.2.2.1;have hab:a≤b:=(Nat.pow_le_pow_iff_right (a:=2) xo).1 xo;obtain ⟨j,-,ej⟩:=takF_pow c n 20 c.least;have e:taks c n=((2^a*2^(b-a+j):Nat):Int):=by
  rw [taks,ej,eb,←Nat.pow_add,show a+(b-a+j)=b+j by omega,Nat.pow_add];push_cast
  rfl
 refine ⟨b-a+j,e,by omega,?_⟩;have ht:=takF_takes (c:=c) (n:=n) xo 20 c.least xo (tak_start h0 h1 xo d8 d9).1;have m1:c.rh*taks c n≤c.den*taks c n:=Int.mul_le_mul_of_nonneg_right xo xo;have m2:c.den*n≤c.den*taks c n:=by
  rw [Int.mul_comm c.den n];exact Int.le_trans ht m1
 exact Int.le_of_mul_le_mul_left m2 xo
theorem gap_zero {c:Cfg} {s:SlC} (h:gapE c s=0):cfMay c=true∧∃a H,GapN c s a H∧s.seg=c.seg∧sumC s.cs 0 s.cs.length≤c.most∧denB c s H=true:=by
 unfold gapE at h;split at h
 · rename_i hc
   split at h
   · rename_i hg
     have hg':=hg;simp only [gapMay,gapHead,Bool.and_eq_true,decide_eq_true_eq] at hg;obtain ⟨⟨⟨⟨h1,h2⟩,h3⟩,h4⟩,h5⟩:=hg;obtain ⟨a,H,k⟩:=gapN_of hc h3 h1 h2;exact ⟨hc,a,H,k,h2,h4,by rw [←k.cap.hgt];exact h5⟩
   · cases h
 · cases h
def nilC:SlC:=⟨0,[],[],[],[],0⟩
def capM (c:Cfg) (n:Nat):Nat:=(taks c n).toNat/c.seg.toNat
theorem cap_facts {c:Cfg} {s:SlC} {a H:Nat} (k:GapN c s a H) {n:Nat} (hn:(n:Int)≤c.most):c.seg.toNat=2^a∧taks c n=((2^a*capM c n:Nat):Int)∧1≤capM c n∧2^a*capM c n≤65536∧n≤2^a*capM c n∧pwB (capM c n:Int)=true:=by
 have hd:=cfMay_head k.cap.may;have d:=cfHead_num hd;obtain ⟨H',e,hb,hle⟩:=cap_nat hd k.cap.seg (n:=(n:Int)) xo xo;have hs:c.seg.toNat=2^a:=by rw [k.cap.seg];rfl
 have hm:capM c n=2^H':=by
  rw [capM,e,hs,Int.toNat_natCast,Nat.mul_div_cancel_left _ (Nat.two_pow_pos a)]
 rw [hm];exact ⟨hs,e,Nat.two_pow_pos H',hb,by omega,pwB_two H'⟩
theorem gapN_gd {c:Cfg} {s:SlC} {a H:Nat} (k:GapN c s a H) (hu:U64s s.ws):SlGd s (2^a) ((s.ks.length+63)/64) s.ks.length (2^H)∧(s.ks.length+63)/64≤2000:=by
 obtain ⟨S,M,g,-,-,-⟩:=slMay_gd hu k.may;have e1:S=2^a:=by have:=g.seg;have:=k.seg;omega
 have e2:M=2^H:=by have:=g.elc;have:=k.nc;omega
 have e3:=g.elk;subst e1 e2;have hb:=k.cap.big;rw [←e3] at g;have:=k.nk;exact ⟨g,by omega⟩
end
section
open Go.RowKit
def szV (c:Cfg) (s:SlC):Int×Int:=if pmE c s=0 then (((prs s 0 s.ks.length).length:Int),0) else (0,pmE c s)
theorem pmaSize_err (c:Cfg) (s:SlC) (wa ka va ca:Option Addr) (wc kc vc cc:Nat) (e:Int) (he:e≠0) (w:World) (CK:Hid (∀W,Below w.heap.size w W→Calls Tryd.prog 13 #[.agg #[.int .u8 c.tag,.int .i64 c.most,.int .i64 c.seg,.int .i64 c.least,.int .i64 c.den,.int .i64 c.ll,.int .i64 c.rl,.int .i64 c.rh,.int .i64 c.lh,.int .i64 s.seg,.slice wa s.ws.length wc,.slice ka s.ks.length kc,.slice va s.vs.length vc,.slice ca s.cs.length cc,.int .u64 s.laid]] W (AnsB W (.int .i64 e)))):
    Calls Tryd.prog 8 #[.agg #[.int .u8 c.tag,.int .i64 c.most,.int .i64 c.seg,.int .i64 c.least,.int .i64 c.den,.int .i64 c.ll,.int .i64 c.rl,.int .i64 c.rh,.int .i64 c.lh,.int .i64 s.seg,.slice wa s.ws.length wc,.slice ka s.ks.length kc,.slice va s.vs.length vc,.slice ca s.cs.length cc,.int .u64 s.laid]] w (AnsB w (.tuple #[.int .i64 0,.int .i64 e])):=by
 have ge:(e != 0)=true:=by simpa using he
 clear he;go_enter Tryd.func8,Tryd.ntmps8
 go_wp2_with fail
 refine (CK.out _ xbel).mono ?_;rintro e w1 ⟨rfl,hb1⟩;have hz_w1:=hb1.size;try simp only [World.size_alloc,World.size_setCell] at hz_w1
 have hh:=bc15 hb1 (al15 (b:=w.heap.size) xsi);obtain ⟨c_t0,c_t1,c_t2,c_t3,c_t4,c_t5,c_t6,c_t7,c_t8,c_t9,c_t10,c_t11,c_t12,c_t13,c_t14⟩:=hh;have z_t:=blt hb1 (alz (b:=w.heap.size) xsi);have hB1:Below w.heap.size w w1:=xbel;go_wp2
 go_ret2
 exact ⟨rfl,hB1⟩
theorem pmaSize_in (c:Cfg) (s:SlC) (wa ka va ca:Option Addr) (wc kc vc cc:Nat) (S:Nat) (hS:S≤64) (hC:CntB s.cs S) (hlc:s.cs.length≤65536) (w:World) (hcs:IsRow .i64 w ca s.cs) (CK:Hid (∀W,Below w.heap.size w W→Calls Tryd.prog 13 #[.agg #[.int .u8 c.tag,.int .i64 c.most,.int .i64 c.seg,.int .i64 c.least,.int .i64 c.den,.int .i64 c.ll,.int .i64 c.rl,.int .i64 c.rh,.int .i64 c.lh,.int .i64 s.seg,.slice wa s.ws.length wc,.slice ka s.ks.length kc,.slice va s.vs.length vc,.slice ca s.cs.length cc,.int .u64 s.laid]] W (AnsB W (.int .i64 0)))):
    Calls Tryd.prog 8 #[.agg #[.int .u8 c.tag,.int .i64 c.most,.int .i64 c.seg,.int .i64 c.least,.int .i64 c.den,.int .i64 c.ll,.int .i64 c.rl,.int .i64 c.rh,.int .i64 c.lh,.int .i64 s.seg,.slice wa s.ws.length wc,.slice ka s.ks.length kc,.slice va s.vs.length vc,.slice ca s.cs.length cc,.int .u64 s.laid]] w (AnsB w (.tuple #[.int .i64 (sumC s.cs 0 s.cs.length),.int .i64 0])):=by
 have HR:=hid hcs;have HC:=hid hC;obtain ⟨m,hm⟩:∃m,s.cs.length=m:=⟨_,rfl⟩
 have HM:=hid hm;clear hcs hC;rw [hm] at CK hlc ⊢;clear hm;go_enter Tryd.func8,Tryd.ntmps8
 go_wp2_with fail
 refine (CK.out _ xbel).mono ?_;rintro e w1 ⟨rfl,hb1⟩;have hz_w1:=hb1.size;try simp only [World.size_alloc,World.size_setCell] at hz_w1
 have hh:=bc15 hb1 (al15 (b:=w.heap.size) xsi);obtain ⟨c_t0,c_t1,c_t2,c_t3,c_t4,c_t5,c_t6,c_t7,c_t8,c_t9,c_t10,c_t11,c_t12,c_t13,c_t14⟩:=hh;have z_t:=blt hb1 (alz (b:=w.heap.size) xsi);have hB1:Below w.heap.size w w1:=xbel;have HB1:=hid hB1;have HR1:=hid (HR.out.below hB1);clear hB1 hb1;go_wp2
 go_loopg [2,6,16] m (fun gk sv x iv wr=>∃i:Nat,i+gk=m∧iv= .int .i64 i∧sv= .int .i64 (sumC s.cs 0 i)∧w1=wr)
 case atStart=>exact ⟨0,by omega,rfl,by rw [sumC_nil],rfl⟩
 case round=>
  obtain ⟨i,hi2,rfl,rfl,rfl⟩:=hrel;by_cases hlt:i<m
  · obtain ⟨b,off,x,hbe,hxx,hc,-⟩:=HR1.out.get (i:=i) (by rw [HM.out];exact hlt);subst hbe;have hsb:=sumC_bd HC.out 0 i;have hx2:=HC.out i;have hsu:=sumC_succ s.cs (a:=0) (b:=i) xo;rw [Nat.zero_add] at hsb;rw [hxx.out] at hsu hx2;have hsn:S*i≤64*65536:=Nat.mul_le_mul hS xo;generalize sumC s.cs 0 i=s0 at *;have hw1:IntKind.i64.wrap (s0+x)=s0+x:=IntWalk.i64_in _ xo;have HSU:=hid hsu;clear hxx hsu hx2 hsb;go_wp2
    go_roundg (gk-1)
    case measure=>omega
    case rel=>exact ⟨i+1,by omega,by go_num,by rw [HSU.out],rfl⟩
  · have him:i=m:=xo;subst him;go_wp2
    go_ret2
    exact ⟨rfl,HB1.out⟩
end
section
open Go.RowKit
def getPV (c:Cfg) (s:SlC) (key:Int):Int×Int:=if pmE c s=0 then (match fndL (prs s 0 s.ks.length) key with|some p=>(p.2,0)|none=>(0,6)) else (0,pmE c s)
theorem pmaGet_err (c:Cfg) (s:SlC) (wa ka va ca:Option Addr) (wc kc vc cc:Nat) (key e:Int) (he:e≠0) (w:World) (CK:Hid (∀W,Below w.heap.size w W→Calls Tryd.prog 13 #[.agg #[.int .u8 c.tag,.int .i64 c.most,.int .i64 c.seg,.int .i64 c.least,.int .i64 c.den,.int .i64 c.ll,.int .i64 c.rl,.int .i64 c.rh,.int .i64 c.lh,.int .i64 s.seg,.slice wa s.ws.length wc,.slice ka s.ks.length kc,.slice va s.vs.length vc,.slice ca s.cs.length cc,.int .u64 s.laid]] W (AnsB W (.int .i64 e)))):
    Calls Tryd.prog 9 #[.agg #[.int .u8 c.tag,.int .i64 c.most,.int .i64 c.seg,.int .i64 c.least,.int .i64 c.den,.int .i64 c.ll,.int .i64 c.rl,.int .i64 c.rh,.int .i64 c.lh,.int .i64 s.seg,.slice wa s.ws.length wc,.slice ka s.ks.length kc,.slice va s.vs.length vc,.slice ca s.cs.length cc,.int .u64 s.laid],.int .i64 key] w (AnsB w (.tuple #[.int .i64 0,.int .i64 e])):=by
 have ge:(e != 0)=true:=by simpa using he
 clear he;go_enter Tryd.func9,Tryd.ntmps9
 go_wp2_with fail
 refine (CK.out _ xbel).mono ?_;rintro e w1 ⟨rfl,hb1⟩;have hz_w1:=hb1.size;try simp only [World.size_alloc,World.size_setCell] at hz_w1
 have hh:=bc15 hb1 (al15 (b:=w.heap.size) xsi);obtain ⟨c_t0,c_t1,c_t2,c_t3,c_t4,c_t5,c_t6,c_t7,c_t8,c_t9,c_t10,c_t11,c_t12,c_t13,c_t14⟩:=hh;have z_t:=blt hb1 (alz (b:=w.heap.size) xsi);have hB1:Below w.heap.size w w1:=xbel;go_wp2
 go_ret2
 exact ⟨rfl,hB1⟩
theorem pmaGet_no (c:Cfg) (s:SlC) (wa ka va ca:Option Addr) (wc kc vc cc:Nat) (key:Int) (w:World) (CK:Hid (∀W,Below w.heap.size w W→Calls Tryd.prog 13 #[.agg #[.int .u8 c.tag,.int .i64 c.most,.int .i64 c.seg,.int .i64 c.least,.int .i64 c.den,.int .i64 c.ll,.int .i64 c.rl,.int .i64 c.rh,.int .i64 c.lh,.int .i64 s.seg,.slice wa s.ws.length wc,.slice ka s.ks.length kc,.slice va s.vs.length vc,.slice ca s.cs.length cc,.int .u64 s.laid]] W (AnsB W (.int .i64 0)))) (FD:Hid (∀W,Below w.heap.size w W→Calls Tryd.prog 20 #[.agg #[.int .i64 s.seg,.slice wa s.ws.length wc,.slice ka s.ks.length kc,.slice va s.vs.length vc,.slice ca s.cs.length cc,.int .u64 s.laid],.int .i64 key] W (AnsB W (.tuple #[.int .i64 0,.int .i64 6])))):
    Calls Tryd.prog 9 #[.agg #[.int .u8 c.tag,.int .i64 c.most,.int .i64 c.seg,.int .i64 c.least,.int .i64 c.den,.int .i64 c.ll,.int .i64 c.rl,.int .i64 c.rh,.int .i64 c.lh,.int .i64 s.seg,.slice wa s.ws.length wc,.slice ka s.ks.length kc,.slice va s.vs.length vc,.slice ca s.cs.length cc,.int .u64 s.laid],.int .i64 key] w (AnsB w (.tuple #[.int .i64 0,.int .i64 6])):=by
 go_enter Tryd.func9,Tryd.ntmps9
 go_wp2_with fail
 refine (CK.out _ xbel).mono ?_;rintro e w1 ⟨rfl,hb1⟩;have hz_w1:=hb1.size;try simp only [World.size_alloc,World.size_setCell] at hz_w1
 have hh:=bc15 hb1 (al15 (b:=w.heap.size) xsi);obtain ⟨c_t0,c_t1,c_t2,c_t3,c_t4,c_t5,c_t6,c_t7,c_t8,c_t9,c_t10,c_t11,c_t12,c_t13,c_t14⟩:=hh;have z_t:=blt hb1 (alz (b:=w.heap.size) xsi);have hB1:Below w.heap.size w w1:=xbel;go_wp2_with fail
 refine (FD.out _ hB1).mono ?_;rintro e w2 ⟨rfl,hb2⟩;have hz_w2:=hb2.size;simp (disch:=omega) only [xcl hb2] at *;replace z_t:=blt hb2 z_t;have hB2:=below_via hb2 hB1 hB1.size;go_wp2
 go_ret2
 exact ⟨rfl,hB2⟩
theorem pmaGet_yes (c:Cfg) (s:SlC) (wa ka ca:Option Addr) (b off:Nat) (wc kc vc cc:Nat) (key x:Int) (r m:Nat) (hm:s.vs.length=m) (hr:r<m) (w:World) (hc:w.cell? ⟨b,off+r,none⟩=some (.int .i64 x)) (hlt:b<w.heap.size) (CK:Hid (∀W,Below w.heap.size w W→Calls Tryd.prog 13 #[.agg #[.int .u8 c.tag,.int .i64 c.most,.int .i64 c.seg,.int .i64 c.least,.int .i64 c.den,.int .i64 c.ll,.int .i64 c.rl,.int .i64 c.rh,.int .i64 c.lh,.int .i64 s.seg,.slice wa s.ws.length wc,.slice ka s.ks.length kc,.slice (some ⟨b,off,none⟩) m vc,.slice ca s.cs.length cc,.int .u64 s.laid]] W (AnsB W (.int .i64 0)))) (FD:Hid (∀W,Below w.heap.size w W→Calls Tryd.prog 20 #[.agg #[.int .i64 s.seg,.slice wa s.ws.length wc,.slice ka s.ks.length kc,.slice (some ⟨b,off,none⟩) m vc,.slice ca s.cs.length cc,.int .u64 s.laid],.int .i64 key] W (AnsB W (.tuple #[.int .i64 r,.int .i64 0])))):
    Calls Tryd.prog 9 #[.agg #[.int .u8 c.tag,.int .i64 c.most,.int .i64 c.seg,.int .i64 c.least,.int .i64 c.den,.int .i64 c.ll,.int .i64 c.rl,.int .i64 c.rh,.int .i64 c.lh,.int .i64 s.seg,.slice wa s.ws.length wc,.slice ka s.ks.length kc,.slice (some ⟨b,off,none⟩) m vc,.slice ca s.cs.length cc,.int .u64 s.laid],.int .i64 key] w (AnsB w (.tuple #[.int .i64 x,.int .i64 0])):=by
 clear hm;go_enter Tryd.func9,Tryd.ntmps9
 go_wp2_with fail
 refine (CK.out _ xbel).mono ?_;rintro e w1 ⟨rfl,hb1⟩;have hz_w1:=hb1.size;try simp only [World.size_alloc,World.size_setCell] at hz_w1
 have hh:=bc15 hb1 (al15 (b:=w.heap.size) xsi);obtain ⟨c_t0,c_t1,c_t2,c_t3,c_t4,c_t5,c_t6,c_t7,c_t8,c_t9,c_t10,c_t11,c_t12,c_t13,c_t14⟩:=hh;have z_t:=blt hb1 (alz (b:=w.heap.size) xsi);have hB1:Below w.heap.size w w1:=xbel;go_wp2_with fail
 refine (FD.out _ hB1).mono ?_;rintro e w2 ⟨rfl,hb2⟩;have hz_w2:=hb2.size;simp (disch:=omega) only [xcl hb2] at *;replace z_t:=blt hb2 z_t;have hB2:=below_via hb2 hB1 hB1.size;replace hc:=(hB2.cell (p:=⟨b,off+r,none⟩) hlt).trans hc;go_wp2
 go_ret2
 exact ⟨rfl,hB2⟩
end
section
open Go.RowKit
theorem pm_zero {c:Cfg} {s:SlC} (h:pmE c s=0):gapE c s=0∧seekE s=0:=by
 unfold pmE at h;split at h
 · rename_i g;exact ⟨g,h⟩
 · rename_i g;exact absurd h g
theorem pm_nums {c:Cfg} {s:SlC} (h:pmE c s=0) (hu:U64s s.ws):∃a H,GapN c s a H∧SlGd s (2^a) ((s.ks.length+63)/64) s.ks.length (2^H)∧2^a≤64∧s.ks.length≤65536∧s.ks.length≤64*s.ws.length∧s.vs.length=s.ks.length∧s.cs.length=2^H∧2^H≤65536:=by
 obtain ⟨hc,a,H,k,-⟩:=gap_zero (pm_zero h).1;obtain ⟨g,-⟩:=gapN_gd k hu;have ha6:2^a≤2^6:=Nat.pow_le_pow_right xo k.cap.a6;have hnm:=g.nm;have hw:=g.elw;have hn:1*2^H≤2^a*2^H:=Nat.mul_le_mul_right _ (Nat.two_pow_pos a);have hk:=k.nk;exact ⟨a,H,k,g,by omega,by omega,by omega,by rw [k.nv,k.nk],k.nc,by omega⟩
theorem sum_all {c:Cfg} {s:SlC} {a H:Nat} (k:GapN c s a H) (g:SlGd s (2^a) ((s.ks.length+63)/64) s.ks.length (2^H)):sumC s.cs 0 s.cs.length=((prs s 0 s.ks.length).length:Int):=by
 rw [prs_length,k.nc,sumC_cnt2 g (Nat.zero_le _) (Nat.le_refl _),Nat.zero_mul,Nat.mul_comm,←k.nk]
theorem szV_ok {c:Cfg} {s:SlC} (h:pmE c s=0):szV c s=(((prs s 0 s.ks.length).length:Int),0):=if_pos h
theorem szV_no {c:Cfg} {s:SlC} (h:¬pmE c s=0):szV c s=(0,pmE c s):=if_neg h
theorem pmaSize_ok (c:Cfg) (s:SlC) (sa:SlA) (hl:s.ws.length≤1000000000000) (hl2:s.ks.length≤1000000000000) (hcc:s.cs.length≤sa.cc) (w:World) (hin:SlIn w s sa):
    Calls Tryd.prog 8 #[pmV c s sa] w (AnsB w (.tuple #[.int .i64 (szV c s).1,.int .i64 (szV c s).2])):=by
 by_cases h:pmE c s=0
 · rw [szV_ok h];obtain ⟨a,H,k,g,q1,q2,q3,q4,q5,q6⟩:=pm_nums h hin.u;rw [←sum_all k g];exact pmaSize_in c s sa.wa sa.ka sa.va sa.ca sa.wc sa.kc sa.vc sa.cc (2^a) q1 k.cnt xo w hin.n (hid fun W hb=>h ▸ pmaCheck_ok c s sa hl hl2 hcc W (hin.below hb))
 · rw [szV_no h];exact pmaSize_err c s sa.wa sa.ka sa.va sa.ca sa.wc sa.kc sa.vc sa.cc _ h w (hid fun W hb=>pmaCheck_ok c s sa hl hl2 hcc W (hin.below hb))
theorem getPV_some {c:Cfg} {s:SlC} {key:Int} {p:Int×Int} (h:pmE c s=0) (hf:fndL (prs s 0 s.ks.length) key=some p):getPV c s key=(p.2,0):=by rw [getPV,if_pos h,hf]
theorem getPV_none {c:Cfg} {s:SlC} {key:Int} (h:pmE c s=0) (hf:fndL (prs s 0 s.ks.length) key=none):getPV c s key=(0,6):=by rw [getPV,if_pos h,hf]
theorem getPV_err {c:Cfg} {s:SlC} {key:Int} (h:¬pmE c s=0):getPV c s key=(0,pmE c s):=if_neg h
theorem pmaGet_ok (c:Cfg) (s:SlC) (sa:SlA) (key:Int) (hl:s.ws.length≤1000000000000) (hl2:s.ks.length≤1000000000000) (hcc:s.cs.length≤sa.cc) (w:World) (hin:SlIn w s sa) (hT:TabAt w):
    Calls Tryd.prog 9 #[pmV c s sa,.int .i64 key] w (AnsB w (.tuple #[.int .i64 (getPV c s key).1,.int .i64 (getPV c s key).2])):=by
 by_cases h:pmE c s=0
 · have CK:=hid (fun W (hb:Below w.heap.size w W)=>pmaCheck_ok c s sa hl hl2 hcc W (hin.below hb));rw [h] at CK;have FD:=hid (fun W (hb:Below w.heap.size w W)=>seekFind_ok s sa key hl hl2 W (hin.below hb) (hT.below hb));obtain ⟨a,H,k,g,q1,q2,q3,q4,q5,q6⟩:=pm_nums h hin.u;rcases find_get (key:=key) (pm_zero h).2 with ⟨r,e1,hr,-,-,hf⟩ | ⟨e1,hf⟩
   · rw [getPV_some h hf];rw [e1] at FD;obtain ⟨b,off,x,hva,hx,hc,hlt⟩:=hin.v.get (i:=r) (by rw [q4];exact hr);rw [hx.out];obtain ⟨wa,ka,va,ca,wc,kc,vc,cc⟩:=sa;dsimp only at hva;subst hva;exact pmaGet_yes c s wa ka ca b off wc kc vc cc key x r s.vs.length rfl (by rw [q4];exact hr) w hc hlt CK FD
   · rw [getPV_none h hf];rw [e1] at FD;exact pmaGet_no c s sa.wa sa.ka sa.va sa.ca sa.wc sa.kc sa.vc sa.cc key w CK FD
 · rw [getPV_err h];exact pmaGet_err c s sa.wa sa.ka sa.va sa.ca sa.wc sa.kc sa.vc sa.cc key _ h w (hid fun W hb=>pmaCheck_ok c s sa hl hl2 hcc W (hin.below hb))
end
section
open Go.RowKit Go.BigFrame
theorem exec_load {P:Program} {o:Oper} {a:Act} {w:World} (ty:TypeId) (x:Operand) (b:Nat) (vs:List Value) {d:TypeDesc} (ho:o.op= .load ty x) (hx:a.eval x= .pointer (some ⟨b,0,none⟩))
    (hu:P.underlying ty=some d) (hd:d.isRow=true) (hi:(P.info? ty).map (·.size)=some vs.length) (hc:∀j v,vs[j]? =some v→w.cell? ⟨b,j,none⟩=some v):
    (execOp a.eval o).run P w= .ok (.value (.agg vs.toArray)) w:=by
 have:=run_loadVar_many (P:=P) (w:=w) (b:=b) vs hu hd hi hc;unfold execOp;simp only [ho,hx,Instr.loadAt,Instr.sureAddr,Sem.run_bind,Sem.run_pure,Result.andThen_ok,this]
theorem wpl_load {P:Program} {w:World} {ops:Array Oper} {rest:List Oper} {o:Oper} {a:Act} {Q:Exit→Act→World→Prop} (ty:TypeId) (x:Operand) (b:Nat) (vs:List Value) {d:TypeDesc}
    (hw:Region.wanted o (yielded ops a.tmps)=true) (ho:o.op= .load ty x) (hx:a.eval x= .pointer (some ⟨b,0,none⟩))
    (hu:P.underlying ty=some d) (hd:d.isRow=true) (hi:(P.info? ty).map (·.size)=some vs.length) (hc:∀j v,vs[j]? =some v→w.cell? ⟨b,j,none⟩=some v)
    (h:wpList P ops Q rest (a.put o.dst (.agg vs.toArray)) w):wpList P ops Q (o::rest) a w:=by
 refine wpList_want hw fun K hK=> ?_
 have e:=exec_load (P:=P) (o:=o) (a:=a) (w:=w) ty x b vs ho hx hu hd hi hc;unfold Oper.wp;simp only [e];exact hK _ _ h
end
section
open Go.RowKit Go.BigFrame
def PB (W:World) (b:Nat) (vs:List Value):Prop:=∀j v,vs[j]? =some v→W.cell? ⟨b,j,none⟩=some v
theorem pb_new (w:World) (b:Nat) (vs:List Value) {t:TypeId} (hb:b=w.heap.size):PB (w.alloc (.cells vs.toArray t)) b vs:=by
 intro j v hj;subst hb;have:(w.alloc (Obj.cells vs.toArray t)).cell? ⟨w.heap.size,j,none⟩=vs.toArray[j]? :=ceW.2.1 w vs.toArray t w.heap.size j rfl;rw [this];simpa using hj
theorem pb_alloc {w:World} {b:Nat} {vs:List Value} (h:PB w b vs) (hb:b<w.heap.size) (o:Obj):PB (w.alloc o) b vs:=
  fun j v hj=>(ceW.1 w o b j hb).trans (h j v hj)
theorem pb_below {w w':World} {b:Nat} {vs:List Value} (hb:Below w.heap.size w w') (h:PB w b vs) (hz:b<w.heap.size):PB w' b vs:=
  fun j v hj=>(hb.cell (p:=⟨b,j,none⟩) hz).trans (h j v hj)
theorem pbb {w w':World} {b:Nat} {vs:List Value} (hb:Below w.heap.size w w') (h:Hid (PB w b vs)) (hz:b<w.heap.size):Hid (PB w' b vs):=hid (pb_below hb h.out hz)
theorem pbg {w w':World} {b:Nat} {vs:List Value} {o:Obj} (e:w.alloc o=w') (h:Hid (PB w b vs)) (hz:b<w.heap.size):Hid (PB w' b vs):=e ▸ hid (pb_alloc h.out hz o)
theorem pb_pre {w:World} {b:Nat} {vs us:List Value} (h:PB w b (vs++us)):∀j v,vs[j]? =some v→w.cell? ⟨b,j,none⟩=some v:=by
 intro j v hj;refine h j v ?_;rw [List.getElem?_append_left (List.getElem?_eq_some_iff.1 hj).1];exact hj
theorem pb_via {w w':World} {M b:Nat} {vs:List Value} (h:∀(p:Addr) (v:Value),p.block<M→w.cell? p=some v→w'.cell? p=some v) (hp:PB w b vs) (hb:b<M):PB w' b vs:=
  fun j v hj=>h ⟨b,j,none⟩ v hb (hp j v hj)
theorem wpl_loadv {P:Program} {w:World} {ops:Array Oper} {rest:List Oper} {o:Oper} {a:Act} {Q:Exit→Act→World→Prop} (ty:TypeId) (x:Operand) (b:Nat) (vs:List Value) (v:Value) (hv:Value.agg vs.toArray=v) {d:TypeDesc}
    (hw:Region.wanted o (yielded ops a.tmps)=true) (ho:o.op= .load ty x) (hx:a.eval x= .pointer (some ⟨b,0,none⟩))
    (hu:P.underlying ty=some d) (hd:d.isRow=true) (hi:(P.info? ty).map (·.size)=some vs.length) (hc:PB w b vs)
    (h:wpList P ops Q rest (a.put o.dst v) w):wpList P ops Q (o::rest) a w:=by
 subst hv;exact wpl_load ty x b vs hw ho hx hu hd hi hc h
theorem wpl_store_new {P:Program} {w:World} {ops:Array Oper} {rest:List Oper} {o:Oper} {a:Act} {Q:Exit→Act→World→Prop} (ty:TypeId) (x y:Operand) (c c':Array Value)
    (hw:Region.wanted o (yielded ops a.tmps)=true) (ho:o.op= .store ty x y) (hx:a.eval x= .pointer (some ⟨w.heap.size,0,none⟩)) (hy:a.eval y= .agg c')
    (hi:(P.info? ty).map (·.size)=some c'.size) (hc:c.size=c'.size) (h1:c'.all (·.oneCell')=true)
    (h:wpList P ops Q rest (a.put o.dst undef) (w.alloc (.cells c' ty))):wpList P ops Q (o::rest) a (w.alloc (.cells c ty)):=by
 refine wpList_want hw fun K hK=> ?_
 have e:=run_storeAt_new (P:=P) w ty c c' hi hc h1;unfold Oper.wp execOp;simp only [ho,hx,hy,Sem.run_bind,Sem.run_pure,Result.andThen_ok,e];exact hK _ _ h
end
section
open Go.RowKit Go.Shelf Go.Sort
theorem lacks11_core (c:Cfg) (s:SlC) (wa ka va ca:Option Addr) (wc kc vc cc:Nat) (key:Int) (v e:Int) (q:Bool) (hq:(e=6∧(v==0)=q)∨(e≠6∧q=false)) (w:World)
    (GT:Hid (∀(W:World),Below w.heap.size w W→Calls Tryd.prog 9 #[.agg #[.int .u8 c.tag,.int .i64 c.most,.int .i64 c.seg,.int .i64 c.least,.int .i64 c.den,.int .i64 c.ll,.int .i64 c.rl,.int .i64 c.rh,.int .i64 c.lh,.int .i64 s.seg,.slice wa s.ws.length wc,.slice ka s.ks.length kc,.slice va s.vs.length vc,.slice ca s.cs.length cc,.int .u64 s.laid],.int .i64 key] W (AnsB W (.tuple #[.int .i64 v,.int .i64 e])))):
    Calls Tryd.prog 12 #[.agg #[.int .u8 c.tag,.int .i64 c.most,.int .i64 c.seg,.int .i64 c.least,.int .i64 c.den,.int .i64 c.ll,.int .i64 c.rl,.int .i64 c.rh,.int .i64 c.lh,.int .i64 s.seg,.slice wa s.ws.length wc,.slice ka s.ks.length kc,.slice va s.vs.length vc,.slice ca s.cs.length cc,.int .u64 s.laid],.int .i64 key] w (AnsB w (.bool q)):=by
 have HQ:=hid hq;clear hq;go_enter Tryd.func12,Tryd.ntmps12
 go_upto_region 1 with (fail)
 generalize hw0:w.alloc _=w0;have P_m:Hid (PB w0 (w.heap.size) [.int .u8 c.tag,.int .i64 c.most,.int .i64 c.seg,.int .i64 c.least,.int .i64 c.den,.int .i64 c.ll,.int .i64 c.rl,.int .i64 c.rh,.int .i64 c.lh,.int .i64 s.seg,.slice wa s.ws.length wc,.slice ka s.ks.length kc,.slice va s.vs.length vc,.slice ca s.cs.length cc,.int .u64 s.laid]):=by rw [←hw0];exact hid (pb_new _ _ _ xsi)
 have Z_m:w.heap.size<w0.heap.size:=by rw [←hw0];simp only [World.size_alloc];omega
 have HB0:Hid (Below w.heap.size w w0):=by rw [←hw0];exact hid (br.alloc (Nat.le_refl _) _)
 clear hw0;generalize HVm:Value.agg #[.int .u8 c.tag,.int .i64 c.most,.int .i64 c.seg,.int .i64 c.least,.int .i64 c.den,.int .i64 c.ll,.int .i64 c.rl,.int .i64 c.rh,.int .i64 c.lh,.int .i64 s.seg,.slice wa s.ws.length wc,.slice ka s.ks.length kc,.slice va s.vs.length vc,.slice ca s.cs.length cc,.int .u64 s.laid]=v_m at GT ⊢;have HV_m:=hid HVm;clear HVm;go_wp2_with (first|refine wpl_loadv 31 (.tmp 2) _ _ v_m HV_m.out rfl rfl rfl Tryd.underlying31 rfl xk P_m.out ?_)
 go_wp2_with fail
 refine (GT.out _ HB0.out).mono ?_;rintro e w1 ⟨rfl,hb1⟩;replace P_m:=pbb hb1 P_m Z_m;replace Z_m:=blt hb1 Z_m;have hz_w1:=hb1.size;have HB1:=xv hb1 HB0;clear hb1 GT;rcases HQ.out with ⟨rfl,h2⟩ | ⟨h1,rfl⟩
 · go_wp2
   go_ret
   exact ⟨rfl,HB1.out⟩
 · have b1:(e==6)=false:=by simpa using h1
   clear h1;go_wp2
   go_ret
   exact ⟨rfl,HB1.out⟩
theorem got11_core (c:Cfg) (s:SlC) (wa ka va ca:Option Addr) (wc kc vc cc:Nat) (key want:Int) (v e:Int) (q:Bool) (hq:(e=0∧(v==want)=q)∨(e≠0∧q=false)) (w:World)
    (GT:Hid (∀(W:World),Below w.heap.size w W→Calls Tryd.prog 9 #[.agg #[.int .u8 c.tag,.int .i64 c.most,.int .i64 c.seg,.int .i64 c.least,.int .i64 c.den,.int .i64 c.ll,.int .i64 c.rl,.int .i64 c.rh,.int .i64 c.lh,.int .i64 s.seg,.slice wa s.ws.length wc,.slice ka s.ks.length kc,.slice va s.vs.length vc,.slice ca s.cs.length cc,.int .u64 s.laid],.int .i64 key] W (AnsB W (.tuple #[.int .i64 v,.int .i64 e])))):
    Calls Tryd.prog 14 #[.agg #[.int .u8 c.tag,.int .i64 c.most,.int .i64 c.seg,.int .i64 c.least,.int .i64 c.den,.int .i64 c.ll,.int .i64 c.rl,.int .i64 c.rh,.int .i64 c.lh,.int .i64 s.seg,.slice wa s.ws.length wc,.slice ka s.ks.length kc,.slice va s.vs.length vc,.slice ca s.cs.length cc,.int .u64 s.laid],.int .i64 key,.int .i64 want] w (AnsB w (.bool q)):=by
 have HQ:=hid hq;clear hq;go_enter Tryd.func14,Tryd.ntmps14
 go_upto_region 1 with (fail)
 generalize hw0:w.alloc _=w0;have P_m:Hid (PB w0 (w.heap.size) [.int .u8 c.tag,.int .i64 c.most,.int .i64 c.seg,.int .i64 c.least,.int .i64 c.den,.int .i64 c.ll,.int .i64 c.rl,.int .i64 c.rh,.int .i64 c.lh,.int .i64 s.seg,.slice wa s.ws.length wc,.slice ka s.ks.length kc,.slice va s.vs.length vc,.slice ca s.cs.length cc,.int .u64 s.laid]):=by rw [←hw0];exact hid (pb_new _ _ _ xsi)
 have Z_m:w.heap.size<w0.heap.size:=by rw [←hw0];simp only [World.size_alloc];omega
 have HB0:Hid (Below w.heap.size w w0):=by rw [←hw0];exact hid (br.alloc (Nat.le_refl _) _)
 clear hw0;generalize HVm:Value.agg #[.int .u8 c.tag,.int .i64 c.most,.int .i64 c.seg,.int .i64 c.least,.int .i64 c.den,.int .i64 c.ll,.int .i64 c.rl,.int .i64 c.rh,.int .i64 c.lh,.int .i64 s.seg,.slice wa s.ws.length wc,.slice ka s.ks.length kc,.slice va s.vs.length vc,.slice ca s.cs.length cc,.int .u64 s.laid]=v_m at GT ⊢;have HV_m:=hid HVm;clear HVm;go_wp2_with (first|refine wpl_loadv 31 (.tmp 3) _ _ v_m HV_m.out rfl rfl rfl Tryd.underlying31 rfl xk P_m.out ?_)
 go_wp2_with fail
 refine (GT.out _ HB0.out).mono ?_;rintro e w1 ⟨rfl,hb1⟩;replace P_m:=pbb hb1 P_m Z_m;replace Z_m:=blt hb1 Z_m;have hz_w1:=hb1.size;have HB1:=xv hb1 HB0;clear hb1 GT;rcases HQ.out with ⟨rfl,h2⟩ | ⟨h1,rfl⟩
 · go_wp2
   go_ret
   exact ⟨rfl,HB1.out⟩
 · have b1:(e==0)=false:=by simpa using h1
   clear h1;go_wp2
   go_ret
   exact ⟨rfl,HB1.out⟩
theorem size11_core (c:Cfg) (s:SlC) (wa ka va ca:Option Addr) (wc kc vc cc:Nat) (want:Int) (v e:Int) (q:Bool) (hq:(e=0∧(v==want)=q)∨(e≠0∧q=false)) (w:World)
    (GT:Hid (∀(W:World),Below w.heap.size w W→Calls Tryd.prog 8 #[.agg #[.int .u8 c.tag,.int .i64 c.most,.int .i64 c.seg,.int .i64 c.least,.int .i64 c.den,.int .i64 c.ll,.int .i64 c.rl,.int .i64 c.rh,.int .i64 c.lh,.int .i64 s.seg,.slice wa s.ws.length wc,.slice ka s.ks.length kc,.slice va s.vs.length vc,.slice ca s.cs.length cc,.int .u64 s.laid]] W (AnsB W (.tuple #[.int .i64 v,.int .i64 e])))):
    Calls Tryd.prog 15 #[.agg #[.int .u8 c.tag,.int .i64 c.most,.int .i64 c.seg,.int .i64 c.least,.int .i64 c.den,.int .i64 c.ll,.int .i64 c.rl,.int .i64 c.rh,.int .i64 c.lh,.int .i64 s.seg,.slice wa s.ws.length wc,.slice ka s.ks.length kc,.slice va s.vs.length vc,.slice ca s.cs.length cc,.int .u64 s.laid],.int .i64 want] w (AnsB w (.bool q)):=by
 have HQ:=hid hq;clear hq;go_enter Tryd.func15,Tryd.ntmps15
 go_upto_region 1 with (fail)
 generalize hw0:w.alloc _=w0;have P_m:Hid (PB w0 (w.heap.size) [.int .u8 c.tag,.int .i64 c.most,.int .i64 c.seg,.int .i64 c.least,.int .i64 c.den,.int .i64 c.ll,.int .i64 c.rl,.int .i64 c.rh,.int .i64 c.lh,.int .i64 s.seg,.slice wa s.ws.length wc,.slice ka s.ks.length kc,.slice va s.vs.length vc,.slice ca s.cs.length cc,.int .u64 s.laid]):=by rw [←hw0];exact hid (pb_new _ _ _ xsi)
 have Z_m:w.heap.size<w0.heap.size:=by rw [←hw0];simp only [World.size_alloc];omega
 have HB0:Hid (Below w.heap.size w w0):=by rw [←hw0];exact hid (br.alloc (Nat.le_refl _) _)
 clear hw0;generalize HVm:Value.agg #[.int .u8 c.tag,.int .i64 c.most,.int .i64 c.seg,.int .i64 c.least,.int .i64 c.den,.int .i64 c.ll,.int .i64 c.rl,.int .i64 c.rh,.int .i64 c.lh,.int .i64 s.seg,.slice wa s.ws.length wc,.slice ka s.ks.length kc,.slice va s.vs.length vc,.slice ca s.cs.length cc,.int .u64 s.laid]=v_m at GT ⊢;have HV_m:=hid HVm;clear HVm;go_wp2_with (first|refine wpl_loadv 31 (.tmp 2) _ _ v_m HV_m.out rfl rfl rfl Tryd.underlying31 rfl xk P_m.out ?_)
 go_wp2_with fail
 refine (GT.out _ HB0.out).mono ?_;rintro e w1 ⟨rfl,hb1⟩;replace P_m:=pbb hb1 P_m Z_m;replace Z_m:=blt hb1 Z_m;have hz_w1:=hb1.size;have HB1:=xv hb1 HB0;clear hb1 GT;rcases HQ.out with ⟨rfl,h2⟩ | ⟨h1,rfl⟩
 · go_wp2
   go_ret
   exact ⟨rfl,HB1.out⟩
 · have b1:(e==0)=false:=by simpa using h1
   clear h1;go_wp2
   go_ret
   exact ⟨rfl,HB1.out⟩
def ansB (x:Int×Int) (e v:Int):Bool:=if x.2=e then x.1==v else false
theorem ansB_or (x:Int×Int) (e v:Int):(x.2=e∧(x.1==v)=ansB x e v)∨(x.2≠e∧ansB x e v=false):=by
 unfold ansB;by_cases h:x.2=e
 · rw [if_pos h];exact .inl ⟨h,rfl⟩
 · rw [if_neg h];exact .inr ⟨h,rfl⟩
theorem lacks11_ok (c:Cfg) (s:SlC) (sa:SlA) (key:Int) (hl:s.ws.length≤1000000000000) (hl2:s.ks.length≤1000000000000) (hcc:s.cs.length≤sa.cc) (w:World) (hin:SlIn w s sa) (hT:TabAt w):
    Calls Tryd.prog 12 #[pmV c s sa,.int .i64 key] w (AnsB w (.bool (ansB (getPV c s key) 6 0))):=
  lacks11_core c s sa.wa sa.ka sa.va sa.ca sa.wc sa.kc sa.vc sa.cc key _ _ _ (ansB_or _ _ _) w (hid fun W hb=>pmaGet_ok c s sa key hl hl2 hcc W (hin.below hb) (hT.below hb))
theorem got11_ok (c:Cfg) (s:SlC) (sa:SlA) (key want:Int) (hl:s.ws.length≤1000000000000) (hl2:s.ks.length≤1000000000000) (hcc:s.cs.length≤sa.cc) (w:World) (hin:SlIn w s sa) (hT:TabAt w):
    Calls Tryd.prog 14 #[pmV c s sa,.int .i64 key,.int .i64 want] w (AnsB w (.bool (ansB (getPV c s key) 0 want))):=
  got11_core c s sa.wa sa.ka sa.va sa.ca sa.wc sa.kc sa.vc sa.cc key want _ _ _ (ansB_or _ _ _) w (hid fun W hb=>pmaGet_ok c s sa key hl hl2 hcc W (hin.below hb) (hT.below hb))
theorem size11_ok (c:Cfg) (s:SlC) (sa:SlA) (want:Int) (hl:s.ws.length≤1000000000000) (hl2:s.ks.length≤1000000000000) (hcc:s.cs.length≤sa.cc) (w:World) (hin:SlIn w s sa):
    Calls Tryd.prog 15 #[pmV c s sa,.int .i64 want] w (AnsB w (.bool (ansB (szV c s) 0 want))):=
  size11_core c s sa.wa sa.ka sa.va sa.ca sa.wc sa.kc sa.vc sa.cc want _ _ _ (ansB_or _ _ _) w (hid fun W hb=>pmaSize_ok c s sa hl hl2 hcc W (hin.below hb))
def chG:Cfg:=⟨1,8,4,16,8,0,1,4,8⟩
theorem chap11_ok (w:World):Calls Tryd.prog 17 #[] w (AnsB w (.agg #[.int .u8 1,.int .i64 8,.int .i64 4,.int .i64 16,.int .i64 8,.int .i64 0,.int .i64 1,.int .i64 4,.int .i64 8])):=by
 go_enter Tryd.func17,Tryd.ntmps17
 go_wp2_with (refine wpl_store_new 23 (.tmp 0) (.tmp 1) _ _ rfl rfl rfl rfl xk rfl (by simp [Value.oneCell']) ?_)
 exact bodyPost_ret (results_c rfl rfl (run_loadVar_many _ Tryd.underlying23 rfl xk (pb_new w w.heap.size [.int .u8 1,.int .i64 8,.int .i64 4,.int .i64 16,.int .i64 8,.int .i64 0,.int .i64 1,.int .i64 4,.int .i64 8] rfl))) rfl ⟨rfl,br.alloc (Nat.le_refl _) _⟩
end
end Go.Proofs.YtmnlagmmbfjbeaaDoor

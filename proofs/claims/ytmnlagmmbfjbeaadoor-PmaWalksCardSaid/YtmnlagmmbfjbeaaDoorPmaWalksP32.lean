/- Merged: GTakeOk, GAdd, PutR, GAddOk, GGone, PmTwR, PmNw, Ref9P, Ref9Ok, PmTuJn. -/
import Derived.Test.YtmnlagmmbfjbeaaDoorPmaWalksP30
import Derived.Test.YtmnlagmmbfjbeaaDoorPmaWalksP29
import Derived.Test.YtmnlagmmbfjbeaaDoorPmaWalksP31
import Derived.Test.YtmnlagmmbfjbeaaDoorPmaWalksP28
import Derived.Test.YtmnlagmmbfjbeaaDoorPmaWalksP27
import Derived.Test.YtmnlagmmbfjbeaaDoorPmaWalksP21
import Derived.Test.YtmnlagmmbfjbeaaDoorPmaWalksP12
import Derived.Test.YtmnlagmmbfjbeaaDoorPmaWalksP13
import Derived.Test.YtmnlagmmbfjbeaaDoorPmaWalksP22
import Derived.Test.YtmnlagmmbfjbeaaDoorPmaWalksP6
import Derived.Test.YtmnlagmmbfjbeaaDoorPmaWalksP14
import Derived.Test.YtmnlagmmbfjbeaaDoorPmaWalksP3
import Derived.Test.YtmnlagmmbfjbeaaDoorPmaWalksP20
import Derived.Test.YtmnlagmmbfjbeaaDoorPmaWalksP7
import Derived.Test.YtmnlagmmbfjbeaaDoorPmaWalksP24
import Derived.Test.YtmnlagmmbfjbeaaDoorPmaWalksP23
namespace Go.Proofs.YtmnlagmmbfjbeaaDoor
set_option maxRecDepth 100000
set_option maxHeartbeats 40000000
set_option linter.unusedVariables false
set_option linter.unusedSimpArgs false
section
open Go.RowKit
theorem enters_take1:∀args w,(callFunc 46 args).run Tryd.prog w= .ok (.enter 46 args) w:=enters_of Tryd.func46 xk rfl
theorem gapTake_ok (c:Cfg) (s:SlC) (sa:SlA) (hl:s.ws.length≤1000000000000) (hl2:s.ks.length≤1000000000000) (hcc:s.cs.length≤sa.cc) (k:Int) (w:World) (hin:SlIn w s sa) (hT:TabAt w):
    Calls Tryd.prog 25 #[.agg #[.int .u8 c.tag,.int .i64 c.most,.int .i64 c.seg,.int .i64 c.least,.int .i64 c.den,.int .i64 c.ll,.int .i64 c.rl,.int .i64 c.rh,.int .i64 c.lh],slV s sa,.int .i64 k] w (FreshSl2 w (takC c s k) (.int .i64 (takE c s k))):=by
 have CK:Hid (∀W,Below w.heap.size w W→Calls Tryd.prog 26 #[.agg #[.int .u8 c.tag,.int .i64 c.most,.int .i64 c.seg,.int .i64 c.least,.int .i64 c.den,.int .i64 c.ll,.int .i64 c.rl,.int .i64 c.rh,.int .i64 c.lh],slV s sa] W (AnsB W (.int .i64 (gapE c s)))):=hid fun W hb=>gapCheck_ok c s sa hl hl2 hcc W (hin.below hb)
 by_cases h0:gapE c s=0
 · rw [h0] at CK;obtain ⟨hc,a,H,kn,hs,hmost,hden⟩:=gap_zero h0;obtain ⟨g,hlw⟩:=gapN_gd kn hin.u;obtain ⟨p1,p2,p3,p4,p5,p6⟩:=kn.pows;rw [sum_many kn hin.u] at hmost;have AM:Hid (∀W,Below w.heap.size w W→Calls Tryd.prog 35 #[slV s sa,.int .i64 0,.int .i64 s.ks.length] W (AnsB W (.int .i64 (manyC s)))):=hid fun W hb=>among_all kn hin.u sa hcc W (hin.below hb)
   by_cases hk:k<0
   · have e:takE c s k=2:=by rw [takE,if_pos h0,if_pos (.inl hk)]
     rw [takC,e,if_neg xdd];exact gTake_neg c s.seg _ _ _ _ _ _ _ _ _ _ _ _ _ k hk w CK
   · by_cases hm:(manyC s:Int)≤k
     · have e:takE c s k=2:=by rw [takE,if_pos h0,if_pos (.inr hm)]
       rw [takC,e,if_neg xdd];exact gTake_arg c s.seg _ _ _ _ _ _ _ _ _ _ _ _ _ k _ hk hm w CK AM
     · have e:takE c s k=0:=by rw [takE,if_pos h0,if_neg xo]
       rw [takC,e,if_pos rfl,sgL_eq kn.cap.seg,kn.cap.hgt];obtain ⟨n,rfl⟩:∃n:Nat,k=n:=⟨k.toNat,by omega⟩
       rw [Int.toNat_natCast];have hn:n<(plsW s.ws 0 s.ks.length).length:=by rw [plsW_length];unfold manyC at hm;omega
       have hmn:manyC s≤s.ks.length:=by have:=cntW_le s.ws 0 s.ks.length;unfold manyC;omega
       obtain ⟨-,hbit,hat⟩:=pls_rank hn;have NT:Hid (∀W,Below w.heap.size w W→Calls Tryd.prog 44 #[.slice sa.wa s.ws.length sa.wc,.int .i64 s.ks.length,.int .i64 n] W (AnsB W (.tuple #[.int .i64 ((plsW s.ws 0 s.ks.length).getD n 0:Nat),.int .i64 0]))):=hid fun W hb=>by
        have:=Nth_ok sa.wa sa.wc s.ws hin.u s.ks.length n p4 xo hl (may_w kn) W (hin.below hb).w (hT.below hb);rwa [nthV,nthE,if_pos hn,if_pos hn] at this
       unfold takN;generalize (plsW s.ws 0 s.ks.length).getD n 0=at_ at *;obtain ⟨kz,gz,zl,-,-,hzm⟩:=take_in kn hin.u hat hbit;have hzu:=gz.u;have CL:Hid (∀W,Below w.heap.size w W→Calls Tryd.prog 45 #[slV s sa,.int .i64 at_] W (FreshSl2 W (tkC s at_) (.int .i64 0))):=hid fun W hb=>by
        have AT:∀W',Below W.heap.size W W'→Calls Tryd.prog 74 #[slV s sa,.int .i64 at_] W' (AnsB W' (.tuple #[.agg #[.int .i64 (s.ks.getD at_ 0),.int .i64 (s.vs.getD at_ 0)],.int .i64 0])):=fun W' hb'=>by
         have:=At4_ok s sa hl hl2 at_ W' ((hin.below hb).below hb');have e1:askS s at_=0:=by rw [askS,if_pos kn.may,if_pos ⟨by omega,by omega⟩]
         rw [atS,if_pos e1,Int.toNat_natCast,if_pos hbit] at this;exact this
        have hv:=g.elv;have hcl:=g.elc;have hwl:=g.elw;have hpH:=Nat.two_pow_pos H;have hs4:=g.s4;have TW:∀W',Below W.heap.size W W'→Calls Tryd.prog 29 #[slV s sa] W' (FreshSlN W' s):=fun W' hb'=>slTwin_ok s sa W' ((hin.below hb).below hb') xo xo xo xo
        have hvk:s.vs.length=s.ks.length:=hv;unfold slV at AT TW ⊢;rw [hvk] at AT TW ⊢;exact slClr_core W s.seg sa.wa sa.ka sa.va sa.ca sa.wc sa.kc sa.vc sa.cc s.ws.length s.ks.length s.cs.length s.laid s at_ (2^a) (s.ks.getD at_ 0) (s.vs.getD at_ 0) rfl rfl rfl rfl hvk rfl xo xo xo p4 xo p3 g.seg g.s4 hat (by have:=g.wn;omega) (by have:=g.cn;rw [hcl];exact this) g.ok (hid AT) (hid TW)
       have hz1:1≤(tkC s at_).ks.length:=xo;have HI:Hid (∀W (zb:SlA),Below w.heap.size w W→SlIn W (tkC s at_) zb→(tkC s at_).cs.length≤zb.cc→W.cell? ⟨w.heap.size,0,none⟩=some (.int .u8 c.tag)→W.cell? ⟨w.heap.size,1,none⟩=some (.int .i64 c.most)→W.cell? ⟨w.heap.size,2,none⟩=some (.int .i64 c.seg)→W.cell? ⟨w.heap.size,3,none⟩=some (.int .i64 c.least)→W.cell? ⟨w.heap.size,4,none⟩=some (.int .i64 c.den)→W.cell? ⟨w.heap.size,5,none⟩=some (.int .i64 c.ll)→W.cell? ⟨w.heap.size,6,none⟩=some (.int .i64 c.rl)→W.cell? ⟨w.heap.size,7,none⟩=some (.int .i64 c.rh)→W.cell? ⟨w.heap.size,8,none⟩=some (.int .i64 c.lh)→W.cell? ⟨w.heap.size+1,0,none⟩=some (.int .i64 (tkC s at_).seg)→W.cell? ⟨w.heap.size+1,1,none⟩=some (.slice zb.wa (tkC s at_).ws.length zb.wc)→W.cell? ⟨w.heap.size+1,2,none⟩=some (.slice zb.ka (tkC s at_).ks.length zb.kc)→W.cell? ⟨w.heap.size+1,3,none⟩=some (.slice zb.va (tkC s at_).vs.length zb.vc)→W.cell? ⟨w.heap.size+1,4,none⟩=some (.slice zb.ca (tkC s at_).cs.length zb.cc)→W.cell? ⟨w.heap.size+1,5,none⟩=some (.int .u64 (tkC s at_).laid)→Calls Tryd.prog 38 #[.agg #[.int .i64 (tkC s at_).seg,.slice zb.wa (tkC s at_).ws.length zb.wc,.slice zb.ka (tkC s at_).ks.length zb.kc,.slice zb.va (tkC s at_).vs.length zb.vc,.slice zb.ca (tkC s at_).cs.length zb.cc,.int .u64 (tkC s at_).laid],.int .i64 at_,.func (.func 46) #[] #[.pointer (some ⟨w.heap.size,0,none⟩),.pointer (some ⟨w.heap.size+1,0,none⟩)]] W (HighR W a at_ H (topI (unfB c (tkC s at_) a H at_) (H+1)))):=hid fun W zb hb hz hzc q0 q1 q2 q3 q4 q5 q6 q7 q8 r0 r1 r2 r3 r4 r5=>by
        refine highest_ok (tkC s at_).seg _ _ _ _ _ _ _ _ _ _ _ _ _ a H at_ p6 (unfB c (tkC s at_) a H at_) (fun h=>inH (tkC s at_) a h at_) 46 _ enters_take1 W (hid fun W' hb'=> ?_) (hid fun h hh W' hb'=> ?_) (hid fun h hh W' hb'=> ?_)
        · exact Path_ok (tkC s at_).seg (tkC s at_).ks.length a H (kz.win hs) at_ xo W'
        · exact among_win kz hzu zb hzc hh xo W' (hz.below hb')
        · have b:=inH_bd kz hzu hh (at_:=at_) xo;have cc:∀ {p:Addr} {v:Value},W.cell? p=some v→W'.cell? p=some v:=fun h=>(hb'.cell (World.block_lt_of_cell? _ _ h)).trans h
          obtain ⟨hwd,-,-,-⟩:=kz.cap.wd hh;rw [←Nat.pow_add] at hwd;exact takeIs_ok c (tkC s at_).seg _ _ _ _ _ _ _ _ _ _ _ _ _ h (inH (tkC s at_) a h at_) (sprB c (tkC s at_).ks.length H h (inH (tkC s at_) a h at_)) 0 w.heap.size (w.heap.size+1) W' (cc q0) (cc q1) (cc q2) (cc q3) (cc q4) (cc q5) (cc q6) (cc q7) (cc q8) (cc r0) (cc r1) (cc r2) (cc r3) (cc r4) (cc r5) (hid fun W'' hb''=>Sparse_in c (tkC s at_).ks.length a H h kz.cap hh (inH (tkC s at_) a h at_) xo xo W'')
       have hLn:(prs (tkC s at_) 0 (tkC s at_).ks.length).length=manyC (tkC s at_):=prs_length _ _ _;dsimp only;generalize tkC s at_=z at *;obtain ⟨z1,z2,z3,z4,z5,z6⟩:=kz.pows;obtain ⟨g',hlw'⟩:=gapN_gd kz hzu;have lz1:z.ws.length≤1000000000000:=by have:=g'.elw;omega
       have lz2:z.ks.length≤1000000000000:=xo;by_cases ht1:topI (unfB c z a H at_) (H+1)= -1
       · rw [if_pos ht1];exact gTake_none c s.seg _ _ _ _ _ _ _ _ _ _ _ _ _ a H at_ n _ _ z hzu hm ht1 w CK AM NT CL HI
       · rw [if_neg ht1];by_cases ht:topI (unfB c z a H at_) (H+1)=H
         · rw [if_pos ht];have hcn:manyC z≤z.ks.length:=by have:=cntW_le z.ws 0 z.ks.length;unfold manyC;omega
           obtain ⟨H',n1,n2,n3,n4⟩:=nar_ok (m:=manyC z) 20 z.ks.length a H kz.cap xo xo;have hnar:narF c (manyC z) 20 z.ks.length=((2^a*2^H':Nat):Int):=n2.all;have hbig:=n2.big;have hdiv:(narF c (manyC z) 20 z.ks.length).toNat/2^a=2^H':=by rw [hnar,Int.toNat_natCast,Nat.mul_div_cancel_left _ xo]
           rw [hdiv];have hle:manyC z≤2^a*2^H':=by rw [hnar] at n3;omega
           refine gTake_wide c s.seg _ _ _ _ _ _ _ _ _ _ _ _ _ a H at_ n _ _ z hzu hm (narF c (manyC z) 20 z.ks.length) (prs z 0 z.ks.length) _ z6 ht w CK AM NT CL HI (hid fun W zb hb hz=> ?_) (hid fun W zb hb hz hzc=> ?_) (hid fun la pl W zb hb hz hla=> ?_)
           · have:=Pairs_ok z zb lz1 lz2 0 z.ks.length W hz;have pe:partE z 0 z.ks.length=0:=by rw [partE,if_pos kz.may,if_pos xo]
             rw [prsR,pe,if_pos rfl] at this;exact this
           · exact narrower_ok c z.seg _ _ _ _ _ _ _ _ _ _ _ _ _ a H (manyC z) kz.cap hcn W (hid fun W' hb'=>among_all kz hzu zb hzc W' (hz.below hb'))
           · rw [hnar];exact Into_ok g' kz.may zb (2^H') (Nat.two_pow_pos H') (pwB_two a) (pwB_two H') hbig (prs z 0 z.ks.length) (by rw [hLn];exact hle) la pl W hz hla
         · rw [if_neg ht];obtain ⟨h,eh,hh⟩:∃h:Nat,topI (unfB c z a H at_) (H+1)+1=h∧h≤H:=by
            have:=topI_bd (unfB c z a H at_) (H+1);exact ⟨(topI (unfB c z a H at_) (H+1)+1).toNat,by omega,by omega⟩
           have hht:(topI (unfB c z a H at_) (H+1)+1).toNat=h:=xo;simp only [hht];have b:=wnd_bd (a:=a) (at_:=at_) hh (by rw [←kz.nk];omega);have e3:=wnd_seg a h at_;have hhi:(wnd a h at_+1)*2^(a+h)≤z.ks.length:=by rw [kz.nk];exact b.2.2.2
           have hlen:=prs_length z (wnd a h at_*2^(a+h)) ((wnd a h at_+1)*2^(a+h));have hc2:=cntW_le z.ws (wnd a h at_*2^(a+h)) ((wnd a h at_+1)*2^(a+h));have hlh:wnd a h at_*2^(a+h)≤(wnd a h at_+1)*2^(a+h):=Nat.mul_le_mul_right _ xo;refine gTake_even c s.seg _ _ _ _ _ _ _ _ _ _ _ _ _ a H at_ n _ _ z hzu hm h _ hh z6 eh ht1 ht w CK AM NT CL HI (hid fun W zb hb hz=> ?_);have ehi:((wnd a h at_*2^(a+h):Nat):Int)+((2^(a+h):Nat):Int)=(((wnd a h at_+1)*2^(a+h):Nat):Int):=by rw [←Int.natCast_add,Nat.succ_mul]
           rw [ehi];refine Even_core z.seg _ _ _ _ _ _ _ _ _ _ _ _ _ _ _ (prs z (wnd a h at_*2^(a+h)) ((wnd a h at_+1)*2^(a+h))) _ W (hid fun W' hb'=> ?_) (hid fun la pl W' hb' hla=> ?_)
           · have:=Pairs_ok z zb lz1 lz2 (wnd a h at_*2^(a+h):Nat) ((wnd a h at_+1)*2^(a+h):Nat) W' (hz.below hb');have pe:partE z (wnd a h at_*2^(a+h):Nat) ((wnd a h at_+1)*2^(a+h):Nat)=0:=by rw [partE,if_pos kz.may,if_pos ⟨Int.natCast_nonneg _,Int.ofNat_le.2 hlh,Int.ofNat_le.2 hhi⟩]
             rw [prsR,pe,if_pos rfl] at this;exact this
           · exact over_ok g' kz.may zb _ _ hlh hhi _ (by rw [hlen];exact hc2) la pl W' (hz.below hb') hla
 · have e:takE c s k=gapE c s:=by rw [takE,if_neg h0]
   rw [takC,e,if_neg h0];exact gTake_err c s.seg _ _ _ _ _ _ _ _ _ _ _ _ _ k _ h0 w CK
end
section
open Go.RowKit Go.Shelf Go.Sort
attribute [local go_sem] Oper.semAt_some
end
section
open Go.RowKit Go.Shelf Go.Sort
end
section
open Go.RowKit
end
section
open Go.RowKit Go.Shelf Go.Sort
attribute [local go_sem] Oper.semAt_some
end
section
open Go.RowKit Go.Shelf
attribute [local go_sem] Oper.semAt_some
end
section
open Go.RowKit
theorem least_nums {c:Cfg} (h:cfMay c=true):∃S M:Nat,c.seg=S∧c.least=((S*M:Nat):Int)∧4≤S∧S≤64∧1≤M∧S*M≤65536∧pwB (S:Int)=true∧pwB (M:Int)=true:=by
 have f:=cfHead_facts (cfMay_head h);obtain ⟨s1,s2,a,ea⟩:=powB_nat f.2.2.2.2.1;obtain ⟨l1,l2,b,eb⟩:=powB_nat f.2.2.2.2.2.1;have hab:a≤b:=(Nat.pow_le_pow_iff_right (a:=2) xo).1 xo;have e:2^b=2^a*2^(b-a):=by rw [←Nat.pow_add,show a+(b-a)=b by omega]
 exact ⟨2^a,2^(b-a),ea,by rw [eb,e],by omega,by omega,Nat.two_pow_pos _,by rw [←e];omega,pwB_two _,pwB_two _⟩
def emptyC (c:Cfg):SlC:=emptyL c.seg.toNat (c.least.toNat/c.seg.toNat) 0
def newC (c:Cfg):SlC:=if cfMay c=true then emptyC c else nilC
def newF (c:Cfg):Cfg:=if cfMay c=true then c else ⟨0,0,0,0,0,0,0,0,0⟩
theorem emptyC_eq {c:Cfg} {S M:Nat} (h1:c.seg=S) (h2:c.least=((S*M:Nat):Int)) (h4:4≤S):emptyC c=emptyL S M 0:=by
 rw [emptyC,h1,h2,Int.toNat_natCast,Int.toNat_natCast,Nat.mul_div_cancel_left _ xo]
theorem newSl_ok {c:Cfg} (h:cfMay c=true) (w:World):Calls Tryd.prog 54 #[.int .i64 c.seg,.int .i64 c.least] w (FreshSl2 w (emptyC c) (.int .i64 0)):=by
 obtain ⟨S,M,h1,h2,h4,h6,hM,hm,pS,pM⟩:=least_nums h;obtain ⟨q1,q2,q3,q4⟩:=new_nums (M:=M) h4 hm;rw [emptyC_eq h1 h2 h4,h1,h2];have ge:=emptyL_gd h4 h6 hM hm 0;have gm:=gd_may ge pS pM rfl;refine slNew_core w S (S*M) ((S*M+63)/64) M h4 hm h6 q1 q2 xo q4 (hid fun W'=> ?_);have:=fits_ok (S:Int) ((S*M:Nat):Int) W';rwa [gd_fit ge gm] at this
theorem gapNew_err (c:Cfg) (e:Int) (he:e≠0) (w:World) (CK:Hid (∀W,Calls Tryd.prog 50 #[.agg #[.int .u8 c.tag,.int .i64 c.most,.int .i64 c.seg,.int .i64 c.least,.int .i64 c.den,.int .i64 c.ll,.int .i64 c.rl,.int .i64 c.rh,.int .i64 c.lh]] W (AnsB W (.int .i64 e)))):
    Calls Tryd.prog 28 #[.agg #[.int .u8 c.tag,.int .i64 c.most,.int .i64 c.seg,.int .i64 c.least,.int .i64 c.den,.int .i64 c.ll,.int .i64 c.rl,.int .i64 c.rh,.int .i64 c.lh]] w (FreshSl2 w nilC (.int .i64 e)):=by
 have ge:(e != 0)=true:=by simpa using he
 clear he;go_enter Tryd.func28,Tryd.ntmps28
 go_wp2_with fail
 refine (CK.out _).mono ?_;rintro e w1 ⟨rfl,hb1⟩;have hz_w1:=hb1.size;try simp only [World.size_alloc,World.size_setCell] at hz_w1
 have hh:=bc9 hb1 (au9 (al9 (b:=w.heap.size) xsi));obtain ⟨c_t0,c_t1,c_t2,c_t3,c_t4,c_t5,c_t6,c_t7,c_t8⟩:=hh;have z_t:=blt hb1 (auz (alz (b:=w.heap.size) xsi));have hh:=bc6 hb1 (al6 (b:=w.heap.size+1) xsi);obtain ⟨c_r0,c_r1,c_r2,c_r3,c_r4,c_r5⟩:=hh;have hh:=bf6 hb1 (alz (b:=w.heap.size+1) xsi) (alf6 (b:=w.heap.size+1) xsi);obtain ⟨f_r0,f_r1,f_r2,f_r3,f_r4,f_r5⟩:=hh;have z_r:=blt hb1 (alz (b:=w.heap.size+1) xsi);have hB1:Below w.heap.size w w1:=xbel;go_wp2
 have HC:=hid (six_some ⟨c_r0,c_r1,c_r2,c_r3,c_r4,c_r5⟩);exact end_row (W:=w1) (b:=w.heap.size+1) [.int .i64 0,.slice none 0 0,.slice none 0 0,.slice none 0 0,.slice none 0 0,.int .u64 0] HC rfl rfl (fun _ h=>results_ct rfl rfl (run_loadVar_many _ Tryd.underlying29 rfl xk h)) fun _ s=>⟨_,_,_,_,rfl,World.ownsRow_nil _ _ _ _,World.ownsRow_nil _ _ _ _,World.ownsRow_nil _ _ _ _,World.ownsRow_nil _ _ _ _,s.be hB1⟩
theorem gapNew_in (c:Cfg) (d:SlC) (w:World) (CK:Hid (∀W,Calls Tryd.prog 50 #[.agg #[.int .u8 c.tag,.int .i64 c.most,.int .i64 c.seg,.int .i64 c.least,.int .i64 c.den,.int .i64 c.ll,.int .i64 c.rl,.int .i64 c.rh,.int .i64 c.lh]] W (AnsB W (.int .i64 0)))) (NW:Hid (∀W,Calls Tryd.prog 54 #[.int .i64 c.seg,.int .i64 c.least] W (FreshSl2 W d (.int .i64 0)))):
    Calls Tryd.prog 28 #[.agg #[.int .u8 c.tag,.int .i64 c.most,.int .i64 c.seg,.int .i64 c.least,.int .i64 c.den,.int .i64 c.ll,.int .i64 c.rl,.int .i64 c.rh,.int .i64 c.lh]] w (FreshSl2 w d (.int .i64 0)):=by
 go_enter Tryd.func28,Tryd.ntmps28
 go_wp2_with fail
 refine (CK.out _).mono ?_;rintro e w1 ⟨rfl,hb1⟩;have hz_w1:=hb1.size;try simp only [World.size_alloc,World.size_setCell] at hz_w1
 have hh:=bc9 hb1 (au9 (al9 (b:=w.heap.size) xsi));obtain ⟨c_t0,c_t1,c_t2,c_t3,c_t4,c_t5,c_t6,c_t7,c_t8⟩:=hh;have z_t:=blt hb1 (auz (alz (b:=w.heap.size) xsi));have hh:=bc6 hb1 (al6 (b:=w.heap.size+1) xsi);obtain ⟨c_r0,c_r1,c_r2,c_r3,c_r4,c_r5⟩:=hh;have hh:=bf6 hb1 (alz (b:=w.heap.size+1) xsi) (alf6 (b:=w.heap.size+1) xsi);obtain ⟨f_r0,f_r1,f_r2,f_r3,f_r4,f_r5⟩:=hh;have z_r:=blt hb1 (alz (b:=w.heap.size+1) xsi);have hB1:Below w.heap.size w w1:=xbel;have hz1:=z_r;go_wp2_with fail
 refine (NW.out _).mono ?_;rintro e w2 ⟨v1,v2,v3,v4,rfl,p1,p2,p3,p4,hb2⟩;have hz_w2:=hb2.size;simp (disch:=omega) only [xcl hb2,xfr hb2] at *;replace z_t:=blt hb2 z_t;replace z_r:=blt hb2 z_r;have hB2:=below_via hb2 hB1 hB1.size;obtain ⟨a1,k1,rfl,-,-,-,-,-⟩:=row_of_owns p1;obtain ⟨a2,k2,rfl,-,-,-,-,-⟩:=row_of_owns p2;obtain ⟨a3,k3,rfl,-,-,-,-,-⟩:=row_of_owns p3;obtain ⟨a4,k4,rfl,-,-,-,-,-⟩:=row_of_owns p4;have HP:=hid (And.intro p1 (And.intro p2 (And.intro p3 p4)));clear p1 p2 p3 p4;go_wp2
 have HC:=hid (six_some ⟨c_r0,c_r1,c_r2,c_r3,c_r4,c_r5⟩);exact end_row (W:=w2) (b:=w.heap.size+1) [.int .i64 d.seg,.slice a1 d.ws.length k1,.slice a2 d.ks.length k2,.slice a3 d.vs.length k3,.slice a4 d.cs.length k4,.int .u64 d.laid] HC rfl rfl (fun _ h=>results_ct rfl rfl (run_loadVar_many _ Tryd.underlying29 rfl xk h)) fun _ s=>⟨_,_,_,_,rfl,s.ow hz1 HP.out.1,s.ow hz1 HP.out.2.1,s.ow hz1 HP.out.2.2.1,s.ow hz1 HP.out.2.2.2,s.be hB2⟩
theorem gapNew_ok (c:Cfg) (w:World):Calls Tryd.prog 28 #[.agg #[.int .u8 c.tag,.int .i64 c.most,.int .i64 c.seg,.int .i64 c.least,.int .i64 c.den,.int .i64 c.ll,.int .i64 c.rl,.int .i64 c.rh,.int .i64 c.lh]] w (FreshSl2 w (newC c) (.int .i64 (cfE c))):=by
 cases h:cfMay c with
 | true=>
  have e:cfE c=0:=cfE_ok h;rw [newC,if_pos h,e];exact gapNew_in c (emptyC c) w (hid fun W=>e ▸ Check5_ok c W) (hid fun W=>newSl_ok h W)
 | false=>
  have e:cfE c=50:=by simp [cfE,h]
  rw [newC,if_neg (by simp [h]),e];exact gapNew_err c 50 xdd w (hid fun W=>e ▸ Check5_ok c W)
theorem pmaNew_err (c:Cfg) (d:SlC) (e:Int) (he:e≠0) (w:World) (NG:Hid (∀W,Calls Tryd.prog 28 #[.agg #[.int .u8 c.tag,.int .i64 c.most,.int .i64 c.seg,.int .i64 c.least,.int .i64 c.den,.int .i64 c.ll,.int .i64 c.rl,.int .i64 c.rh,.int .i64 c.lh]] W (FreshSl2 W d (.int .i64 e)))):
    Calls Tryd.prog 16 #[.agg #[.int .u8 c.tag,.int .i64 c.most,.int .i64 c.seg,.int .i64 c.least,.int .i64 c.den,.int .i64 c.ll,.int .i64 c.rl,.int .i64 c.rh,.int .i64 c.lh]] w (FreshPm2 w ⟨0,0,0,0,0,0,0,0,0⟩ nilC (.int .i64 e)):=by
 have ge:(e != 0)=true:=by simpa using he
 clear he;go_enter Tryd.func16,Tryd.ntmps16
 go_wp2_with fail
 refine (NG.out _).mono ?_;rintro e w1 ⟨v1,v2,v3,v4,rfl,p1,p2,p3,p4,hb1⟩;have hz_w1:=hb1.size;try simp only [World.size_alloc,World.size_setCell] at hz_w1
 have hh:=bc9 hb1 (au9 (al9 (b:=w.heap.size) xsi));obtain ⟨c_t0,c_t1,c_t2,c_t3,c_t4,c_t5,c_t6,c_t7,c_t8⟩:=hh;have z_t:=blt hb1 (auz (alz (b:=w.heap.size) xsi));have hh:=bc15 hb1 (al15 (b:=w.heap.size+1) xsi);obtain ⟨c_r0,c_r1,c_r2,c_r3,c_r4,c_r5,c_r6,c_r7,c_r8,c_r9,c_r10,c_r11,c_r12,c_r13,c_r14⟩:=hh;have hh:=bf15 hb1 (alz (b:=w.heap.size+1) xsi) (alf15 (b:=w.heap.size+1) xsi);obtain ⟨f_r0,f_r1,f_r2,f_r3,f_r4,f_r5,f_r6,f_r7,f_r8,f_r9,f_r10,f_r11,f_r12,f_r13,f_r14⟩:=hh;have z_r:=blt hb1 (alz (b:=w.heap.size+1) xsi);have hB1:Below w.heap.size w w1:=xbel;obtain ⟨a1,k1,rfl,-,-,-,-,-⟩:=row_of_owns p1;obtain ⟨a2,k2,rfl,-,-,-,-,-⟩:=row_of_owns p2;obtain ⟨a3,k3,rfl,-,-,-,-,-⟩:=row_of_owns p3;obtain ⟨a4,k4,rfl,-,-,-,-,-⟩:=row_of_owns p4;clear p1 p2 p3 p4;go_upto_region 2 with (fail)
 generalize hw2:w1.alloc _=w2;have hh:=ec9 hw2 (au9 (⟨c_t0,c_t1,c_t2,c_t3,c_t4,c_t5,c_t6,c_t7,c_t8⟩));clear c_t0 c_t1 c_t2 c_t3 c_t4 c_t5 c_t6 c_t7 c_t8;obtain ⟨c_t0,c_t1,c_t2,c_t3,c_t4,c_t5,c_t6,c_t7,c_t8⟩:=hh;replace z_t:=elt hw2 (auz (z_t));have hh:=ec15 hw2 (au15 (⟨c_r0,c_r1,c_r2,c_r3,c_r4,c_r5,c_r6,c_r7,c_r8,c_r9,c_r10,c_r11,c_r12,c_r13,c_r14⟩));clear c_r0 c_r1 c_r2 c_r3 c_r4 c_r5 c_r6 c_r7 c_r8 c_r9 c_r10 c_r11 c_r12 c_r13 c_r14;obtain ⟨c_r0,c_r1,c_r2,c_r3,c_r4,c_r5,c_r6,c_r7,c_r8,c_r9,c_r10,c_r11,c_r12,c_r13,c_r14⟩:=hh;have hh:=ef15 hw2 (auf15 z_r ⟨f_r0,f_r1,f_r2,f_r3,f_r4,f_r5,f_r6,f_r7,f_r8,f_r9,f_r10,f_r11,f_r12,f_r13,f_r14⟩);clear f_r0 f_r1 f_r2 f_r3 f_r4 f_r5 f_r6 f_r7 f_r8 f_r9 f_r10 f_r11 f_r12 f_r13 f_r14;obtain ⟨f_r0,f_r1,f_r2,f_r3,f_r4,f_r5,f_r6,f_r7,f_r8,f_r9,f_r10,f_r11,f_r12,f_r13,f_r14⟩:=hh;replace z_r:=elt hw2 (auz (z_r));have hB2:Below w.heap.size w w2:=by rw [←hw2];exact hB1.alloc hB1.size _
 clear hw2;go_wp2
 have HC:=hid (fifteen_some ⟨c_r0,c_r1,c_r2,c_r3,c_r4,c_r5,c_r6,c_r7,c_r8,c_r9,c_r10,c_r11,c_r12,c_r13,c_r14⟩);exact end_row (W:=w2) (b:=w.heap.size+1) [.int .u8 0,.int .i64 0,.int .i64 0,.int .i64 0,.int .i64 0,.int .i64 0,.int .i64 0,.int .i64 0,.int .i64 0,.int .i64 0,.slice none 0 0,.slice none 0 0,.slice none 0 0,.slice none 0 0,.int .u64 0] HC rfl rfl (fun _ h=>results_ct rfl rfl (run_loadVar_many _ Tryd.underlying31 rfl xk h)) fun _ s=>⟨_,_,_,_,rfl,World.ownsRow_nil _ _ _ _,World.ownsRow_nil _ _ _ _,World.ownsRow_nil _ _ _ _,World.ownsRow_nil _ _ _ _,s.be hB2⟩
theorem pmaNew_in (c:Cfg) (d:SlC) (w:World) (NG:Hid (∀W,Calls Tryd.prog 28 #[.agg #[.int .u8 c.tag,.int .i64 c.most,.int .i64 c.seg,.int .i64 c.least,.int .i64 c.den,.int .i64 c.ll,.int .i64 c.rl,.int .i64 c.rh,.int .i64 c.lh]] W (FreshSl2 W d (.int .i64 0)))):
    Calls Tryd.prog 16 #[.agg #[.int .u8 c.tag,.int .i64 c.most,.int .i64 c.seg,.int .i64 c.least,.int .i64 c.den,.int .i64 c.ll,.int .i64 c.rl,.int .i64 c.rh,.int .i64 c.lh]] w (FreshPm2 w c d (.int .i64 0)):=by
 go_enter Tryd.func16,Tryd.ntmps16
 go_wp2_with fail
 refine (NG.out _).mono ?_;rintro e w1 ⟨v1,v2,v3,v4,rfl,p1,p2,p3,p4,hb1⟩;have hz_w1:=hb1.size;try simp only [World.size_alloc,World.size_setCell] at hz_w1
 have hh:=bc9 hb1 (au9 (al9 (b:=w.heap.size) xsi));obtain ⟨c_t0,c_t1,c_t2,c_t3,c_t4,c_t5,c_t6,c_t7,c_t8⟩:=hh;have z_t:=blt hb1 (auz (alz (b:=w.heap.size) xsi));have hh:=bc15 hb1 (al15 (b:=w.heap.size+1) xsi);obtain ⟨c_r0,c_r1,c_r2,c_r3,c_r4,c_r5,c_r6,c_r7,c_r8,c_r9,c_r10,c_r11,c_r12,c_r13,c_r14⟩:=hh;have hh:=bf15 hb1 (alz (b:=w.heap.size+1) xsi) (alf15 (b:=w.heap.size+1) xsi);obtain ⟨f_r0,f_r1,f_r2,f_r3,f_r4,f_r5,f_r6,f_r7,f_r8,f_r9,f_r10,f_r11,f_r12,f_r13,f_r14⟩:=hh;have z_r:=blt hb1 (alz (b:=w.heap.size+1) xsi);have hB1:Below w.heap.size w w1:=xbel;obtain ⟨a1,k1,rfl,-,-,-,-,-⟩:=row_of_owns p1;obtain ⟨a2,k2,rfl,-,-,-,-,-⟩:=row_of_owns p2;obtain ⟨a3,k3,rfl,-,-,-,-,-⟩:=row_of_owns p3;obtain ⟨a4,k4,rfl,-,-,-,-,-⟩:=row_of_owns p4;go_upto_region 2 with (fail)
 generalize hw2:w1.alloc _=w2;have hh:=ec9 hw2 (au9 (⟨c_t0,c_t1,c_t2,c_t3,c_t4,c_t5,c_t6,c_t7,c_t8⟩));clear c_t0 c_t1 c_t2 c_t3 c_t4 c_t5 c_t6 c_t7 c_t8;obtain ⟨c_t0,c_t1,c_t2,c_t3,c_t4,c_t5,c_t6,c_t7,c_t8⟩:=hh;replace z_t:=elt hw2 (auz (z_t));have hh:=ec15 hw2 (au15 (⟨c_r0,c_r1,c_r2,c_r3,c_r4,c_r5,c_r6,c_r7,c_r8,c_r9,c_r10,c_r11,c_r12,c_r13,c_r14⟩));clear c_r0 c_r1 c_r2 c_r3 c_r4 c_r5 c_r6 c_r7 c_r8 c_r9 c_r10 c_r11 c_r12 c_r13 c_r14;obtain ⟨c_r0,c_r1,c_r2,c_r3,c_r4,c_r5,c_r6,c_r7,c_r8,c_r9,c_r10,c_r11,c_r12,c_r13,c_r14⟩:=hh;have hh:=ef15 hw2 (auf15 z_r ⟨f_r0,f_r1,f_r2,f_r3,f_r4,f_r5,f_r6,f_r7,f_r8,f_r9,f_r10,f_r11,f_r12,f_r13,f_r14⟩);clear f_r0 f_r1 f_r2 f_r3 f_r4 f_r5 f_r6 f_r7 f_r8 f_r9 f_r10 f_r11 f_r12 f_r13 f_r14;obtain ⟨f_r0,f_r1,f_r2,f_r3,f_r4,f_r5,f_r6,f_r7,f_r8,f_r9,f_r10,f_r11,f_r12,f_r13,f_r14⟩:=hh;replace z_r:=elt hw2 (auz (z_r));have hh:=ec6 hw2 (al6 (b:=w1.heap.size) xsi);obtain ⟨c_o0,c_o1,c_o2,c_o3,c_o4,c_o5⟩:=hh;have z_o:=elt hw2 (alz (b:=w1.heap.size) xsi);have hb2:Below w1.heap.size w1 w2:=by rw [←hw2];exact br.alloc (Nat.le_refl _) _
 have hB2:=below_via hb2 hB1 hB1.size;have hz1:w.heap.size+1<w.heap.size+2:=xo;simp only [World.size_alloc] at p1 p2 p3 p4;have HP:=hid (And.intro (owns_below p1 hb2) (And.intro (owns_below p2 hb2) (And.intro (owns_below p3 hb2) (owns_below p4 hb2))));clear hw2 p1 p2 p3 p4;go_wp2
 have HC:=hid (fifteen_some ⟨c_r0,c_r1,c_r2,c_r3,c_r4,c_r5,c_r6,c_r7,c_r8,c_r9,c_r10,c_r11,c_r12,c_r13,c_r14⟩);exact end_row (W:=w2) (b:=w.heap.size+1) [.int .u8 c.tag,.int .i64 c.most,.int .i64 c.seg,.int .i64 c.least,.int .i64 c.den,.int .i64 c.ll,.int .i64 c.rl,.int .i64 c.rh,.int .i64 c.lh,.int .i64 d.seg,.slice a1 d.ws.length k1,.slice a2 d.ks.length k2,.slice a3 d.vs.length k3,.slice a4 d.cs.length k4,.int .u64 d.laid] HC rfl rfl (fun _ h=>results_ct rfl rfl (run_loadVar_many _ Tryd.underlying31 rfl xk h)) fun _ s=>⟨_,_,_,_,rfl,s.ow hz1 HP.out.1,s.ow hz1 HP.out.2.1,s.ow hz1 HP.out.2.2.1,s.ow hz1 HP.out.2.2.2,s.be hB2⟩
theorem pmaNew_ok (c:Cfg) (w:World):Calls Tryd.prog 16 #[.agg #[.int .u8 c.tag,.int .i64 c.most,.int .i64 c.seg,.int .i64 c.least,.int .i64 c.den,.int .i64 c.ll,.int .i64 c.rl,.int .i64 c.rh,.int .i64 c.lh]] w (FreshPm2 w (newF c) (newC c) (.int .i64 (cfE c))):=by
 cases h:cfMay c with
 | true=>
  have e:cfE c=0:=cfE_ok h;have hn:newC c=emptyC c:=by rw [newC,if_pos h]
  rw [newF,if_pos h,e];exact pmaNew_in c (newC c) w (hid fun W=>e ▸ gapNew_ok c W)
 | false=>
  have e:cfE c=50:=by simp [cfE,h]
  rw [newF,if_neg (by simp [h]),newC,if_neg (by simp [h]),e];exact pmaNew_err c (newC c) 50 xdd w (hid fun W=>e ▸ gapNew_ok c W)
end
section
open Go.RowKit Go.Shelf Go.Sort
attribute [local go_sem] Oper.semAt_some
end
section
open Go.RowKit
end
section
open Go.RowKit
theorem seg_gd {c:Cfg} {s:SlC} {a H:Nat} (kn:GapN c s a H) (hu:U64s s.ws):SlGd s (2^a) s.ws.length s.ks.length s.cs.length:=by
 obtain ⟨g,-⟩:=gapN_gd kn hu;rw [g.elw,g.elc];exact g
theorem pmLay_ok {c:Cfg} {s:SlC} (hg:gapE c s=0) (sa:SlA) (i:Nat) (hi:i<s.ks.length) (x y:Int) (w:World) (hin:SlIn w s sa):
    Calls Tryd.prog 22 #[slV s sa,.int .i64 i,.agg #[.int .i64 x,.int .i64 y]] w (FreshSl2 w (lyC s i x y) (.int .i64 0)):=by
 obtain ⟨hc,a,H,kn,hs,hmost,hden⟩:=gap_zero hg;obtain ⟨g0,hlw⟩:=gapN_gd kn hin.u;obtain ⟨p1,p2,p3,p4,p5,p6⟩:=kn.pows;have g:=seg_gd kn hin.u;have hew:=g0.elw;have hvk:s.vs.length=s.ks.length:=g.elv;have hpH:=Nat.two_pow_pos H;have hcl:s.cs.length=2^H:=g0.elc;have CK:=hid (fun W (hb:Below w.heap.size w W)=>slCheck_ok s sa xo xo W (hin.below hb));have hE:slE s=0:=by rw [slE,if_pos kn.may]
 rw [hE] at CK;have TW:=hid (fun W (hb:Below w.heap.size w W)=>slTwin_ok s sa W (hin.below hb) xo xo xo xo);have hok:=g.ok;have hwn:=g.wn;have hcn:=g.cn;have hsg:=g.seg;dsimp only [slV] at *;rw [hvk] at CK TW ⊢;exact slLayW_core w s.seg sa.wa sa.ka sa.va sa.ca sa.wc sa.kc sa.vc sa.cc s.ws.length s.ks.length s.cs.length s.laid s i (2^a) x y rfl rfl rfl rfl hvk rfl xo xo xo xo xo xo hsg xo hi hwn hcn hok CK TW
theorem pmaPut_ok (c:Cfg) (s:SlC) (sa:SlA) (key val:Int) (hl:s.ws.length≤1000000000000) (hl2:s.ks.length≤1000000000000) (hcc:s.cs.length≤sa.cc) (w:World) (hin:SlIn w s sa) (hT:TabAt w):
    Calls Tryd.prog 10 #[pmV c s sa,.int .i64 key,.int .i64 val] w (FreshPm2 w (pPutF c s key) (pPutC c s key val) (.int .i64 (pPutE c s key))):=by
 have CK:Hid (∀W,Below w.heap.size w W→Calls Tryd.prog 13 #[pmV c s sa] W (AnsB W (.int .i64 (pmE c s)))):=hid fun W hb=>pmaCheck_ok c s sa hl hl2 hcc W (hin.below hb)
 by_cases h0:pmE c s=0
 · obtain ⟨hg,hs⟩:=pm_zero h0;rw [h0] at CK;have FN:Hid (∀W,Below w.heap.size w W→Calls Tryd.prog 20 #[slV s sa,.int .i64 key] W (AnsB W (.tuple #[.int .i64 (findV s key).1,.int .i64 (findV s key).2]))):=hid fun W hb=>seekFind_ok s sa key hl hl2 W (hin.below hb) (hT.below hb)
   cases hb:hasB s key with
   | true=>
    obtain ⟨e1,h1,h2,h3,-⟩:=has_yes hs hb;have e:pPutE c s key=0:=by rw [pPutE,if_pos h0,if_pos hb]
    rw [e1] at FN;rw [pPutF,if_pos e,pPutC,if_pos e,if_pos hb,e];exact pmaPut_lay c s _ sa.wa sa.ka sa.va sa.ca sa.wc sa.kc sa.vc sa.cc key val (posC s key) w CK FN (hid fun W hw=>pmLay_ok hg sa _ h1 key val W (hin.below hw))
   | false=>
    obtain ⟨e1,-⟩:=has_no hs hb;rw [e1] at FN;have RK:Hid (∀W,Below w.heap.size w W→Calls Tryd.prog 23 #[slV s sa,.int .i64 key] W (AnsB W (.tuple #[.int .i64 (rankV s key).1,.int .i64 (rankV s key).2]))):=hid fun W hw=>seekRank_ok s sa key hl hl2 W (hin.below hw) (hT.below hw)
    have er:rankV s key=((rnkC s key:Int),0):=by rw [rankV,if_pos hs];rfl
    rw [er] at RK;have GP:Hid (∀W,Below w.heap.size w W→Calls Tryd.prog 24 #[.agg #[.int .u8 c.tag,.int .i64 c.most,.int .i64 c.seg,.int .i64 c.least,.int .i64 c.den,.int .i64 c.ll,.int .i64 c.rl,.int .i64 c.rh,.int .i64 c.lh],slV s sa,.int .i64 (rnkC s key),.agg #[.int .i64 key,.int .i64 val]] W (FreshSl2 W (putC c s (rnkC s key) (key,val)) (.int .i64 (putE c s (rnkC s key))))):=hid fun W hw=>gapPut_ok c s sa hl hl2 hcc (rnkC s key) key val W (hin.below hw) (hT.below hw)
    have hp:=pmput_e (key:=key) h0;by_cases hm:(manyC s:Int)=c.most
    · have e:pPutE c s key=9:=by rw [pPutE,if_pos h0,hb,if_neg xdd,if_pos hm]
      rw [if_pos hm] at hp;have ec:putC c s (rnkC s key) (key,val)=nilC:=by rw [putC,hp,if_neg xdd]
      rw [ec,hp] at GP;rw [pPutF,pPutC,e,if_neg xdd,if_neg xdd];exact pmaPut_full c s sa.wa sa.ka sa.va sa.ca sa.wc sa.kc sa.vc sa.cc key val 0 6 (rnkC s key) xdd w CK FN RK GP
    · have e:pPutE c s key=0:=by rw [pPutE,if_pos h0,hb,if_neg xdd,if_neg hm]
      rw [if_neg hm] at hp;rw [hp] at GP;rw [pPutF,if_pos e,pPutC,if_pos e,hb,if_neg xdd,e];exact pmaPut_in c s _ sa.wa sa.ka sa.va sa.ca sa.wc sa.kc sa.vc sa.cc key val 0 6 (rnkC s key) xdd w CK FN RK GP
 · have e:pPutE c s key=pmE c s:=by rw [pPutE,if_neg h0]
   rw [pPutF,pPutC,e,if_neg h0,if_neg h0];exact pmaPut_err c s sa.wa sa.ka sa.va sa.ca sa.wc sa.kc sa.vc sa.cc key val _ h0 w CK
theorem pmaDel_ok (c:Cfg) (s:SlC) (sa:SlA) (key:Int) (hl:s.ws.length≤1000000000000) (hl2:s.ks.length≤1000000000000) (hcc:s.cs.length≤sa.cc) (w:World) (hin:SlIn w s sa) (hT:TabAt w):
    Calls Tryd.prog 11 #[pmV c s sa,.int .i64 key] w (FreshPm2 w (pDelF c s key) (pDelC c s key) (.int .i64 (pDelE c s key))):=by
 have CK:Hid (∀W,Below w.heap.size w W→Calls Tryd.prog 13 #[pmV c s sa] W (AnsB W (.int .i64 (pmE c s)))):=hid fun W hb=>pmaCheck_ok c s sa hl hl2 hcc W (hin.below hb)
 by_cases h0:pmE c s=0
 · obtain ⟨hg,hs⟩:=pm_zero h0;rw [h0] at CK;have FN:Hid (∀W,Below w.heap.size w W→Calls Tryd.prog 20 #[slV s sa,.int .i64 key] W (AnsB W (.tuple #[.int .i64 (findV s key).1,.int .i64 (findV s key).2]))):=hid fun W hb=>seekFind_ok s sa key hl hl2 W (hin.below hb) (hT.below hb)
   cases hb:hasB s key with
   | true=>
    obtain ⟨e1,h1,h2,h3,-⟩:=has_yes hs hb;have e:pDelE c s key=0:=by rw [pDelE,if_pos h0,if_pos hb]
    rw [e1] at FN;have RK:Hid (∀W,Below w.heap.size w W→Calls Tryd.prog 23 #[slV s sa,.int .i64 key] W (AnsB W (.tuple #[.int .i64 (rankV s key).1,.int .i64 (rankV s key).2]))):=hid fun W hw=>seekRank_ok s sa key hl hl2 W (hin.below hw) (hT.below hw)
    have er:rankV s key=((rnkC s key:Int),0):=by rw [rankV,if_pos hs];rfl
    rw [er] at RK;have GP:Hid (∀W,Below w.heap.size w W→Calls Tryd.prog 25 #[.agg #[.int .u8 c.tag,.int .i64 c.most,.int .i64 c.seg,.int .i64 c.least,.int .i64 c.den,.int .i64 c.ll,.int .i64 c.rl,.int .i64 c.rh,.int .i64 c.lh],slV s sa,.int .i64 (rnkC s key)] W (FreshSl2 W (takC c s (rnkC s key)) (.int .i64 (takE c s (rnkC s key))))):=hid fun W hw=>gapTake_ok c s sa hl hl2 hcc (rnkC s key) W (hin.below hw) (hT.below hw)
    rw [pmtak_e h0 hb] at GP;rw [pDelF,if_pos e,pDelC,if_pos e,e];exact pmaDel_in c s _ sa.wa sa.ka sa.va sa.ca sa.wc sa.kc sa.vc sa.cc key (posC s key) (rnkC s key) w CK FN RK GP
   | false=>
    obtain ⟨e1,-⟩:=has_no hs hb;have e:pDelE c s key=6:=by rw [pDelE,if_pos h0,hb,if_neg xdd]
    rw [e1] at FN;rw [pDelF,pDelC,e,if_neg xdd,if_neg xdd];exact pmaDel_none c s sa.wa sa.ka sa.va sa.ca sa.wc sa.kc sa.vc sa.cc key 0 6 xdd w CK FN
 · have e:pDelE c s key=pmE c s:=by rw [pDelE,if_neg h0]
   rw [pDelF,pDelC,e,if_neg h0,if_neg h0];exact pmaDel_err c s sa.wa sa.ka sa.va sa.ca sa.wc sa.kc sa.vc sa.cc key _ h0 w CK
end
end Go.Proofs.YtmnlagmmbfjbeaaDoor

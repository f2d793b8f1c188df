/- Merged: Ref9Ok, GapNm. -/
import Derived.Test.YtookgoidlnlckaaGreatDoorGapTellsP32
import Derived.Test.YtookgoidlnlckaaGreatDoorGapTellsP33
import Derived.Test.YtookgoidlnlckaaGreatDoorGapTellsP34
import Derived.Test.YtookgoidlnlckaaGreatDoorGapTellsP35
import Derived.Test.YtookgoidlnlckaaGreatDoorGapTellsP36
namespace Go.Proofs.YtookgoidlnlckaaGreatDoor
set_option maxRecDepth 100000
set_option maxHeartbeats 40000000
set_option linter.unusedVariables false
set_option linter.unusedSimpArgs false
section
open Go.RowKit
theorem Gone09_ok {c:Cfg} {s:SlC} {a H:Nat} (kn:GapN c s a H) (hc:cfMay c=true) (hs:s.seg=c.seg) (sa:SlA) (hz:CapsZ sa) (n:Nat) (hn:n<manyC s) (w:World) (hin:SlIn w s sa):
    Calls Tryz.prog 37 #[.agg #[.int .u8 c.tag,.int .i64 c.most,.int .i64 c.seg,.int .i64 c.least,.int .i64 c.den,.int .i64 c.ll,.int .i64 c.rl,.int .i64 c.rh,.int .i64 c.lh],slV s sa,.int .i64 n] w (FreshSl w (takN c s a H n)):=by
 obtain ⟨p1,p2,p3,p4,p5,p6⟩:=kn.pows;obtain ⟨g,hlw⟩:=gapN_gd kn hin.u;have hcf:=cfHead_num (cfMay_head hc);have hwn:=g.wn;have hew:=g.elw;have hvk:s.vs.length=s.ks.length:=g.elv;have hcl:s.cs.length=2^H:=g.elc;have hpH:=Nat.two_pow_pos H;have hcseg:c.seg=((2^a:Nat):Int):=kn.cap.seg;have hlen:(plsW s.ws 0 s.ks.length).length=manyC s:=plsW_length _ _ _;have hn':n<(plsW s.ws 0 s.ks.length).length:=xo;obtain ⟨-,hbit,hat⟩:=pls_rank hn';have PL:Hid (∀W,Below w.heap.size w W→Calls Tryz.prog 75 #[slV s sa,.int .i64 n] W (AnsB W (.int .i64 ((plsW s.ws 0 s.ks.length).getD n 0:Nat)))):=hid fun W hb=>
  Place09_ok s.seg _ _ _ _ _ _ _ _ _ _ _ _ _ n (plsW s.ws 0 s.ks.length) hn' W (hid fun W' hb'=>Places02_ok sa.wa sa.wc s.ws hin.u 0 s.ks.length xo xo xo W' ((hin.below hb).below hb').w)
 unfold takN;generalize (plsW s.ws 0 s.ks.length).getD n 0=at_ at *;obtain ⟨kz,gz,zl,-,-,hzm⟩:=take_in kn hin.u hat hbit;have hzu:=gz.u;have EM:Hid (∀W,Below w.heap.size w W→Calls Tryz.prog 76 #[slV s sa,.int .i64 at_] W (FreshSl W (tkC s at_))):=hid fun W hb=>by
  have TW:∀W',Below W.heap.size W W'→Calls Tryz.prog 5 #[slV s sa] W' (FreshSlN W' s):=fun W' hb'=>Twin04N_ok s sa W' ((hin.below hb).below hb') xo xo xo xo hz.1 hz.2.1 hz.2.2.1 hz.2.2.2
  have g2:SlGd s (2^a) s.ws.length s.ks.length s.cs.length:=by rw [g.elw,g.elc];exact g
  unfold slV at TW ⊢;rw [hvk] at TW ⊢;exact Emptied_core W s.seg sa.wa sa.ka sa.va sa.ca sa.wc sa.kc sa.vc sa.cc s.ws.length s.ks.length s.cs.length s.laid s at_ (2^a) g2 xo xo xo hat hbit (hid TW)
 have hzb:at_<(tkC s at_).ks.length:=xo;have hLn:(prs (tkC s at_) 0 (tkC s at_).ks.length).length=manyC (tkC s at_):=prs_length _ _ _;have UN:Hid (∀W (zb:SlA),Below w.heap.size w W→SlIn W (tkC s at_) zb→Calls Tryz.prog 77 #[.agg #[.int .u8 c.tag,.int .i64 c.most,.int .i64 c.seg,.int .i64 c.least,.int .i64 c.den,.int .i64 c.ll,.int .i64 c.rl,.int .i64 c.rh,.int .i64 c.lh],slV (tkC s at_) zb,.int .i64 at_] W (AnsB W (.int .i64 (topI (unfB c (tkC s at_) a H at_) (H+1))))):=hid fun W zb hb hzi=>by
  refine under09_ok c (tkC s at_).seg _ _ _ _ _ _ _ _ _ _ _ _ _ a H at_ p6 (unfB c (tkC s at_) a H at_) (fun h=>inH (tkC s at_) a h at_) (fun h hh=>by have:=inH_bd kz hzu hh hzb;have:=kz.pows;omega) W (hid fun W' hb'=> ?_) (hid fun h hh W' hb'=>Of06_ok c.seg a h at_ hcseg (by have:=kn.cap.a6;omega) xo W') (hid fun h hh W' hb'=>among9_win kz hzu zb hh hzb W' (hzi.below hb')) (hid fun h hh W' hb'=> ?_)
  · have:=Height05_ok c (tkC s at_).ks.length xo xo xo W';rwa [kz.cap.hgt] at this
  · have b:=inH_bd kz hzu hh hzb;have q:=kz.pows;have:=NotFew05_ok c (tkC s at_).ks.length a H h kz.cap hh (inH (tkC s at_) a h at_) xo xo W';rwa [show sprB c (tkC s at_).ks.length H h (inH (tkC s at_) a h at_)= !unfB c (tkC s at_) a H at_ h by unfold unfB;rw [Bool.not_not]] at this
 dsimp only;generalize tkC s at_=z at *;obtain ⟨z1,z2,z3,z4,z5,z6⟩:=kz.pows;obtain ⟨g',hlw'⟩:=gapN_gd kz hzu;have hzw:=g'.elw;have hzn:=g'.wn;have hzv:z.vs.length=z.ks.length:=g'.elv;have HT:Hid (∀W,Below w.heap.size w W→Calls Tryz.prog 51 #[.agg #[.int .u8 c.tag,.int .i64 c.most,.int .i64 c.seg,.int .i64 c.least,.int .i64 c.den,.int .i64 c.ll,.int .i64 c.rl,.int .i64 c.rh,.int .i64 c.lh],.int .i64 z.ks.length] W (AnsB W (.int .i64 H))):=hid fun W hb=>by
  have:=Height05_ok c z.ks.length xo xo xo W;rwa [kz.cap.hgt] at this
 have htb:=topI_bd (unfB c z a H at_) (H+1);by_cases ht1:topI (unfB c z a H at_) (H+1)= -1
 · rw [if_pos ht1];exact Gone_none c s.seg _ _ _ _ _ _ _ _ _ _ _ _ _ at_ n _ z hzu xo w PL EM UN
 · rw [if_neg ht1];by_cases ht:topI (unfB c z a H at_) (H+1)=H
   · rw [if_pos ht];have hcn:manyC z≤z.ks.length:=by have:=cntW_le z.ws 0 z.ks.length;unfold manyC;omega
     obtain ⟨H',n1,n2,n3,n4⟩:=nar_ok (m:=manyC z) 20 z.ks.length a H kz.cap xo xo;have hnar:narF c (manyC z) 20 z.ks.length=((2^a*2^H':Nat):Int):=n2.all;have hbig:=n2.big;have hdiv:(narF c (manyC z) 20 z.ks.length).toNat/2^a=2^H':=by rw [hnar,Int.toNat_natCast,Nat.mul_div_cancel_left _ xo]
     rw [hdiv];have hle:manyC z≤2^a*2^H':=by rw [hnar] at n3;omega
     refine Gone_wide c s.seg _ _ _ _ _ _ _ _ _ _ _ _ _ a H at_ n (manyC z) _ (prs z 0 z.ks.length) z _ hzu kz.cap hcn ht w PL EM UN HT (hid fun W zb hb hzi=> ?_) (hid fun W zb hb hzi=> ?_) (hid fun la pl W zb hb hzi hla=> ?_)
     · have:=Many09_ok kz zb W hzi;rwa [sum_many kz hzu] at this
     · exact Of04_ok z zb 0 z.ks.length xo xo (Nat.le_refl _) hzv xo W hzi
     · rw [hnar];exact Wide08_ok g' zb (2^H') (Nat.two_pow_pos H') hbig (prs z 0 z.ks.length) (by rw [hLn];exact hle) la pl W hla
   · rw [if_neg ht];obtain ⟨h,eh,hh⟩:∃h:Nat,topI (unfB c z a H at_) (H+1)+1=h∧h≤H:=⟨(topI (unfB c z a H at_) (H+1)+1).toNat,by omega,by omega⟩
     have hht:(topI (unfB c z a H at_) (H+1)+1).toNat=h:=xo;simp only [hht];have b:=wnd_bd (a:=a) (at_:=at_) hh (by rw [←kz.nk];omega);have hhi:(wnd a h at_+1)*2^(a+h)≤z.ks.length:=by rw [kz.nk];exact b.2.2.2
     have hlen2:=prs_length z (wnd a h at_*2^(a+h)) ((wnd a h at_+1)*2^(a+h));have hc2:=cntW_le z.ws (wnd a h at_*2^(a+h)) ((wnd a h at_+1)*2^(a+h));have hlh:wnd a h at_*2^(a+h)≤(wnd a h at_+1)*2^(a+h):=Nat.mul_le_mul_right _ xo;have ehi:((wnd a h at_*2^(a+h):Nat):Int)+((2^(a+h):Nat):Int)=(((wnd a h at_+1)*2^(a+h):Nat):Int):=by rw [←Int.natCast_add,Nat.succ_mul]
     refine Gone_even c s.seg _ _ _ _ _ _ _ _ _ _ _ _ _ H at_ n h _ ((wnd a h at_*2^(a+h):Nat):Int) (((wnd a h at_+1)*2^(a+h):Nat):Int) (prs z (wnd a h at_*2^(a+h)) ((wnd a h at_+1)*2^(a+h))) z _ hzu p6 hh xo xo eh ht w PL EM UN HT (hid fun W hb=> ?_) (hid fun W zb hb hzi=> ?_) (hid fun la pl W zb hb hzi hzc hla=> ?_)
     · rw [←ehi];exact Of06_ok c.seg a h at_ hcseg (by have:=kn.cap.a6;omega) xo W
     · exact Of04_ok z zb _ _ xo xo hhi hzv xo W hzi
     · exact Spread08_ok g' hlw' zb hzc _ _ hlh hhi _ (by rw [hlen2];exact hc2) la pl W hzi hla
theorem Put09_ok (c:Cfg) (s:SlC) (sa:SlA) (hz:CapsZ sa) (hl:s.ws.length≤1000000000000) (hl2:s.ks.length≤1000000000000) (k x y:Int) (w:World) (hin:SlIn w s sa):
    Calls Tryz.prog 9 #[.agg #[.int .u8 c.tag,.int .i64 c.most,.int .i64 c.seg,.int .i64 c.least,.int .i64 c.den,.int .i64 c.ll,.int .i64 c.rl,.int .i64 c.rh,.int .i64 c.lh],slV s sa,.int .i64 k,.agg #[.int .i64 x,.int .i64 y]] w (FreshSl2 w (putC c s k (x,y)) (.int .i64 (putE c s k))):=by
 have CK:Hid (∀W,Below w.heap.size w W→Calls Tryz.prog 13 #[.agg #[.int .u8 c.tag,.int .i64 c.most,.int .i64 c.seg,.int .i64 c.least,.int .i64 c.den,.int .i64 c.ll,.int .i64 c.rl,.int .i64 c.rh,.int .i64 c.lh],slV s sa] W (AnsB W (.int .i64 (gapE c s)))):=hid fun W hb=>Check09_ok c s sa hl hl2 W (hin.below hb)
 by_cases h0:gapE c s=0
 · rw [h0] at CK;obtain ⟨hc,a,H,kn,hs,hmost,hden⟩:=gap_zero h0;rw [sum_many kn hin.u] at hmost;have MA:Hid (∀W,Below w.heap.size w W→Calls Tryz.prog 29 #[slV s sa] W (AnsB W (.int .i64 (manyC s)))):=hid fun W hb=>by
    have:=Many09_ok kn sa W (hin.below hb);rwa [sum_many kn hin.u] at this
   by_cases hk:k<0
   · have e:putE c s k=2:=by rw [putE,if_pos h0,if_pos (.inl hk)]
     rw [putC,e,if_neg (by decide)];exact Put09_neg c s.seg _ _ _ _ _ _ _ _ _ _ _ _ _ k x y hk w CK
   · by_cases hm:(manyC s:Int)<k
     · have e:putE c s k=2:=by rw [putE,if_pos h0,if_pos (.inr hm)]
       rw [putC,e,if_neg (by decide)];exact Put09_arg c s.seg _ _ _ _ _ _ _ _ _ _ _ _ _ k x y _ hk hm w CK MA
     · by_cases hf:(manyC s:Int)=c.most
       · have e:putE c s k=9:=by rw [putE,if_pos h0,if_neg xo,if_pos hf]
         rw [putC,e,if_neg (by decide)];exact Put09_full c s.seg _ _ _ _ _ _ _ _ _ _ _ _ _ k x y _ hk hm hf w CK MA
       · have e:putE c s k=0:=by rw [putE,if_pos h0,if_neg xo,if_neg hf]
         rw [putC,e,if_pos rfl,sgL_eq kn.cap.seg,kn.cap.hgt];obtain ⟨n,rfl⟩:∃n:Nat,k=n:=⟨k.toNat,by omega⟩
         rw [Int.toNat_natCast];exact Put09_in c s.seg _ _ _ _ _ _ _ _ _ _ _ _ _ n x y _ _ hk hm hf w CK MA (hid fun W hb=>Added09_ok kn hc hs sa hz n xo xo x y W (hin.below hb))
 · have e:putE c s k=gapE c s:=by rw [putE,if_neg h0]
   rw [putC,e,if_neg h0];exact Put09_err c s.seg _ _ _ _ _ _ _ _ _ _ _ _ _ k x y _ h0 w CK
theorem Take09_ok (c:Cfg) (s:SlC) (sa:SlA) (hz:CapsZ sa) (hl:s.ws.length≤1000000000000) (hl2:s.ks.length≤1000000000000) (k:Int) (w:World) (hin:SlIn w s sa):
    Calls Tryz.prog 11 #[.agg #[.int .u8 c.tag,.int .i64 c.most,.int .i64 c.seg,.int .i64 c.least,.int .i64 c.den,.int .i64 c.ll,.int .i64 c.rl,.int .i64 c.rh,.int .i64 c.lh],slV s sa,.int .i64 k] w (FreshSl2 w (takC c s k) (.int .i64 (takE c s k))):=by
 have CK:Hid (∀W,Below w.heap.size w W→Calls Tryz.prog 13 #[.agg #[.int .u8 c.tag,.int .i64 c.most,.int .i64 c.seg,.int .i64 c.least,.int .i64 c.den,.int .i64 c.ll,.int .i64 c.rl,.int .i64 c.rh,.int .i64 c.lh],slV s sa] W (AnsB W (.int .i64 (gapE c s)))):=hid fun W hb=>Check09_ok c s sa hl hl2 W (hin.below hb)
 by_cases h0:gapE c s=0
 · rw [h0] at CK;obtain ⟨hc,a,H,kn,hs,hmost,hden⟩:=gap_zero h0;rw [sum_many kn hin.u] at hmost;have MA:Hid (∀W,Below w.heap.size w W→Calls Tryz.prog 29 #[slV s sa] W (AnsB W (.int .i64 (manyC s)))):=hid fun W hb=>by
    have:=Many09_ok kn sa W (hin.below hb);rwa [sum_many kn hin.u] at this
   by_cases hk:k<0
   · have e:takE c s k=2:=by rw [takE,if_pos h0,if_pos (.inl hk)]
     rw [takC,e,if_neg (by decide)];exact Take09_neg c s.seg _ _ _ _ _ _ _ _ _ _ _ _ _ k hk w CK
   · by_cases hm:(manyC s:Int)≤k
     · have e:takE c s k=2:=by rw [takE,if_pos h0,if_pos (.inr hm)]
       rw [takC,e,if_neg (by decide)];exact Take09_arg c s.seg _ _ _ _ _ _ _ _ _ _ _ _ _ k _ hk hm w CK MA
     · have e:takE c s k=0:=by rw [takE,if_pos h0,if_neg xo]
       rw [takC,e,if_pos rfl,sgL_eq kn.cap.seg,kn.cap.hgt];obtain ⟨n,rfl⟩:∃n:Nat,k=n:=⟨k.toNat,by omega⟩
       rw [Int.toNat_natCast];exact Take09_in c s.seg _ _ _ _ _ _ _ _ _ _ _ _ _ n _ _ hk hm w CK MA (hid fun W hb=>Gone09_ok kn hc hs sa hz n xo W (hin.below hb))
 · have e:takE c s k=gapE c s:=by rw [takE,if_neg h0]
   rw [takC,e,if_neg h0];exact Take09_err c s.seg _ _ _ _ _ _ _ _ _ _ _ _ _ k _ h0 w CK
end
section
open Go.RowKit
theorem put_zero {c:Cfg} {s:SlC} {k:Int} (h:putE c s k=0):gapE c s=0∧0≤k∧k≤manyC s∧(manyC s:Int)≠c.most:=by
 unfold putE at h;by_cases h0:gapE c s=0
 · rw [if_pos h0] at h;by_cases h1:k<0∨(manyC s:Int)<k
   · rw [if_pos h1] at h;omega
   · rw [if_neg h1] at h;by_cases h2:(manyC s:Int)=c.most
     · rw [if_pos h2] at h;omega
     · exact ⟨h0,by omega,by omega,h2⟩
 · rw [if_neg h0] at h;exact absurd h h0
theorem take_zero {c:Cfg} {s:SlC} {k:Int} (h:takE c s k=0):gapE c s=0∧0≤k∧k<manyC s:=by
 unfold takE at h;by_cases h0:gapE c s=0
 · rw [if_pos h0] at h;by_cases h1:k<0∨(manyC s:Int)≤k
   · rw [if_pos h1] at h;omega
   · exact ⟨h0,by omega,by omega⟩
 · rw [if_neg h0] at h;exact absurd h h0
theorem gd_nums {d:SlC} {S n lc:Nat} (g:SlGd d S ((n+63)/64) n lc):d.ws.length≤1000000∧d.ks.length≤1000000∧d.vs.length≤1000000∧d.cs.length≤1000000∧U64s d.ws:=by
 have h1:=g.elw;have h2:=g.elk;have h3:=g.elv;have h4:=g.elc;have h5:=g.cn;have h6:=g.s4;have h7:=g.nm;have h9:1*lc≤S*lc:=Nat.mul_le_mul_right _ xo;exact ⟨by omega,by omega,by omega,by omega,g.u⟩
theorem nil_nums:nilC.ws.length≤1000000∧nilC.ks.length≤1000000∧nilC.vs.length≤1000000∧nilC.cs.length≤1000000∧U64s nilC.ws:=
  ⟨Nat.zero_le _,Nat.zero_le _,Nat.zero_le _,Nat.zero_le _,fun x hx=>by cases hx⟩
theorem put_gd {c:Cfg} {s:SlC} (hu:U64s s.ws) {k:Int} (p:Int×Int) (h:putE c s k=0):∃S n lc,SlGd (putC c s k p) S ((n+63)/64) n lc:=by
 obtain ⟨h0,k0,k1,k2⟩:=put_zero h;obtain ⟨hc,a,H,kn,hs,hmost,hden⟩:=gap_zero h0;rw [sum_many kn hu] at hmost;obtain ⟨g,hlw⟩:=gapN_gd kn hu;obtain ⟨p1,p2,p3,p4,p5,p6⟩:=kn.pows;obtain ⟨n,rfl⟩:∃n:Nat,k=n:=⟨k.toNat,by omega⟩
 have hn:n≤manyC s:=xo;have hat:=homeC_lt p5 n;rw [putC,if_pos h,sgL_eq kn.cap.seg,kn.cap.hgt,Int.toNat_natCast];unfold putN;by_cases ht:topI (ovB c s a H (homeC s n)) (H+1)=H
 · rw [if_pos ht];have hLn:(prs s 0 s.ks.length).length=manyC s:=prs_length _ _ _;have hil:(insL (prs s 0 s.ks.length) n p).length=manyC s+1:=by rw [insL_length (by rw [hLn];exact hn),hLn]
   have hcap:=cap_facts kn (n:=manyC s+1) xo;exact ⟨_,_,_,(emptyL_gd p1 p2 hcap.2.2.1 hcap.2.2.2.1 s.laid).sp (Nat.zero_le _) (Nat.le_refl _) (by rw [hil];have:=hcap.2.2.2.2.1;omega)⟩
 · rw [if_neg ht];obtain ⟨h',eh,hh,hroom⟩:=put_room kn hu hat ht;have hht:(topI (ovB c s a H (homeC s n)) (H+1)+1).toNat=h':=xo;simp only [hht];have b:=wnd_bd (a:=a) (at_:=homeC s n) hh (by rw [←kn.nk];exact hat);have hhi:(wnd a h' (homeC s n)+1)*2^(a+h')≤s.ks.length:=by rw [kn.nk];exact b.2.2.2
   obtain ⟨q1,q2⟩:=home_in p5 hn b.2.1 b.2.2.1 hhi;have hil:=insL_length q2 p;have hpl:=prs_length s (wnd a h' (homeC s n)*2^(a+h')) ((wnd a h' (homeC s n)+1)*2^(a+h'));have eww:(wnd a h' (homeC s n)+1)*2^(a+h')=wnd a h' (homeC s n)*2^(a+h')+2^(a+h'):=Nat.succ_mul _ _;exact ⟨_,_,_,g.sp xo hhi (by rw [hil,hpl];omega)⟩
theorem put_nums (c:Cfg) (s:SlC) (hu:U64s s.ws) (k:Int) (p:Int×Int):(putC c s k p).ws.length≤1000000∧(putC c s k p).ks.length≤1000000∧(putC c s k p).vs.length≤1000000∧(putC c s k p).cs.length≤1000000∧U64s (putC c s k p).ws:=by
 by_cases h:putE c s k=0
 · obtain ⟨_,_,_,g⟩:=put_gd hu p h;exact gd_nums g
 · rw [putC,if_neg h];exact nil_nums
theorem take_gd {c:Cfg} {s:SlC} (hu:U64s s.ws) {k:Int} (h:takE c s k=0):∃S n lc,SlGd (takC c s k) S ((n+63)/64) n lc:=by
 obtain ⟨h0,k0,k1⟩:=take_zero h;obtain ⟨hc,a,H,kn,hs,hmost,hden⟩:=gap_zero h0;obtain ⟨n,rfl⟩:∃n:Nat,k=n:=⟨k.toNat,by omega⟩
 have hn:n<(plsW s.ws 0 s.ks.length).length:=by rw [plsW_length];unfold manyC at k1;omega
 obtain ⟨hr,hbit,hat⟩:=pls_rank hn;rw [takC,if_pos h,sgL_eq kn.cap.seg,kn.cap.hgt,Int.toNat_natCast];unfold takN;generalize (plsW s.ws 0 s.ks.length).getD n 0=at_ at *;obtain ⟨kz,gz,zl,t1,t2,hzm⟩:=take_in kn hu hat hbit;dsimp only;generalize tkC s at_=z at *;obtain ⟨z1,z2,z3,z4,z5,z6⟩:=kz.pows;by_cases ht1:topI (unfB c z a H at_) (H+1)= -1
 · rw [if_pos ht1];exact ⟨_,_,_,gz⟩
 · rw [if_neg ht1];by_cases ht:topI (unfB c z a H at_) (H+1)=H
   · rw [if_pos ht];have hLn:(prs z 0 z.ks.length).length=manyC z:=prs_length _ _ _;have hcn:manyC z≤z.ks.length:=by have:=cntW_le z.ws 0 z.ks.length;unfold manyC;omega
     obtain ⟨H',n1,n2,n3,n4⟩:=nar_ok (m:=manyC z) 20 z.ks.length a H kz.cap xo xo;have hnar:narF c (manyC z) 20 z.ks.length=((2^a*2^H':Nat):Int):=n2.all;have hbig:=n2.big;have hdiv:(narF c (manyC z) 20 z.ks.length).toNat/2^a=2^H':=by rw [hnar,Int.toNat_natCast,Nat.mul_div_cancel_left _ xo]
     rw [hdiv];have hle:manyC z≤2^a*2^H':=by rw [hnar] at n3;omega
     exact ⟨_,_,_,(emptyL_gd z1 z2 (Nat.two_pow_pos H') hbig z.laid).sp (Nat.zero_le _) (Nat.le_refl _) (by rw [hLn];omega)⟩
   · rw [if_neg ht];obtain ⟨h',eh,hh⟩:∃h':Nat,topI (unfB c z a H at_) (H+1)+1=h'∧h'≤H:=by
      have:=topI_bd (unfB c z a H at_) (H+1);exact ⟨(topI (unfB c z a H at_) (H+1)+1).toNat,by omega,by omega⟩
     have hht:(topI (unfB c z a H at_) (H+1)+1).toNat=h':=xo;simp only [hht];have b:=wnd_bd (a:=a) (at_:=at_) hh (by rw [←kz.nk];omega);have hhi:(wnd a h' at_+1)*2^(a+h')≤s.ks.length:=by rw [←zl,kz.nk];exact b.2.2.2
     have eww:(wnd a h' at_+1)*2^(a+h')=wnd a h' at_*2^(a+h')+2^(a+h'):=Nat.succ_mul _ _;have hpl:=prs_length z (wnd a h' at_*2^(a+h')) ((wnd a h' at_+1)*2^(a+h'));have hc2:=cntW_le z.ws (wnd a h' at_*2^(a+h')) ((wnd a h' at_+1)*2^(a+h'));exact ⟨_,_,_,gz.sp xo hhi (by rw [hpl];exact hc2)⟩
theorem take_nums (c:Cfg) (s:SlC) (hu:U64s s.ws) (k:Int):(takC c s k).ws.length≤1000000∧(takC c s k).ks.length≤1000000∧(takC c s k).vs.length≤1000000∧(takC c s k).cs.length≤1000000∧U64s (takC c s k).ws:=by
 by_cases h:takE c s k=0
 · obtain ⟨_,_,_,g⟩:=take_gd hu h;exact gd_nums g
 · rw [takC,if_neg h];exact nil_nums
theorem new_nums9 (c:Cfg):(newC c).ws.length≤1000000∧(newC c).ks.length≤1000000∧(newC c).vs.length≤1000000∧(newC c).cs.length≤1000000∧U64s (newC c).ws:=by
 unfold newC;split
 · rename_i h
   obtain ⟨S,M,h1,h2,h4,h6,hM,hm,-,-⟩:=least_nums h;rw [emptyC_eq h1 h2 h4];exact gd_nums (emptyL_gd h4 h6 hM hm 0)
 · exact nil_nums
end
end Go.Proofs.YtookgoidlnlckaaGreatDoor

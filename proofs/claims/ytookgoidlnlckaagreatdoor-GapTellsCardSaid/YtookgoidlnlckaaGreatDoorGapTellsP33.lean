/- Merged: GPutOk, PutR, GAddOk, Dense, DenPl. -/
import Derived.Test.YtookgoidlnlckaaGreatDoorGapTellsP28
import Derived.Test.YtookgoidlnlckaaGreatDoorGapTellsP29
import Derived.Test.YtookgoidlnlckaaGreatDoorGapTellsP19
import Derived.Test.YtookgoidlnlckaaGreatDoorGapTellsP11
import Derived.Test.YtookgoidlnlckaaGreatDoorGapTellsP25
import Derived.Test.YtookgoidlnlckaaGreatDoorGapTellsP31
import Derived.Test.YtookgoidlnlckaaGreatDoorGapTellsP23
import Derived.Test.YtookgoidlnlckaaGreatDoorGapTellsP26
namespace Go.Proofs.YtookgoidlnlckaaGreatDoor
set_option maxRecDepth 100000
set_option maxHeartbeats 40000000
set_option linter.unusedVariables false
set_option linter.unusedSimpArgs false
section
open Go.RowKit
theorem GapN.pows {c:Cfg} {s:SlC} {a H:Nat} (k:GapN c s a H):4≤2^a∧2^a≤64∧s.cs.length≤65536∧s.ks.length≤65536∧1≤s.ks.length∧H≤14:=by
 have ha4:2^2≤2^a:=Nat.pow_le_pow_right xo k.cap.a2;have ha6:2^a≤2^6:=Nat.pow_le_pow_right xo k.cap.a6;have hb:=k.cap.big;have h9:1*2^H≤2^a*2^H:=Nat.mul_le_mul_right _ xo;have:=k.nc;have:=k.nk;have:=Nat.two_pow_pos H;exact ⟨by omega,by omega,by omega,by omega,by omega,k.cap.h14⟩
theorem inH_bd {c:Cfg} {s:SlC} {a H h at_:Nat} (k:GapN c s a H) (hu:U64s s.ws) (hh:h≤H) (hat:at_<s.ks.length):0≤inH s a h at_∧inH s a h at_≤((2^(a+h):Nat):Int)∧2^(a+h)≤65536:=by
 rw [in_cnt k hu hh hat];have h1:=cntW_le s.ws (wnd a h at_*2^(a+h)) ((wnd a h at_+1)*2^(a+h));rw [Nat.succ_mul,Nat.add_sub_cancel_left] at h1;have h2:2^(a+h)≤2^(a+H):=Nat.pow_le_pow_right xo xo;have h3:2^(a+H)≤65536:=by rw [Nat.pow_add];exact k.cap.big
 rw [Nat.succ_mul];omega
theorem GapN.win {c:Cfg} {s:SlC} {a H:Nat} (k:GapN c s a H) (hs:s.seg=c.seg):WinC s.seg s.ks.length a H:=⟨k.seg,k.cap.all,k.cap.a2,k.cap.a6,k.cap.big⟩
theorem among_win {c:Cfg} {s:SlC} {a H h at_:Nat} (k:GapN c s a H) (hu:U64s s.ws) (sa:SlA) (hcc:s.cs.length≤sa.cc) (hh:h≤H) (hat:at_<s.ks.length) (w:World) (hin:SlIn w s sa):
    Calls Tryz.prog 20 #[slV s sa,.int .i64 ((wnd a h at_*2^(a+h):Nat):Int),.int .i64 (((wnd a h at_*2^(a+h):Nat):Int)+((2^(a+h):Nat):Int))] w (AnsB w (.int .i64 (inH s a h at_))):=by
 obtain ⟨p1,p2,p3,p4,p5,p6⟩:=k.pows;have b:=wnd_bd hh (by rw [←k.nk];exact hat);have e:=wnd_seg a h at_;have hp0:=Nat.two_pow_pos h;have hlt:wnd a h at_*2^h<(wnd a h at_+1)*2^h:=by rw [Nat.succ_mul];omega
 refine among_ok s sa (2^a) (wnd a h at_*2^h) ((wnd a h at_+1)*2^h) k.seg p1 p2 _ _ ?_ ?_ xo (by rw [k.nc];exact b.1) (by rw [k.nc];exact Nat.lt_of_lt_of_le hlt b.1) hcc p3 k.cnt w hin
 · rw [e.1]
 · rw [←e.2.1,←e.2.2];push_cast;rfl
theorem among_lo {c:Cfg} {s:SlC} {a H h at_:Nat} (k:GapN c s a H) (hu:U64s s.ws) (sa:SlA) (hcc:s.cs.length≤sa.cc) (hh:h≤H) (hat:at_<s.ks.length) (w:World) (hin:SlIn w s sa):
    Calls Tryz.prog 20 #[slV s sa,.int .i64 0,.int .i64 ((wnd a h at_*2^(a+h):Nat):Int)] w (AnsB w (.int .i64 (cntW s.ws 0 (wnd a h at_*2^(a+h)):Nat))):=by
 obtain ⟨p1,p2,p3,p4,p5,p6⟩:=k.pows;obtain ⟨g,-⟩:=gapN_gd k hu;have b:=wnd_bd hh (by rw [←k.nk];exact hat);have e:=wnd_seg a h at_;have hp0:=Nat.two_pow_pos h;have hlt:wnd a h at_*2^h<(wnd a h at_+1)*2^h:=by rw [Nat.succ_mul];omega
 have hle:wnd a h at_*2^h≤2^H:=xo;have:=among_ok s sa (2^a) 0 (wnd a h at_*2^h) k.seg p1 p2 0 ((wnd a h at_*2^(a+h):Nat):Int) (by simp) (by rw [e.1]) (Nat.zero_le _) (by rw [k.nc];exact hle) (by rw [k.nc];exact Nat.two_pow_pos H) hcc p3 k.cnt w hin;rwa [sumC_cnt2 g (Nat.zero_le _) hle,Nat.zero_mul,←e.1] at this
theorem among_all {c:Cfg} {s:SlC} {a H:Nat} (k:GapN c s a H) (hu:U64s s.ws) (sa:SlA) (hcc:s.cs.length≤sa.cc) (w:World) (hin:SlIn w s sa):
    Calls Tryz.prog 20 #[slV s sa,.int .i64 0,.int .i64 s.ks.length] w (AnsB w (.int .i64 (manyC s))):=by
 obtain ⟨p1,p2,p3,p4,p5,p6⟩:=k.pows;have:=among_ok s sa (2^a) 0 s.cs.length k.seg p1 p2 0 s.ks.length (by simp) (by rw [k.nk,k.nc,Nat.mul_comm]) (Nat.zero_le _) (Nat.le_refl _) (by rw [k.nc];exact Nat.two_pow_pos H) hcc p3 k.cnt w hin;rwa [sum_many k hu] at this
theorem enters_put1:∀args w,(callFunc 21 args).run Tryz.prog w= .ok (.enter 21 args) w:=enters_of Tryz.func21 xk rfl
theorem sgL_eq {c:Cfg} {a:Nat} (h:c.seg=((2^a:Nat):Int)):sgL c=a:=by
 rw [sgL,h,Int.toNat_natCast,Nat.log2_two_pow]
theorem may_w {c:Cfg} {s:SlC} {a H:Nat} (k:GapN c s a H):wMayB s.ws s.ks.length=true:=by
 have h:=k.may;simp only [slMay,slHead,Bool.and_eq_true] at h;exact h.1.1.1.2
theorem gapPut_ok (c:Cfg) (s:SlC) (sa:SlA) (hl:s.ws.length≤1000000000000) (hl2:s.ks.length≤1000000000000) (hcc:s.cs.length≤sa.cc) (k x y:Int) (w:World) (hin:SlIn w s sa) (hT:TabAt w):
    Calls Tryz.prog 8 #[.agg #[.int .u8 c.tag,.int .i64 c.most,.int .i64 c.seg,.int .i64 c.least,.int .i64 c.den,.int .i64 c.ll,.int .i64 c.rl,.int .i64 c.rh,.int .i64 c.lh],slV s sa,.int .i64 k,.agg #[.int .i64 x,.int .i64 y]] w (FreshSl2 w (putC c s k (x,y)) (.int .i64 (putE c s k))):=by
 have CK:Hid (∀W,Below w.heap.size w W→Calls Tryz.prog 12 #[.agg #[.int .u8 c.tag,.int .i64 c.most,.int .i64 c.seg,.int .i64 c.least,.int .i64 c.den,.int .i64 c.ll,.int .i64 c.rl,.int .i64 c.rh,.int .i64 c.lh],slV s sa] W (AnsB W (.int .i64 (gapE c s)))):=hid fun W hb=>gapCheck_ok c s sa hl hl2 hcc W (hin.below hb)
 by_cases h0:gapE c s=0
 · rw [h0] at CK;obtain ⟨hc,a,H,kn,hs,hmost,hden⟩:=gap_zero h0;obtain ⟨g,-⟩:=gapN_gd kn hin.u;obtain ⟨p1,p2,p3,p4,p5,p6⟩:=kn.pows;rw [sum_many kn hin.u] at hmost;have AM:Hid (∀W,Below w.heap.size w W→Calls Tryz.prog 20 #[slV s sa,.int .i64 0,.int .i64 s.ks.length] W (AnsB W (.int .i64 (manyC s)))):=hid fun W hb=>among_all kn hin.u sa hcc W (hin.below hb)
   have hcf:=cfHead_num (cfMay_head hc);by_cases hk:k<0
   · have e:putE c s k=2:=by rw [putE,if_pos h0,if_pos (.inl hk)]
     rw [putC,e,if_neg (by decide)];exact gPut_neg c s.seg _ _ _ _ _ _ _ _ _ _ _ _ _ k x y _ hk w CK AM
   · by_cases hm:(manyC s:Int)<k
     · have e:putE c s k=2:=by rw [putE,if_pos h0,if_pos (.inr hm)]
       rw [putC,e,if_neg (by decide)];exact gPut_arg c s.seg _ _ _ _ _ _ _ _ _ _ _ _ _ k x y _ hk hm w CK AM
     · by_cases hf:(manyC s:Int)=c.most
       · have e:putE c s k=9:=by rw [putE,if_pos h0,if_neg xo,if_pos hf]
         rw [putC,e,if_neg (by decide)];exact gPut_full c s.seg _ _ _ _ _ _ _ _ _ _ _ _ _ k x y _ hk hm hf w CK AM
       · have e:putE c s k=0:=by rw [putE,if_pos h0,if_neg xo,if_neg hf]
         rw [putC,e,if_pos rfl,sgL_eq kn.cap.seg,kn.cap.hgt];obtain ⟨n,rfl⟩:∃n:Nat,k=n:=⟨k.toNat,by omega⟩
         rw [Int.toNat_natCast];have hn:n≤manyC s:=xo;have hmn:manyC s≤s.ks.length:=by have:=cntW_le s.ws 0 s.ks.length;unfold manyC;omega
         have hat:=homeC_lt p5 n;have HM:Hid (∀W,Below w.heap.size w W→Calls Tryz.prog 24 #[slV s sa,.int .i64 n] W (AnsB W (.int .i64 (homeC s n:Nat)))):=hid fun W hb=>by
          refine home_ok s.seg _ _ _ _ _ _ _ _ _ _ _ _ _ n (homeC s n) (nthE s.ws s.ks.length (n-1)) xo W (hid fun W' hb'=> ?_);have:=Nth_ok sa.wa sa.wc s.ws hin.u s.ks.length (n-1) p4 xo hl (may_w kn) W' ((hin.below hb).below hb').w ((hT.below hb).below hb');have ev:nthV s.ws s.ks.length (n-1)=(homeC s n:Nat):=by
           unfold nthV homeC;split
           · rfl
           · rename_i hq
             rw [List.getD_eq_getElem?_getD,List.getElem?_eq_none xo];rfl
          rwa [ev] at this
         have hov:∀h,ovB c s a H (homeC s n) h= !fulB c H h (inH s a h (homeC s n)+1):=fun h=>rfl
         have HH0:=hid (fun lo hi=>home_in (s:=s) (k:=n) (lo:=lo) (hi:=hi) p5 hn);unfold putN;generalize homeC s n=at_ at *;have HI:Hid (∀W b2,Below w.heap.size w W→W.cell? ⟨w.heap.size,0,none⟩=some (.int .u8 c.tag)→W.cell? ⟨w.heap.size,1,none⟩=some (.int .i64 c.most)→W.cell? ⟨w.heap.size,2,none⟩=some (.int .i64 c.seg)→W.cell? ⟨w.heap.size,3,none⟩=some (.int .i64 c.least)→W.cell? ⟨w.heap.size,4,none⟩=some (.int .i64 c.den)→W.cell? ⟨w.heap.size,5,none⟩=some (.int .i64 c.ll)→W.cell? ⟨w.heap.size,6,none⟩=some (.int .i64 c.rl)→W.cell? ⟨w.heap.size,7,none⟩=some (.int .i64 c.rh)→W.cell? ⟨w.heap.size,8,none⟩=some (.int .i64 c.lh)→W.cell? ⟨b2,0,none⟩=some (.int .i64 s.ks.length)→Calls Tryz.prog 23 #[slV s sa,.int .i64 at_,.func (.func 21) #[] #[.pointer (some ⟨w.heap.size,0,none⟩),.pointer (some ⟨b2,0,none⟩)]] W (HighR W a at_ H (topI (ovB c s a H at_) (H+1)))):=hid fun W b2 hb q0 q1 q2 q3 q4 q5 q6 q7 q8 q9=>by
          refine highest_ok s.seg _ _ _ _ _ _ _ _ _ _ _ _ _ a H at_ p6 (ovB c s a H at_) (fun h=>inH s a h at_) 21 _ enters_put1 W (hid fun W' hb'=> ?_) (hid fun h hh W' hb'=> ?_) (hid fun h hh W' hb'=> ?_)
          · exact Path_ok s.seg s.ks.length a H (kn.win hs) at_ xo W'
          · exact among_win kn hin.u sa hcc hh hat W' ((hin.below hb).below hb')
          · have b:=inH_bd kn hin.u hh hat;have cc:∀ {p:Addr} {v:Value},W.cell? p=some v→W'.cell? p=some v:=fun h=>(hb'.cell (World.block_lt_of_cell? _ _ h)).trans h
            exact putIs_ok c s.ks.length h (inH s a h at_) (fulB c H h (inH s a h at_+1)) (inB c h (inH s a h at_+1)) w.heap.size b2 xo W' (cc q0) (cc q1) (cc q2) (cc q3) (cc q4) (cc q5) (cc q6) (cc q7) (cc q8) (cc q9) (hid fun W'' hb''=>Full_ok c s.ks.length a H h kn.cap hh (inH s a h at_+1) xo xo W'')
         by_cases ht:topI (ovB c s a H at_) (H+1)=H
         · rw [if_pos ht];have hLn:(prs s 0 s.ks.length).length=manyC s:=prs_length _ _ _;have hcap:=cap_facts kn (n:=manyC s+1) xo;have hil:(insL (prs s 0 s.ks.length) n (x,y)).length=manyC s+1:=by rw [insL_length (by rw [hLn];exact hn),hLn]
           refine gPut_wide c s.seg _ _ _ _ _ _ _ _ _ _ _ _ _ a H at_ n (2^a*capM c (manyC s+1)) x y _ _ (prs s 0 s.ks.length) (by rw [hLn];omega) (by rw [hLn];exact hn) _ hm hf p6 ht w CK AM HM HI (hid fun W hb=> ?_) (hid fun W hb=> ?_) (hid fun la pl W hb hla=> ?_)
           · have:=Pairs_ok s sa hl hl2 0 s.ks.length W (hin.below hb);have pe:partE s 0 s.ks.length=0:=by rw [partE,if_pos kn.may,if_pos xo]
             rw [prsR,pe,if_pos rfl] at this;exact this
           · have:=Cap_in c hc (manyC s+1:Nat) xo xo W;rw [hLn];rwa [hcap.2.1] at this
           · have:=Into_ok g kn.may sa (capM c (manyC s+1)) hcap.2.2.1 (pwB_two a) hcap.2.2.2.2.2 hcap.2.2.2.1 (insL (prs s 0 s.ks.length) n (x,y)) (by rw [hil];exact hcap.2.2.2.2.1) la pl W (hin.below hb) hla;rw [hil] at this;rw [hLn];exact this
         · rw [if_neg ht];obtain ⟨h,eh,hh,hroom⟩:=put_room kn hin.u hat ht;have hht:(topI (ovB c s a H at_) (H+1)+1).toNat=h:=xo;simp only [hht];have b:=wnd_bd (a:=a) hh (by rw [←kn.nk];exact hat);have e3:=wnd_seg a h at_;have hhi:(wnd a h at_+1)*2^(a+h)≤s.ks.length:=by rw [kn.nk];exact b.2.2.2
           have hlo0:wnd a h at_*2^(a+h)≤at_:=b.2.1;have hhi0:at_<(wnd a h at_+1)*2^(a+h):=b.2.2.1;obtain ⟨k1,k2⟩:=HH0.out _ _ hlo0 hhi0 hhi;have hlen:=prs_length s (wnd a h at_*2^(a+h)) ((wnd a h at_+1)*2^(a+h));have hAH:=fun W (hb:Below w.heap.size w W)=>among_lo kn hin.u sa hcc hh hat W (hin.below hb)
           rw [←e3.2.2] at hhi hhi0 k2 hlen hroom ⊢;have hil:(insL (prs s (wnd a h at_*2^(a+h)) ((wnd a h at_*2^(a+h))+2^(a+h))) (n-cntW s.ws 0 (wnd a h at_*2^(a+h))) (x,y)).length=(prs s (wnd a h at_*2^(a+h)) ((wnd a h at_*2^(a+h))+2^(a+h))).length+1:=insL_length k2 _;have hc2:=cntW_le s.ws (wnd a h at_*2^(a+h)) ((wnd a h at_*2^(a+h))+2^(a+h));refine gPut_with c s.seg _ _ _ _ _ _ _ _ _ _ _ _ _ a H h at_ n (n-cntW s.ws 0 (wnd a h at_*2^(a+h))) x y _ _ (cntW s.ws 0 (wnd a h at_*2^(a+h)):Nat) _ hm hf hh p6 eh ht xo xo w CK AM HM HI (hid hAH) (hid fun W hb=> ?_);rw [show ((wnd a h at_*2^(a+h):Nat):Int)+((2^(a+h):Nat):Int)=((wnd a h at_*2^(a+h)+2^(a+h):Nat):Int) from (Int.natCast_add _ _).symm];refine With_core s.seg sa.wa sa.ka sa.va sa.ca sa.wc sa.kc sa.vc sa.cc s.ws.length s.ks.length s.vs.length s.cs.length s.laid (wnd a h at_*2^(a+h)) ((wnd a h at_*2^(a+h))+2^(a+h)) (n-cntW s.ws 0 (wnd a h at_*2^(a+h))) x y (prs s (wnd a h at_*2^(a+h)) ((wnd a h at_*2^(a+h))+2^(a+h))) xo k2 xo xo (spC s (wnd a h at_*2^(a+h)) ((wnd a h at_*2^(a+h))+2^(a+h)) (insL (prs s (wnd a h at_*2^(a+h)) ((wnd a h at_*2^(a+h))+2^(a+h))) (n-cntW s.ws 0 (wnd a h at_*2^(a+h))) (x,y))) W (hid fun W' hb'=> ?_) (hid fun la pl W' hb' hla=> ?_)
           · have:=Pairs_ok s sa hl hl2 (wnd a h at_*2^(a+h)) ((wnd a h at_*2^(a+h))+2^(a+h):Nat) W' ((hin.below hb).below hb');have pe:partE s (wnd a h at_*2^(a+h)) ((wnd a h at_*2^(a+h))+2^(a+h):Nat)=0:=by rw [partE,if_pos kn.may,if_pos ⟨Int.natCast_nonneg _,Int.ofNat_le.2 (Nat.le_add_right _ _),Int.ofNat_le.2 hhi⟩]
             rw [prsR,pe,if_pos rfl] at this;exact this
           · have:=over_ok g kn.may sa (wnd a h at_*2^(a+h)) ((wnd a h at_*2^(a+h))+2^(a+h)) xo hhi (insL (prs s (wnd a h at_*2^(a+h)) ((wnd a h at_*2^(a+h))+2^(a+h))) (n-cntW s.ws 0 (wnd a h at_*2^(a+h))) (x,y)) (by rw [hil];omega) la pl W' ((hin.below hb).below hb') hla;rw [hil] at this;exact this
 · have e:putE c s k=gapE c s:=by rw [putE,if_neg h0]
   rw [putC,e,if_neg h0];exact gPut_err c s.seg _ _ _ _ _ _ _ _ _ _ _ _ _ k x y _ h0 w CK
end
section
open Go.RowKit Go.Shelf Go.Sort
theorem Of06_ok (seg:Int) (a h at_:Nat) (hs:seg=((2^a:Nat):Int)) (hah:a+h≤22) (hat:at_≤65536) (w:World):
    Calls Tryz.prog 66 #[.int .i64 seg,.int .i64 h,.int .i64 at_] w (AnsB w (.tuple #[.int .i64 ((wnd a h at_*2^(a+h):Nat):Int),.int .i64 (((wnd a h at_*2^(a+h):Nat):Int)+((2^(a+h):Nat):Int))])):=by
 have PW:=hid (fun W=>Pow_any h h rfl xo W);have hp:=Nat.two_pow_pos (a+h);have hb:2^(a+h)≤4194304:=Nat.le_trans (Nat.pow_le_pow_right xo hah) (by decide);have hl1:wnd a h at_≤at_:=Nat.div_le_self _ _;have hl2:wnd a h at_*2^(a+h)≤at_:=Nat.div_mul_le_self at_ (2^(a+h));have hw1:IntKind.i64.wrap (seg*((2^h:Nat):Int))=((2^(a+h):Nat):Int):=by
  have e:seg*((2^h:Nat):Int)=((2^(a+h):Nat):Int):=by rw [hs,Nat.pow_add];push_cast;rfl
  rw [e];exact IntWalk.i64_in _ xo
 have hq0:(at_:Int)/((2^(a+h):Nat):Int)=((wnd a h at_:Nat):Int):=(Int.natCast_ediv at_ (2^(a+h))).symm;have hq:IntKind.i64.wrap ((at_:Int)/((2^(a+h):Nat):Int))=((wnd a h at_:Nat):Int):=by rw [hq0];exact IntWalk.i64_in _ xo
 have hqt:(at_:Int).tdiv ((2^(a+h):Nat):Int)=(at_:Int)/((2^(a+h):Nat):Int):=Int.tdiv_eq_ediv_of_nonneg xo;have hm:IntKind.i64.wrap (((wnd a h at_:Nat):Int)*((2^(a+h):Nat):Int))=((wnd a h at_*2^(a+h):Nat):Int):=by
  have e:((wnd a h at_:Nat):Int)*((2^(a+h):Nat):Int)=((wnd a h at_*2^(a+h):Nat):Int):=by push_cast;rfl
  rw [e];exact IntWalk.i64_in _ xo
 have ha:IntKind.i64.wrap (((wnd a h at_*2^(a+h):Nat):Int)+((2^(a+h):Nat):Int))=((wnd a h at_*2^(a+h):Nat):Int)+((2^(a+h):Nat):Int):=by
  clear hm hq hw1 hq0 hqt;generalize wnd a h at_*2^(a+h)=lo at *;generalize 2^(a+h)=wd at *;exact IntWalk.i64_in _ xo
 have h1:¬((2^(a+h):Nat):Int)=0:=by
  generalize 2^(a+h)=wd at *;omega
 have h0:(((2^(a+h):Nat):Int)==0)=false:=by rw [beq_eq_false_iff_ne];exact h1
 clear hq0 hl1 hl2 hb hs hp;generalize ((wnd a h at_*2^(a+h):Nat):Int)=lo at *;generalize ((2^(a+h):Nat):Int)=wd at *;generalize ((wnd a h at_:Nat):Int)=q at *;generalize ((2^h:Nat):Int)=p at *;go_enter Tryz.func66,Tryz.ntmps66
 go_wp2_with fail
 refine (PW.out _).mono ?_;rintro e w1 ⟨rfl,rfl⟩;go_wp2
 go_ret2
 exact ⟨rfl,Below.refl _ _⟩
theorem Place09_ok (seg:Int) (wa ka va ca:Option Addr) (wc kc vc cc lw n lv lc:Nat) (laid:Int) (k:Nat) (L:List Nat) (hk:k<L.length) (w:World) (PL:Hid (∀W,Below w.heap.size w W→Calls Tryz.prog 98 #[.slice wa lw wc,.int .i64 0,.int .i64 n] W (FreshInts W (ints L)))):
    Calls Tryz.prog 75 #[.agg #[.int .i64 seg,.slice wa lw wc,.slice ka n kc,.slice va lv vc,.slice ca lc cc,.int .u64 laid],.int .i64 k] w (AnsB w (.int .i64 (L.getD k 0:Nat))):=by
 have HK:=hid hk;have HG:=hid (fun (x:Int) (hx:(ints L).getD k 0=x)=>(show ((L.getD k 0:Nat):Int)=x by rw [←hx,getD_ints]));generalize L.getD k 0=z at *;have HL:=hid (ints_length L);clear hk;go_enter Tryz.func75,Tryz.ntmps75
 go_wp2_with fail
 refine (PL.out _ xbel).mono ?_;rintro e w1 ⟨v1,rfl,ho1,hb1⟩;have hz_w1:=hb1.size;try simp only [World.size_alloc,World.size_setCell] at hz_w1
 have hh:=bc6 hb1 (al6 (b:=w.heap.size) (by simp));obtain ⟨c_t0,c_t1,c_t2,c_t3,c_t4,c_t5⟩:=hh;have z_t:=blt hb1 (alz (b:=w.heap.size) (by simp));have hB1:Below w.heap.size w w1:=xbel;obtain ⟨ra,rc,rfl,hi1,-,-,hrc,-⟩:=row_of_owns ho1;rw [HL.out] at hrc ⊢;obtain ⟨b,off,x,rfl,hx,hc,-⟩:=hi1.get (i:=k) (by rw [HL.out];exact HK.out);have HX:=hid (HG.out x hx.out);have hlk:=HK.out;have HB1:=hid hB1;clear hb1 hB1 hi1 ho1 hx HG;generalize L.length=m at *;go_wp2
 go_ret
 exact ⟨by rw [HX.out];rfl,HB1.out⟩
theorem Home09_ok (seg:Int) (wa ka va ca:Option Addr) (wc kc vc cc lw n lv lc:Nat) (laid:Int) (k M:Nat) (p:Nat→Nat) (hk:k≤M) (hk2:k≤65536) (w:World) (MN:Hid (∀W,Below w.heap.size w W→Calls Tryz.prog 29 #[.agg #[.int .i64 seg,.slice wa lw wc,.slice ka n kc,.slice va lv vc,.slice ca lc cc,.int .u64 laid]] W (AnsB W (.int .i64 M))))
    (PL:Hid (∀i:Nat,i<M→∀W,Below w.heap.size w W→Calls Tryz.prog 75 #[.agg #[.int .i64 seg,.slice wa lw wc,.slice ka n kc,.slice va lv vc,.slice ca lc cc,.int .u64 laid],.int .i64 i] W (AnsB W (.int .i64 (p i:Nat))))):
    Calls Tryz.prog 61 #[.agg #[.int .i64 seg,.slice wa lw wc,.slice ka n kc,.slice va lv vc,.slice ca lc cc,.int .u64 laid],.int .i64 k] w (AnsB w (.int .i64 ((if M=0 then 0 else p (k-1):Nat):Int))):=by
 by_cases h0:M=0
 · subst h0;rw [if_pos rfl];clear PL;go_enter Tryz.func61,Tryz.ntmps61
   go_wp2_with fail
   refine (MN.out _ xbel).mono ?_;rintro e w1 ⟨rfl,hb1⟩;have hz_w1:=hb1.size;try simp only [World.size_alloc,World.size_setCell] at hz_w1
   have hh:=bc6 hb1 (al6 (b:=w.heap.size) (by simp));obtain ⟨c_t0,c_t1,c_t2,c_t3,c_t4,c_t5⟩:=hh;have z_t:=blt hb1 (alz (b:=w.heap.size) (by simp));have hB1:Below w.heap.size w w1:=xbel;go_wp2
   go_ret
   exact ⟨rfl,hB1⟩
 · rw [if_neg h0];have g0:((M:Int)==0)=false:=by simp;omega
   rcases Nat.eq_zero_or_pos k with rfl|hk0
   · have P0:=hid (PL.out 0 xo);rw [show 0-1=0 from rfl];clear PL h0;go_enter Tryz.func61,Tryz.ntmps61
     go_wp2_with fail
     refine (MN.out _ xbel).mono ?_;rintro e w1 ⟨rfl,hb1⟩;have hz_w1:=hb1.size;try simp only [World.size_alloc,World.size_setCell] at hz_w1
     have hh:=bc6 hb1 (al6 (b:=w.heap.size) (by simp));obtain ⟨c_t0,c_t1,c_t2,c_t3,c_t4,c_t5⟩:=hh;have z_t:=blt hb1 (alz (b:=w.heap.size) (by simp));have hB1:Below w.heap.size w w1:=xbel;have HB1:=hid hB1;clear hb1 hB1;go_wp2_with fail
     refine (P0.out _ HB1.out).mono ?_;rintro e w2 ⟨rfl,hb2⟩;have hz_w2:=hb2.size;simp (disch:=omega) only [xcl hb2] at c_t0 c_t1 c_t2 c_t3 c_t4 c_t5;replace z_t:=blt hb2 z_t;have HB2:=xv hb2 HB1;go_wp2
     go_ret
     exact ⟨rfl,HB2.out⟩
   · have P0:=hid (PL.out (k-1) xo);have g1:((k:Int)==0)=false:=by simp;omega
     have hw1:IntKind.i64.wrap ((k:Int)-1)=((k-1:Nat):Int):=by rw [show (k:Int)-1=((k-1:Nat):Int) by omega];exact IntWalk.i64_in _ xo
     clear PL h0;go_enter Tryz.func61,Tryz.ntmps61
     go_wp2_with fail
     refine (MN.out _ xbel).mono ?_;rintro e w1 ⟨rfl,hb1⟩;have hz_w1:=hb1.size;try simp only [World.size_alloc,World.size_setCell] at hz_w1
     have hh:=bc6 hb1 (al6 (b:=w.heap.size) (by simp));obtain ⟨c_t0,c_t1,c_t2,c_t3,c_t4,c_t5⟩:=hh;have z_t:=blt hb1 (alz (b:=w.heap.size) (by simp));have hB1:Below w.heap.size w w1:=xbel;have HB1:=hid hB1;clear hb1 hB1;go_wp2_with fail
     refine (P0.out _ HB1.out).mono ?_;rintro e w2 ⟨rfl,hb2⟩;have hz_w2:=hb2.size;simp (disch:=omega) only [xcl hb2] at c_t0 c_t1 c_t2 c_t3 c_t4 c_t5;replace z_t:=blt hb2 z_t;have HB2:=xv hb2 HB1;go_wp2
     go_ret
     exact ⟨rfl,HB2.out⟩
theorem over09_ok (c:Cfg) (seg:Int) (wa ka va ca:Option Addr) (wc kc vc cc lw n lv lc:Nat) (laid:Int) (a H at_:Nat) (hH:H≤14) (p:Nat→Bool) (m:Nat→Int) (hm:∀h,h≤H→0≤m h∧m h≤65536) (w:World)
    (HT:Hid (∀W,Below w.heap.size w W→Calls Tryz.prog 51 #[.agg #[.int .u8 c.tag,.int .i64 c.most,.int .i64 c.seg,.int .i64 c.least,.int .i64 c.den,.int .i64 c.ll,.int .i64 c.rl,.int .i64 c.rh,.int .i64 c.lh],.int .i64 n] W (AnsB W (.int .i64 H))))
    (OF:Hid (∀h:Nat,h≤H→∀W,Below w.heap.size w W→Calls Tryz.prog 66 #[.int .i64 c.seg,.int .i64 h,.int .i64 at_] W (AnsB W (.tuple #[.int .i64 ((wnd a h at_*2^(a+h):Nat):Int),.int .i64 (((wnd a h at_*2^(a+h):Nat):Int)+((2^(a+h):Nat):Int))]))))
    (AM:Hid (∀h:Nat,h≤H→∀W,Below w.heap.size w W→Calls Tryz.prog 60 #[.agg #[.int .i64 seg,.slice wa lw wc,.slice ka n kc,.slice va lv vc,.slice ca lc cc,.int .u64 laid],.int .i64 ((wnd a h at_*2^(a+h):Nat):Int),.int .i64 (((wnd a h at_*2^(a+h):Nat):Int)+((2^(a+h):Nat):Int))] W (AnsB W (.int .i64 (m h)))))
    (NM:Hid (∀h:Nat,h≤H→∀W,Below w.heap.size w W→Calls Tryz.prog 97 #[.agg #[.int .u8 c.tag,.int .i64 c.most,.int .i64 c.seg,.int .i64 c.least,.int .i64 c.den,.int .i64 c.ll,.int .i64 c.rl,.int .i64 c.rh,.int .i64 c.lh],.int .i64 n,.int .i64 h,.int .i64 (m h+1)] W (AnsB W (.bool !(p h))))):
    Calls Tryz.prog 62 #[.agg #[.int .u8 c.tag,.int .i64 c.most,.int .i64 c.seg,.int .i64 c.least,.int .i64 c.den,.int .i64 c.ll,.int .i64 c.rl,.int .i64 c.rh,.int .i64 c.lh],.agg #[.int .i64 seg,.slice wa lw wc,.slice ka n kc,.slice va lv vc,.slice ca lc cc,.int .u64 laid],.int .i64 at_] w (AnsB w (.int .i64 (topI p (H+1)))):=by
 have HM:=hid hm;clear hm;go_enter Tryz.func62,Tryz.ntmps62
 go_wp2_with fail
 refine (HT.out _ xbel).mono ?_;rintro e w1 ⟨rfl,hb1⟩;have hz_w1:=hb1.size;try simp only [World.size_alloc,World.size_setCell] at hz_w1
 have hh:=bc9 hb1 (au9 (al9 (b:=w.heap.size) (by simp)));obtain ⟨c_m0,c_m1,c_m2,c_m3,c_m4,c_m5,c_m6,c_m7,c_m8⟩:=hh;have z_m:=blt hb1 (auz (alz (b:=w.heap.size) (by simp)));have hh:=bc6 hb1 (al6 (b:=w.heap.size+1) (by simp));obtain ⟨c_t0,c_t1,c_t2,c_t3,c_t4,c_t5⟩:=hh;have z_t:=blt hb1 (alz (b:=w.heap.size+1) (by simp));have hB1:Below w.heap.size w w1:=xbel;have HB1:=hid hB1;have hz1:=hB1.size;clear hb1 hB1;go_wp2
 go_loopg [8] (H+1) (fun gk iv wr=>gk≤H+1∧iv= .int .i64 ((gk:Int)-1)∧Hid (topI p (H+1)=topI p gk)∧Hid (Below w1.heap.size w1 wr))
 case atStart=>exact ⟨Nat.le_refl _,by congr 1;omega,hid rfl,hid (Below.refl _ _)⟩
 case round=>
  obtain ⟨hg,rfl,HT2,HB⟩:=hrel;have hbr:=HB.out;have hz_wr:=hbr.size;simp (disch:=omega) only [xcl hbr] at c_m0 c_m1 c_m2 c_m3 c_m4 c_m5 c_m6 c_m7 c_m8 c_t0 c_t1 c_t2 c_t3 c_t4 c_t5;replace z_m:=blt hbr z_m;replace z_t:=blt hbr z_t;have HB2:=hid (below_via hbr HB1.out hz1);rcases Nat.eq_zero_or_pos gk with rfl|hg0
  · have d1:decide ((0:Int)≤((0:Nat):Int)-1)=false:=by decide
    have HV:=hid (HT2.out.trans (topI_zero p));clear hbr;go_wp2
    go_ret
    exact ⟨by rw [HV.out];rfl,HB2.out⟩
  · obtain ⟨h,rfl⟩:∃h,gk=h+1:=⟨gk-1,by omega⟩
    have e1:(((h+1:Nat):Int)-1)=(h:Int):=xo;rw [e1];have hhH:h≤H:=xo;have OF2:=hid (OF.out h hhH);have AM2:=hid (AM.out h hhH);have NM2:=hid (NM.out h hhH);have hmh:=HM.out h hhH;have hmw:IntKind.i64.wrap (m h+1)=m h+1:=IntWalk.i64_in _ xo;have hsub:IntKind.i64.wrap ((h:Int)-1)=(h:Int)-1:=IntWalk.i64_in _ xo;have TY:=hid (fun (q:p h=true)=>topI_yes q);have TN:=hid (fun (q:p h=false)=>topI_no q);generalize m h=mh at *;generalize p h=ph at *;generalize ((wnd a h at_*2^(a+h):Nat):Int)=lo at *;generalize lo+((2^(a+h):Nat):Int)=hi at *;clear hbr e1;go_wp2_with fail
    refine (OF2.out _ HB2.out).mono ?_;rintro e w3 ⟨rfl,hb3⟩;have hz_w3:=hb3.size;simp (disch:=omega) only [xcl hb3] at c_m0 c_m1 c_m2 c_m3 c_m4 c_m5 c_m6 c_m7 c_m8 c_t0 c_t1 c_t2 c_t3 c_t4 c_t5;replace z_m:=blt hb3 z_m;replace z_t:=blt hb3 z_t;have HB3:=xv hb3 HB2;have HC3:=xv hb3 HB;clear hb3;go_upto_region 6 with (fail)
    have K0:=hid (fun d os=>Calls.regrown_of (w:=w3) (d:=d) (os:=os) (AM2.out (grow (redrawn w3 d) os) (below_via (below_regrown w3 d os) HB3.out HB3.out.size)));have K1:=hid (fun d os=>Calls.regrown_of (w:=w3) (d:=d) (os:=os) (NM2.out (grow (redrawn w3 d) os) (below_via (below_regrown w3 d os) HB3.out HB3.out.size)));have q0:=cell_regrown c_m0;have q1:=cell_regrown c_m1;have q2:=cell_regrown c_m2;have q3:=cell_regrown c_m3;have q4:=cell_regrown c_m4;have q5:=cell_regrown c_m5;have q6:=cell_regrown c_m6;have q7:=cell_regrown c_m7;have q8:=cell_regrown c_m8;have q9:=cell_regrown c_t0;have q10:=cell_regrown c_t1;have q11:=cell_regrown c_t2;have q12:=cell_regrown c_t3;have q13:=cell_regrown c_t4;have q14:=cell_regrown c_t5;refine wp_region_quiet_below xk xk ?_;repeat (go_big_quiet_step (first|with_reducible exact K0.out _ _|with_reducible exact K1.out _ _|exact K0.out _ _|exact K1.out _ _))
    refine wpQuiet_nil ?_;intro _ hw';obtain ⟨⟨dq,osq⟩,hw''⟩:=hw';subst hw'';have hbq:=below_regrown w3 dq osq;clear q0 q1 q2 q3 q4 q5 q6 q7 q8 q9 q10 q11 q12 q13 q14 K0 K1;generalize Sort.grow (redrawn w3 dq) osq=wx at *;have HB4:=xv hbq HB3;have HC4:=xv hbq HC3;clear hbq;cases ph with
    | true=>
     have HV:=hid (HT2.out.trans (TY.out rfl));clear TY TN;go_wp2
     go_ret
     exact ⟨by rw [HV.out];rfl,HB4.out⟩
    | false=>
     have HV:=hid (HT2.out.trans (TN.out rfl));clear TY TN;go_wp2
     go_roundg h
     case measure=>omega
     case rel=>exact ⟨by omega,by first|rfl|rw [hsub]|go_num,HV,HC4⟩
theorem under09_ok (c:Cfg) (seg:Int) (wa ka va ca:Option Addr) (wc kc vc cc lw n lv lc:Nat) (laid:Int) (a H at_:Nat) (hH:H≤14) (p:Nat→Bool) (m:Nat→Int) (hm:∀h,h≤H→0≤m h∧m h≤65536) (w:World)
    (HT:Hid (∀W,Below w.heap.size w W→Calls Tryz.prog 51 #[.agg #[.int .u8 c.tag,.int .i64 c.most,.int .i64 c.seg,.int .i64 c.least,.int .i64 c.den,.int .i64 c.ll,.int .i64 c.rl,.int .i64 c.rh,.int .i64 c.lh],.int .i64 n] W (AnsB W (.int .i64 H))))
    (OF:Hid (∀h:Nat,h≤H→∀W,Below w.heap.size w W→Calls Tryz.prog 66 #[.int .i64 c.seg,.int .i64 h,.int .i64 at_] W (AnsB W (.tuple #[.int .i64 ((wnd a h at_*2^(a+h):Nat):Int),.int .i64 (((wnd a h at_*2^(a+h):Nat):Int)+((2^(a+h):Nat):Int))]))))
    (AM:Hid (∀h:Nat,h≤H→∀W,Below w.heap.size w W→Calls Tryz.prog 60 #[.agg #[.int .i64 seg,.slice wa lw wc,.slice ka n kc,.slice va lv vc,.slice ca lc cc,.int .u64 laid],.int .i64 ((wnd a h at_*2^(a+h):Nat):Int),.int .i64 (((wnd a h at_*2^(a+h):Nat):Int)+((2^(a+h):Nat):Int))] W (AnsB W (.int .i64 (m h)))))
    (NM:Hid (∀h:Nat,h≤H→∀W,Below w.heap.size w W→Calls Tryz.prog 78 #[.agg #[.int .u8 c.tag,.int .i64 c.most,.int .i64 c.seg,.int .i64 c.least,.int .i64 c.den,.int .i64 c.ll,.int .i64 c.rl,.int .i64 c.rh,.int .i64 c.lh],.int .i64 n,.int .i64 h,.int .i64 (m h)] W (AnsB W (.bool !(p h))))):
    Calls Tryz.prog 77 #[.agg #[.int .u8 c.tag,.int .i64 c.most,.int .i64 c.seg,.int .i64 c.least,.int .i64 c.den,.int .i64 c.ll,.int .i64 c.rl,.int .i64 c.rh,.int .i64 c.lh],.agg #[.int .i64 seg,.slice wa lw wc,.slice ka n kc,.slice va lv vc,.slice ca lc cc,.int .u64 laid],.int .i64 at_] w (AnsB w (.int .i64 (topI p (H+1)))):=by
 have HM:=hid hm;clear hm;go_enter Tryz.func77,Tryz.ntmps77
 go_wp2_with fail
 refine (HT.out _ xbel).mono ?_;rintro e w1 ⟨rfl,hb1⟩;have hz_w1:=hb1.size;try simp only [World.size_alloc,World.size_setCell] at hz_w1
 have hh:=bc9 hb1 (au9 (al9 (b:=w.heap.size) (by simp)));obtain ⟨c_m0,c_m1,c_m2,c_m3,c_m4,c_m5,c_m6,c_m7,c_m8⟩:=hh;have z_m:=blt hb1 (auz (alz (b:=w.heap.size) (by simp)));have hh:=bc6 hb1 (al6 (b:=w.heap.size+1) (by simp));obtain ⟨c_t0,c_t1,c_t2,c_t3,c_t4,c_t5⟩:=hh;have z_t:=blt hb1 (alz (b:=w.heap.size+1) (by simp));have hB1:Below w.heap.size w w1:=xbel;have HB1:=hid hB1;have hz1:=hB1.size;clear hb1 hB1;go_wp2
 go_loopg [8] (H+1) (fun gk iv wr=>gk≤H+1∧iv= .int .i64 ((gk:Int)-1)∧Hid (topI p (H+1)=topI p gk)∧Hid (Below w1.heap.size w1 wr))
 case atStart=>exact ⟨Nat.le_refl _,by congr 1;omega,hid rfl,hid (Below.refl _ _)⟩
 case round=>
  obtain ⟨hg,rfl,HT2,HB⟩:=hrel;have hbr:=HB.out;have hz_wr:=hbr.size;simp (disch:=omega) only [xcl hbr] at c_m0 c_m1 c_m2 c_m3 c_m4 c_m5 c_m6 c_m7 c_m8 c_t0 c_t1 c_t2 c_t3 c_t4 c_t5;replace z_m:=blt hbr z_m;replace z_t:=blt hbr z_t;have HB2:=hid (below_via hbr HB1.out hz1);rcases Nat.eq_zero_or_pos gk with rfl|hg0
  · have d1:decide ((0:Int)≤((0:Nat):Int)-1)=false:=by decide
    have HV:=hid (HT2.out.trans (topI_zero p));clear hbr;go_wp2
    go_ret
    exact ⟨by rw [HV.out];rfl,HB2.out⟩
  · obtain ⟨h,rfl⟩:∃h,gk=h+1:=⟨gk-1,by omega⟩
    have e1:(((h+1:Nat):Int)-1)=(h:Int):=xo;rw [e1];have hhH:h≤H:=xo;have OF2:=hid (OF.out h hhH);have AM2:=hid (AM.out h hhH);have NM2:=hid (NM.out h hhH);have hmh:=HM.out h hhH;have hmw:IntKind.i64.wrap (m h+1)=m h+1:=IntWalk.i64_in _ xo;have hsub:IntKind.i64.wrap ((h:Int)-1)=(h:Int)-1:=IntWalk.i64_in _ xo;have TY:=hid (fun (q:p h=true)=>topI_yes q);have TN:=hid (fun (q:p h=false)=>topI_no q);generalize m h=mh at *;generalize p h=ph at *;generalize ((wnd a h at_*2^(a+h):Nat):Int)=lo at *;generalize lo+((2^(a+h):Nat):Int)=hi at *;clear hbr e1;go_wp2_with fail
    refine (OF2.out _ HB2.out).mono ?_;rintro e w3 ⟨rfl,hb3⟩;have hz_w3:=hb3.size;simp (disch:=omega) only [xcl hb3] at c_m0 c_m1 c_m2 c_m3 c_m4 c_m5 c_m6 c_m7 c_m8 c_t0 c_t1 c_t2 c_t3 c_t4 c_t5;replace z_m:=blt hb3 z_m;replace z_t:=blt hb3 z_t;have HB3:=xv hb3 HB2;have HC3:=xv hb3 HB;clear hb3;go_upto_region 6 with (fail)
    have K0:=hid (fun d os=>Calls.regrown_of (w:=w3) (d:=d) (os:=os) (AM2.out (grow (redrawn w3 d) os) (below_via (below_regrown w3 d os) HB3.out HB3.out.size)));have K1:=hid (fun d os=>Calls.regrown_of (w:=w3) (d:=d) (os:=os) (NM2.out (grow (redrawn w3 d) os) (below_via (below_regrown w3 d os) HB3.out HB3.out.size)));have q0:=cell_regrown c_m0;have q1:=cell_regrown c_m1;have q2:=cell_regrown c_m2;have q3:=cell_regrown c_m3;have q4:=cell_regrown c_m4;have q5:=cell_regrown c_m5;have q6:=cell_regrown c_m6;have q7:=cell_regrown c_m7;have q8:=cell_regrown c_m8;have q9:=cell_regrown c_t0;have q10:=cell_regrown c_t1;have q11:=cell_regrown c_t2;have q12:=cell_regrown c_t3;have q13:=cell_regrown c_t4;have q14:=cell_regrown c_t5;refine wp_region_quiet_below xk xk ?_;repeat (go_big_quiet_step (first|with_reducible exact K0.out _ _|with_reducible exact K1.out _ _|exact K0.out _ _|exact K1.out _ _))
    refine wpQuiet_nil ?_;intro _ hw';obtain ⟨⟨dq,osq⟩,hw''⟩:=hw';subst hw'';have hbq:=below_regrown w3 dq osq;clear q0 q1 q2 q3 q4 q5 q6 q7 q8 q9 q10 q11 q12 q13 q14 K0 K1;generalize Sort.grow (redrawn w3 dq) osq=wx at *;have HB4:=xv hbq HB3;have HC4:=xv hbq HC3;clear hbq;cases ph with
    | true=>
     have HV:=hid (HT2.out.trans (TY.out rfl));clear TY TN;go_wp2
     go_ret
     exact ⟨by rw [HV.out];rfl,HB4.out⟩
    | false=>
     have HV:=hid (HT2.out.trans (TN.out rfl));clear TY TN;go_wp2
     go_roundg h
     case measure=>omega
     case rel=>exact ⟨by omega,by first|rfl|rw [hsub]|go_num,HV,HC4⟩
end
section
open Go.RowKit
theorem among9_win {c:Cfg} {s:SlC} {a H h at_:Nat} (k:GapN c s a H) (hu:U64s s.ws) (sa:SlA) (hh:h≤H) (hat:at_<s.ks.length) (w:World) (hin:SlIn w s sa):
    Calls Tryz.prog 60 #[slV s sa,.int .i64 ((wnd a h at_*2^(a+h):Nat):Int),.int .i64 (((wnd a h at_*2^(a+h):Nat):Int)+((2^(a+h):Nat):Int))] w (AnsB w (.int .i64 (inH s a h at_))):=by
 obtain ⟨p1,p2,p3,p4,p5,p6⟩:=k.pows;have b:=wnd_bd hh (by rw [←k.nk];exact hat);have e:=wnd_seg a h at_;have hp0:=Nat.two_pow_pos h;have hlt:wnd a h at_*2^h<(wnd a h at_+1)*2^h:=by rw [Nat.succ_mul];omega
 refine Among09_ok s sa (2^a) (wnd a h at_*2^h) ((wnd a h at_+1)*2^h) k.seg p1 p2 _ _ ?_ ?_ xo (by rw [k.nc];exact b.1) p3 k.cnt w hin
 · rw [e.1]
 · rw [←e.2.1,←e.2.2];push_cast;rfl
theorem among9_lo {c:Cfg} {s:SlC} {a H h at_:Nat} (k:GapN c s a H) (hu:U64s s.ws) (sa:SlA) (hh:h≤H) (hat:at_<s.ks.length) (w:World) (hin:SlIn w s sa):
    Calls Tryz.prog 60 #[slV s sa,.int .i64 0,.int .i64 ((wnd a h at_*2^(a+h):Nat):Int)] w (AnsB w (.int .i64 (cntW s.ws 0 (wnd a h at_*2^(a+h)):Nat))):=by
 obtain ⟨p1,p2,p3,p4,p5,p6⟩:=k.pows;obtain ⟨g,-⟩:=gapN_gd k hu;have b:=wnd_bd hh (by rw [←k.nk];exact hat);have e:=wnd_seg a h at_;have hp0:=Nat.two_pow_pos h;have hlt:wnd a h at_*2^h<(wnd a h at_+1)*2^h:=by rw [Nat.succ_mul];omega
 have hle:wnd a h at_*2^h≤2^H:=xo;have:=Among09_ok s sa (2^a) 0 (wnd a h at_*2^h) k.seg p1 p2 0 ((wnd a h at_*2^(a+h):Nat):Int) (by simp) (by rw [e.1]) (Nat.zero_le _) (by rw [k.nc];exact hle) p3 k.cnt w hin;rwa [sumC_cnt2 g (Nat.zero_le _) hle,Nat.zero_mul,←e.1] at this
theorem home9_ok {c:Cfg} {s:SlC} {a H:Nat} (k:GapN c s a H) (sa:SlA) (n:Nat) (hn:n≤manyC s) (w:World) (hin:SlIn w s sa):
    Calls Tryz.prog 61 #[slV s sa,.int .i64 n] w (AnsB w (.int .i64 (homeC s n:Nat))):=by
 obtain ⟨p1,p2,p3,p4,p5,p6⟩:=k.pows;obtain ⟨g,-⟩:=gapN_gd k hin.u;have hmn:manyC s≤s.ks.length:=by have:=cntW_le s.ws 0 s.ks.length;unfold manyC;omega
 have hlen:(plsW s.ws 0 s.ks.length).length=manyC s:=plsW_length _ _ _;have e:homeC s n=if manyC s=0 then 0 else (plsW s.ws 0 s.ks.length).getD (n-1) 0:=by
  unfold homeC;split
  · rename_i h0
    rw [List.getD_eq_getElem?_getD,List.getElem?_eq_none xo];rfl
  · rfl
 rw [e];refine Home09_ok s.seg _ _ _ _ _ _ _ _ _ _ _ _ _ n (manyC s) (fun i=>(plsW s.ws 0 s.ks.length).getD i 0) hn xo w (hid fun W hb=> ?_) (hid fun i hi W hb=> ?_)
 · have:=Many09_ok k sa W (hin.below hb);rwa [sum_many k hin.u] at this
 · exact Place09_ok s.seg _ _ _ _ _ _ _ _ _ _ _ _ _ i (plsW s.ws 0 s.ks.length) xo W (hid fun W' hb'=>Places02_ok sa.wa sa.wc s.ws hin.u 0 s.ks.length (by have:=g.wn;have:=g.elw;omega) xo xo W' ((hin.below hb).below hb').w)
theorem Added09_ok {c:Cfg} {s:SlC} {a H:Nat} (kn:GapN c s a H) (hc:cfMay c=true) (hs:s.seg=c.seg) (sa:SlA) (hz:CapsZ sa) (n:Nat) (hn:n≤manyC s) (hf:(manyC s:Int)<c.most) (x y:Int) (w:World) (hin:SlIn w s sa):
    Calls Tryz.prog 30 #[.agg #[.int .u8 c.tag,.int .i64 c.most,.int .i64 c.seg,.int .i64 c.least,.int .i64 c.den,.int .i64 c.ll,.int .i64 c.rl,.int .i64 c.rh,.int .i64 c.lh],slV s sa,.int .i64 n,.agg #[.int .i64 x,.int .i64 y]] w (FreshSl w (putN c s a H n (x,y))):=by
 obtain ⟨p1,p2,p3,p4,p5,p6⟩:=kn.pows;obtain ⟨g,hlw⟩:=gapN_gd kn hin.u;have hcf:=cfHead_num (cfMay_head hc);have hmn:manyC s≤s.ks.length:=by have:=cntW_le s.ws 0 s.ks.length;unfold manyC;omega
 have hat:=homeC_lt p5 n;have hcseg:c.seg=((2^a:Nat):Int):=kn.cap.seg;have hwn:=g.wn;have hew:=g.elw;have hev:s.vs.length=s.ks.length:=g.elv;have HM:Hid (∀W,Below w.heap.size w W→Calls Tryz.prog 61 #[slV s sa,.int .i64 n] W (AnsB W (.int .i64 (homeC s n:Nat)))):=hid fun W hb=>home9_ok kn sa n hn W (hin.below hb)
 have HT:Hid (∀W,Below w.heap.size w W→Calls Tryz.prog 51 #[.agg #[.int .u8 c.tag,.int .i64 c.most,.int .i64 c.seg,.int .i64 c.least,.int .i64 c.den,.int .i64 c.ll,.int .i64 c.rl,.int .i64 c.rh,.int .i64 c.lh],.int .i64 s.ks.length] W (AnsB W (.int .i64 H))):=hid fun W hb=>by
  have:=Height05_ok c s.ks.length xo xo xo W;rwa [kn.cap.hgt] at this
 have HH0:=hid (fun lo hi=>home_in (s:=s) (k:=n) (lo:=lo) (hi:=hi) p5 hn);unfold putN;generalize homeC s n=at_ at *;have OW:∀h:Nat,h≤H→∀W,Calls Tryz.prog 66 #[.int .i64 c.seg,.int .i64 h,.int .i64 at_] W (AnsB W (.tuple #[.int .i64 ((wnd a h at_*2^(a+h):Nat):Int),.int .i64 (((wnd a h at_*2^(a+h):Nat):Int)+((2^(a+h):Nat):Int))])):=fun h hh W=>Of06_ok c.seg a h at_ hcseg (by have:=kn.cap.a6;omega) xo W
 have OV:Hid (∀W,Below w.heap.size w W→Calls Tryz.prog 62 #[.agg #[.int .u8 c.tag,.int .i64 c.most,.int .i64 c.seg,.int .i64 c.least,.int .i64 c.den,.int .i64 c.ll,.int .i64 c.rl,.int .i64 c.rh,.int .i64 c.lh],slV s sa,.int .i64 at_] W (AnsB W (.int .i64 (topI (ovB c s a H at_) (H+1))))):=hid fun W hb=>by
  refine over09_ok c s.seg _ _ _ _ _ _ _ _ _ _ _ _ _ a H at_ p6 (ovB c s a H at_) (fun h=>inH s a h at_) (fun h hh=>by have:=inH_bd kn hin.u hh hat;omega) W (hid fun W' hb'=>HT.out W' (below_via hb' hb hb.size)) (hid fun h hh W' hb'=>OW h hh W') (hid fun h hh W' hb'=>among9_win kn hin.u sa hh hat W' ((hin.below hb).below hb')) (hid fun h hh W' hb'=> ?_);have b:=inH_bd kn hin.u hh hat;have:=NotMany05_ok c s.ks.length a H h kn.cap hh (inH s a h at_+1) xo xo W';rwa [show fulB c H h (inH s a h at_+1)= !ovB c s a H at_ h by unfold ovB;rw [Bool.not_not]] at this
 by_cases ht:topI (ovB c s a H at_) (H+1)=H
 · rw [if_pos ht];have hLn:(prs s 0 s.ks.length).length=manyC s:=prs_length _ _ _;have hcap:=cap_facts kn (n:=manyC s+1) xo;have hil:(insL (prs s 0 s.ks.length) n (x,y)).length=manyC s+1:=by rw [insL_length (by rw [hLn];exact hn),hLn]
   refine Added_wide c s.seg _ _ _ _ _ _ _ _ _ _ _ _ _ H at_ n _ ((2^a*capM c (manyC s+1):Nat):Int) x y (prs s 0 s.ks.length) (insL (prs s 0 s.ks.length) n (x,y)) _ ht w HM OV HT (hid fun W hb=> ?_) (hid fun la pl W hb hla hlz=> ?_) (hid fun W hb=> ?_) (hid fun la pl W hb hla=> ?_)
   · exact Of04_ok s sa 0 s.ks.length xo xo (Nat.le_refl _) hev xo W (hin.below hb)
   · exact Among08_ok _ xo n xo x y la pl hlz W hla
   · have:=Takes05_ok c (cfMay_head hc) ((manyC s+1:Nat):Int) xo xo W;rw [hil];rwa [hcap.2.1] at this
   · exact Wide08_ok g sa (capM c (manyC s+1)) hcap.2.2.1 hcap.2.2.2.1 _ (by rw [hil];exact hcap.2.2.2.2.1) la pl W hla
 · rw [if_neg ht];obtain ⟨h,eh,hh,hroom⟩:=put_room kn hin.u hat ht;have hht:(topI (ovB c s a H at_) (H+1)+1).toNat=h:=xo;simp only [hht];have b:=wnd_bd (a:=a) hh (by rw [←kn.nk];exact hat);have e3:=wnd_seg a h at_;have hhi:(wnd a h at_+1)*2^(a+h)≤s.ks.length:=by rw [kn.nk];exact b.2.2.2
   have hlo0:wnd a h at_*2^(a+h)≤at_:=b.2.1;have hhi0:at_<(wnd a h at_+1)*2^(a+h):=b.2.2.1;obtain ⟨k1,k2⟩:=HH0.out _ _ hlo0 hhi0 hhi;have hlen:=prs_length s (wnd a h at_*2^(a+h)) ((wnd a h at_+1)*2^(a+h));have hil:=insL_length k2 (x,y);have hc2:=cntW_le s.ws (wnd a h at_*2^(a+h)) ((wnd a h at_+1)*2^(a+h));have ehi:((wnd a h at_*2^(a+h):Nat):Int)+((2^(a+h):Nat):Int)=(((wnd a h at_+1)*2^(a+h):Nat):Int):=by rw [←Int.natCast_add,Nat.succ_mul]
   have hlh:wnd a h at_*2^(a+h)≤(wnd a h at_+1)*2^(a+h):=Nat.mul_le_mul_right _ xo;have eww:(wnd a h at_+1)*2^(a+h)=wnd a h at_*2^(a+h)+2^(a+h):=Nat.succ_mul _ _;refine Added_spread c s.seg _ _ _ _ _ _ _ _ _ _ _ _ _ H at_ n h _ ((wnd a h at_*2^(a+h):Nat):Int) (((wnd a h at_+1)*2^(a+h):Nat):Int) (cntW s.ws 0 (wnd a h at_*2^(a+h)):Nat) (n-cntW s.ws 0 (wnd a h at_*2^(a+h))) x y (prs s (wnd a h at_*2^(a+h)) ((wnd a h at_+1)*2^(a+h))) (insL (prs s (wnd a h at_*2^(a+h)) ((wnd a h at_+1)*2^(a+h))) (n-cntW s.ws 0 (wnd a h at_*2^(a+h))) (x,y)) _ hh p6 eh ht xo xo w HM OV HT (hid fun W hb=> ?_) (hid fun W hb=> ?_) (hid fun W hb=> ?_) (hid fun la pl W hb hla hlz=> ?_) (hid fun la pl W hb hla=> ?_)
   · rw [←ehi];exact OW h hh W
   · exact among9_lo kn hin.u sa hh hat W (hin.below hb)
   · exact Of04_ok s sa _ _ xo xo hhi hev xo W (hin.below hb)
   · exact Among08_ok _ xo _ k2 x y la pl hlz W hla
   · exact Spread08_ok g hlw sa hz _ _ hlh hhi _ xo la pl W (hin.below hb) hla
end
section
open Go.RowKit
end
section
open Go.RowKit
def cntH (ws:List Int) (a h i:Nat):Nat:=cntW ws (i*2^(a+h)) ((i+1)*2^(a+h))
theorem win_apart {w i i':Nat} (h:i≠i'):(i+1)*w≤i'*w∨(i'+1)*w≤i*w:=by
 rcases Nat.lt_or_ge i i' with q|q
 · exact .inl (Nat.mul_le_mul_right _ q)
 · exact .inr (Nat.mul_le_mul_right _ xo)
theorem gapN_mk {c:Cfg} {z:SlC} {a H n:Nat} (k:CapC c n a H) (g:SlGd z (2^a) ((n+63)/64) n (2^H)):GapN c z a H:=by
 have hm:=gd_may g (pwB_two a) (pwB_two H) rfl;have hn:n=2^a*2^H:=by have:=k.all;omega
 have hm':=hm;simp only [slMay,Bool.and_eq_true] at hm';exact ⟨by rw [g.elk];exact k,g.seg,by rw [g.elk,hn],by rw [g.elv,hn],g.elc,cntB_bd g.seg hm'.2,hm⟩
theorem cnt_tk {c:SlC} {S lw n lc:Nat} (h:SlGd c S lw n lc) {i:Nat} (hi:i<n) (hb:bitW c.ws i=true) (x y:Nat):cntW c.ws x y=cntW (tkC c i).ws x y+if x≤i∧i<y then 1 else 0:=
  cntW_clr h.u (by rw [h.elw];have:=h.wn;omega) hb x y
theorem take_in {c:Cfg} {s:SlC} {a H:Nat} (k:GapN c s a H) (hu:U64s s.ws) {at_:Nat} (hat:at_<s.ks.length) (hb:bitW s.ws at_=true):
    GapN c (tkC s at_) a H∧SlGd (tkC s at_) (2^a) ((s.ks.length+63)/64) s.ks.length (2^H)∧(tkC s at_).ks.length=s.ks.length∧
    (∀j,j≤H→∀i,i≠wnd a j at_→cntH (tkC s at_).ws a j i=cntH s.ws a j i)∧(∀j,j≤H→cntH (tkC s at_).ws a j (wnd a j at_)+1=cntH s.ws a j (wnd a j at_))∧manyC (tkC s at_)+1=manyC s:=by
 obtain ⟨g,-⟩:=gapN_gd k hu;have gt:=g.tk hat;have hn:=k.nk;refine ⟨gapN_mk k.cap gt,gt,gt.elk,fun j hj i hi=> ?_,fun j hj=> ?_,?_⟩
 · obtain ⟨-,c2,c3,-⟩:=wnd_bd (a:=a) (at_:=at_) hj (by rw [←hn];exact hat);have:=cnt_tk g hat hb (i*2^(a+j)) ((i+1)*2^(a+j));rw [if_neg (by rcases win_apart (w:=2^(a+j)) hi with r|r<;>omega)] at this;exact this.symm
 · obtain ⟨-,c2,c3,-⟩:=wnd_bd (a:=a) (at_:=at_) hj (by rw [←hn];exact hat);have:=cnt_tk g hat hb (wnd a j at_*2^(a+j)) ((wnd a j at_+1)*2^(a+j));rw [if_pos ⟨c2,c3⟩] at this;exact this.symm
 · have:=cnt_tk g hat hb 0 s.ks.length;rw [if_pos ⟨by omega,hat⟩] at this;unfold manyC;rw [gt.elk];exact this.symm
end
end Go.Proofs.YtookgoidlnlckaaGreatDoor

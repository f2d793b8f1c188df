/- Merged: SlChk, Prs, Ref02, Of04, May04, Seek, IdxTree, DownPlain, DownMay, IdxLaw, Split, DownLaw, LeafLaw, HomLaw, DownPl, Find, IdxTwin, IdxFns, IdxLeaf, HeapFirst, Tree18, VebRef. -/
import Derived.Test.YtbedhbpgnfffmaaGreatDoorCobAnswersP2
import Derived.Test.YtbedhbpgnfffmaaGreatDoorCobAnswersP1
namespace Go.Proofs.YtbedhbpgnfffmaaGreatDoor
set_option maxRecDepth 100000
set_option maxHeartbeats 40000000
set_option linter.unusedVariables false
set_option linter.unusedSimpArgs false
section
open Go.RowKit
def Ku (ws ks vs:List Int) (i:Nat):Bool:=bG ws i||(ks.getD i 0==0&&vs.getD i 0==0)
def FH (ai:Int) (ws cs:List Int) (k:Nat):Bool:=cs.getD k 0==(dD ws (k*ai.toNat) ((k+1)*ai.toNat):Int)
theorem UY (c:aW) (h:mV c=true):fV c=((List.range c.ks.length).all (Ku c.ws c.ks c.vs)&&(List.range c.cs.length).all (FH c.ai c.ws c.cs)):=by
 rw [fV,h,Bool.true_and];rfl
theorem kL {c:aW} (h:fV c=true):mV c=true:=by
 simp only [fV,Bool.and_eq_true] at h;exact h.1.1
theorem yw {p:Nat->Bool} {n:Nat}:(List.range n).all p=true↔∀i,i<n->p i=true:=by
 simp [List.all_eq_true]
theorem Ij {p:Nat->Bool} {n i:Nat} (h:i<n) (hp:p i=false):(List.range n).all p=false:=by
 rw [List.all_eq_false];exact ⟨i,List.mem_range.2 h,by simp [hp]⟩
theorem MQ (c:aW) (a:jJ) (hh:mV c=true) (w:World) (hin:iy w c a):
    Calls Tryz.prog 95 #[jB c a] w (aC w (.int .i64 (A8 c))):=by
 obtain ⟨S,M,hS,hS4,Eh,hnk,Qc,hnc,hM1,hSM,hM2,hnw,-,-,-⟩:=dW hh;have he:=UY c hh;simp only [mV,Bool.and_eq_true,decide_eq_true_eq] at hh;obtain ⟨⟨⟨hf,-⟩,hwm⟩,-⟩:=hh;rw [hnk] at hf hwm;obtain ⟨R,hR⟩:∃R,A8 c=R:=⟨_,rfl⟩
 have hR2:R=if ((List.range c.ks.length).all (Ku c.ws c.ks c.vs)&&(List.range c.cs.length).all (FH c.ai c.ws c.cs))=true then 0 else 8:=by rw [<-hR,A8,he]
 rw [hR];clear he hR;obtain ⟨ai,ws,ks,vs,cs,laid⟩:=c;obtain ⟨wa,ka,va,ca,wc,kc,vc,cc⟩:=a;obtain ⟨hw,hk,hv,hcn,hu⟩:=hin;dsimp only at *;subst hS;have HW:=hid hw;have HK:=hid hk;have HV:=hid hv;have HN:=hid hcn;have HU:=hid hu;obtain ⟨n,hn⟩:∃n,S*M=n:=⟨_,rfl⟩
 rw [hn] at hnk Qc hnw hf hwm hSM;have HLW:=hid hnw;have F1:=hid (fun w=>Bv S n w);rw [hf] at F1;have O1:=hid (fun w hw=>oL wa wc ws hu n hSM xo w hw);have C1:=hid (fun k (h:k<M) w hw=>LC wa wc ws hu n (k*S) ((k+1)*S) hSM xo hwm (Nat.mul_le_mul_right _ xo) (by rw [<-hn,Nat.mul_comm S];exact Nat.mul_le_mul_right _ xo) w hw);rw [if_pos hwm] at O1;have VY:(n:Int)/(S:Int)=(M:Int):=by rw [<-hn];push_cast;exact Int.mul_ediv_cancel_left _ xo
 have hqM:((M:Int) != wrap64 ((n:Int)/(S:Int)))=false:=by rw [VY,IntWalk.wrap64_in _ xo];simp
 have htd:(n:Int).tdiv S=(n:Int)/S:=Int.tdiv_eq_ediv_of_nonneg xo;have hS0:((S:Int)==0)=false:=by simp;omega
 have HRR:=hid hR2;have XG:=hid hnk;have HVL:=hid Qc;have HCL:=hid hnc;have HNM:=hid hn;obtain ⟨lw,wF⟩:∃lw,ws.length=lw:=⟨_,rfl⟩
 dsimp only [jB];rw [hnk,Qc,hnc,wF];rw [wF] at O1 C1;have HLL:=hid wF;clear hw hk hv hcn hu hf hwm hR2 hnk Qc hnc hnw wF VY hn;have g1:(!true)=false:=rfl;go_enter Tryz.func95,Tryz.ntmps95
 go_wp2
 have d0:(w.alloc (.cells #[.int .i64 (S:Int),.slice wa lw wc,.slice ka n kc,.slice va n vc,.slice ca M cc,.int .u64 laid] 29)).cell? ⟨w.heap.size,0,none⟩=some (.int .i64 (S:Int)):=iP;have d1:(w.alloc (.cells #[.int .i64 (S:Int),.slice wa lw wc,.slice ka n kc,.slice va n vc,.slice ca M cc,.int .u64 laid] 29)).cell? ⟨w.heap.size,1,none⟩=some (.slice wa lw wc):=iP;have d2:(w.alloc (.cells #[.int .i64 (S:Int),.slice wa lw wc,.slice ka n kc,.slice va n vc,.slice ca M cc,.int .u64 laid] 29)).cell? ⟨w.heap.size,2,none⟩=some (.slice ka n kc):=iP;have d3:(w.alloc (.cells #[.int .i64 (S:Int),.slice wa lw wc,.slice ka n kc,.slice va n vc,.slice ca M cc,.int .u64 laid] 29)).cell? ⟨w.heap.size,3,none⟩=some (.slice va n vc):=iP;have d4:(w.alloc (.cells #[.int .i64 (S:Int),.slice wa lw wc,.slice ka n kc,.slice va n vc,.slice ca M cc,.int .u64 laid] 29)).cell? ⟨w.heap.size,4,none⟩=some (.slice ca M cc):=iP;have HB0:Hid (Below w.heap.size w (w.alloc (.cells #[.int .i64 (S:Int),.slice wa lw wc,.slice ka n kc,.slice va n vc,.slice ca M cc,.int .u64 laid] 29))):=hid (br.alloc (Nat.le_refl _) _);have hz0:w.heap.size<(w.alloc (.cells #[.int .i64 (S:Int),.slice wa lw wc,.slice ka n kc,.slice va n vc,.slice ca M cc,.int .u64 laid] 29)).heap.size:=by simp
 generalize (w.alloc (.cells #[.int .i64 (S:Int),.slice wa lw wc,.slice ka n kc,.slice va n vc,.slice ca M cc,.int .u64 laid] 29))=w1 at *;have Q1:=hid (fun q=>Calls.quiet_of_same ((F1.out (w1.drewN q)).mono fun _ _ h=>⟨h.1,h.2.symm⟩));have Q2:=hid (fun q=>Calls.quiet_of_same ((O1.out (w1.drewN q) (HW.out.below (below_drewN HB0.out q))).mono fun _ _ h=>⟨h.1,h.2.symm⟩));go_quiet (first|exact Q1.out _|exact Q2.out _)
 have HB1:=hid (below_drewN HB0.out nq);replace d0:(w1.drewN nq).cell? ⟨w.heap.size,0,none⟩=some (.int .i64 (S:Int)):=d0;replace d1:(w1.drewN nq).cell? ⟨w.heap.size,1,none⟩=some (.slice wa lw wc):=d1;replace d2:(w1.drewN nq).cell? ⟨w.heap.size,2,none⟩=some (.slice ka n kc):=d2;replace d3:(w1.drewN nq).cell? ⟨w.heap.size,3,none⟩=some (.slice va n vc):=d3;replace d4:(w1.drewN nq).cell? ⟨w.heap.size,4,none⟩=some (.slice ca M cc):=d4;replace hz0:w.heap.size<(w1.drewN nq).heap.size:=by simpa using hz0
 generalize w1.drewN nq=w2 at *;clear Q1 Q2 HB0;go_wp2
 go_loopg [42] n (fun gk iv wr=>∃i:Nat,i+gk=n/\iv= .int .i64 i/\wr=w2/\Hid (∀j,j<i->Ku ws ks vs j=true))
 case atStart=>exact ⟨0,by omega,rfl,rfl,hid (fun j h=>by omega)⟩
 case round=>
  obtain ⟨i,hi,rfl,rfl,HA⟩:=hrel;by_cases hlt:i<n
  . have hg:=HU.out.get (i/64);obtain ⟨bw,ow,x,rfl,hx,cw,-⟩:=(HW.out.below HB1.out).get (i:=i/64) (by have:=HLL.out;have:=HLW.out;omega);obtain ⟨bk,ok,kx,rfl,hkx,ck,-⟩:=(HK.out.below HB1.out).get (i:=i) (by rw [XG.out];exact hlt);obtain ⟨bv,ov,vx,rfl,hvx,cv,-⟩:=(HV.out.below HB1.out).get (i:=i) (by rw [HVL.out];exact hlt);rw [hx.out] at hg;have hbit:bG ws i=je x (i%64):=by rw [bG,hx.out]
    have hand:=yu hg.1 hg.2 (i%64);have Eg:Ku ws ks vs i=(bG ws i||(kx==0&&vx==0)):=by unfold Ku;rw [hkx.out,hvx.out]
    rw [hbit] at Eg;obtain ⟨q,hq⟩:∃q,i/64=q:=⟨_,rfl⟩
    obtain ⟨r,hr⟩:∃r,i%64=r:=⟨_,rfl⟩
    have VY:(i:Int)/64=(q:Int):=xo;have hrI:(i:Int)%64=(r:Int):=xo;have hql:q<lw:=by have:=HLL.out;have:=HLW.out;omega
    have YU:r<64:=xo;rw [hq] at cw;rw [hr] at hand Eg;generalize je x r=bt at *;clear hx hkx hvx hq hr hbit;cases bt with
    | true=>
     rw [if_pos rfl] at hand;have HC:=hid Eg;clear Eg;go_wp2
     go_roundg (gk-1)
     case measure=>omega
     case rel=>
      refine ⟨i+1,by omega,by go_num,rfl,hid (fun j hj=> ?_)⟩;by_cases e:j=i
      . rw [e,HC.out];rfl
      . exact HA.out j xo
    | false=>
     rw [if_neg au] at hand;by_cases hk0:kx=0
     . by_cases hv0:vx=0
       . subst hk0 hv0;have HC:=hid Eg;clear Eg;go_wp2
         go_roundg (gk-1)
         case measure=>omega
         case rel=>
          refine ⟨i+1,by omega,by go_num,rfl,hid (fun j hj=> ?_)⟩;by_cases e:j=i
          . rw [e,HC.out];rfl
          . exact HA.out j xo
       . subst hk0;have hv1:(vx != 0)=true:=by simpa using hv0
         have hR8:R=8:=by
          rw [HRR.out,XG.out,Ij hlt (by rw [Eg];simp [hv0]),Bool.false_and];rfl
         subst hR8;clear Eg;go_wp2
         go_ret
         exact ⟨rfl,HB1.out⟩
     . have hk1:(kx != 0)=true:=by simpa using hk0
       have hR8:R=8:=by
        rw [HRR.out,XG.out,Ij hlt (by rw [Eg];simp [hk0]),Bool.false_and];rfl
       subst hR8;clear Eg;go_wp2
       go_ret
       exact ⟨rfl,HB1.out⟩
  . have hin:n=i:=xo;subst hin;have XH:=hid (yw.2 (fun j (hj:j<n)=>HA.out j xo));clear HA;go_wp2
    go_loopg [76] M (fun gk iv wr=>∃k:Nat,k+gk=M/\iv= .int .i64 k/\wr.cell? ⟨w.heap.size,0,none⟩=some (.int .i64 (S:Int))/\wr.cell? ⟨w.heap.size,1,none⟩=some (.slice wa lw wc)/\Hid (Below w.heap.size w wr)/\w.heap.size<wr.heap.size/\Hid (∀j,j<k->FH S ws cs j=true))
    case atStart=>exact ⟨0,by omega,rfl,d0,d1,HB1,hz0,hid (fun j h=>by omega)⟩
    case round=>
     obtain ⟨k,hk,rfl,e0,e1,HB,hz,HA2⟩:=hrel;by_cases hlt2:k<M
     . obtain ⟨bn,on,y,rfl,hy,cy,-⟩:=(HN.out.below HB.out).get (i:=k) (by rw [HCL.out];exact hlt2);have hca:FH S ws cs k=(y==(dD ws (k*S) ((k+1)*S):Int)):=by unfold FH;rw [hy.out,Int.toNat_natCast]
       have hcw:=C1.out k hlt2 wr (HW.out.below HB.out);have hk1:(k:Int)*(S:Int)=((k*S:Nat):Int):=by push_cast;rfl
       have hk2:((k:Int)+1)*(S:Int)=(((k+1)*S:Nat):Int):=by push_cast;rfl
       have ad4:k*S<=n:=by rw [<-HNM.out,Nat.mul_comm S];exact Nat.mul_le_mul_right _ xo
       have hkb2:(k+1)*S<=n:=by rw [<-HNM.out,Nat.mul_comm S];exact Nat.mul_le_mul_right _ xo
       generalize dD ws (k*S) ((k+1)*S)=z at *;generalize k*S=p1 at *;generalize (k+1)*S=p2 at *;have HCW:=hid hcw;clear hcw hy;by_cases hyz:y=(z:Int)
       . subst hyz;have HCA:=hid hca;clear hca;go_wp2_with fail
         refine HCW.out.mono ?_;rintro e w3 ⟨rfl,hb3⟩;replace e0:=(hb3.cell (p:=⟨w.heap.size,0,none⟩) hz).trans e0;replace e1:=(hb3.cell (p:=⟨w.heap.size,1,none⟩) hz).trans e1;have HB3:=hid (aj hb3 HB.out xo);have hz3:w.heap.size<w3.heap.size:=by have:=hb3.size;omega
         clear hb3;go_wp2
         go_roundg (gk-1)
         case measure=>omega
         case rel=>
          refine ⟨k+1,by omega,by go_num,e0,e1,HB3,hz3,hid (fun j hj=> ?_)⟩;by_cases e:j=k
          . rw [e,HCA.out];simp
          . exact HA2.out j xo
       . have hne:((z:Int) != y)=true:=by simp;omega
         have hR8:R=8:=by
          rw [HRR.out,HCL.out,Ij (p:=FH S ws cs) hlt2 (by rw [hca];simpa using hyz),Bool.and_false];rfl
         subst hR8;clear hca;go_wp2_with fail
         refine HCW.out.mono ?_;rintro e w3 ⟨rfl,hb3⟩;have HB3:=hid (aj hb3 HB.out xo);clear hb3;go_wp2
         go_ret
         exact ⟨rfl,HB3.out⟩
     . have hR0:R=0:=by
         rw [HRR.out,XG.out,HCL.out,XH.out,yw.2 (fun j (hj:j<M)=>HA2.out j xo)];rfl
       subst hR0;go_wp2
       go_ret
       exact ⟨rfl,HB.out⟩
theorem Jg (c:aW) (a:jJ) (hh:mV c=false) (hl:c.ws.length<=9223372036854775807) (hl2:c.ks.length<=1000000000000) (w:World) (hin:iy w c a):
    Calls Tryz.prog 95 #[jB c a] w (aC w (.int .i64 (A8 c))):=by
 have he:A8 c=8:=by rw [A8,fV,hh];rfl
 rw [he];clear he;obtain ⟨ai,ws,ks,vs,cs,laid⟩:=c;obtain ⟨wa,ka,va,ca,wc,kc,vc,cc⟩:=a;obtain ⟨hw,-,-,-,hu⟩:=hin;dsimp only at *;dsimp only [jB];simp only [mV] at hh;have HW:=hid hw;have F1:=hid (fun w=>Bv ai ks.length w);cases hf:rM ai ks.length with
 | false=>
  rw [hf] at F1;clear hh hf;generalize ws.length=lw at *;generalize ks.length=n at *;generalize vs.length=lv at *;generalize cs.length=lc at *;clear hw hu;go_enter Tryz.func95,Tryz.ntmps95
  go_wp2
  have d0:(w.alloc (.cells #[.int .i64 ai,.slice wa lw wc,.slice ka n kc,.slice va lv vc,.slice ca lc cc,.int .u64 laid] 29)).cell? ⟨w.heap.size,0,none⟩=some (.int .i64 ai):=iP;have d1:(w.alloc (.cells #[.int .i64 ai,.slice wa lw wc,.slice ka n kc,.slice va lv vc,.slice ca lc cc,.int .u64 laid] 29)).cell? ⟨w.heap.size,1,none⟩=some (.slice wa lw wc):=iP;have d3:(w.alloc (.cells #[.int .i64 ai,.slice wa lw wc,.slice ka n kc,.slice va lv vc,.slice ca lc cc,.int .u64 laid] 29)).cell? ⟨w.heap.size,3,none⟩=some (.slice va lv vc):=iP;have d4:(w.alloc (.cells #[.int .i64 ai,.slice wa lw wc,.slice ka n kc,.slice va lv vc,.slice ca lc cc,.int .u64 laid] 29)).cell? ⟨w.heap.size,4,none⟩=some (.slice ca lc cc):=iP;have HB0:Hid (Below w.heap.size w (w.alloc (.cells #[.int .i64 ai,.slice wa lw wc,.slice ka n kc,.slice va lv vc,.slice ca lc cc,.int .u64 laid] 29))):=hid (br.alloc (Nat.le_refl _) _);generalize (w.alloc (.cells #[.int .i64 ai,.slice wa lw wc,.slice ka n kc,.slice va lv vc,.slice ca lc cc,.int .u64 laid] 29))=w1 at *;have Q1:=hid (fun q=>Calls.quiet_of_same ((F1.out (w1.drewN q)).mono fun _ _ h=>⟨h.1,h.2.symm⟩));go_quiet (exact Q1.out _)
  go_wp2
  go_ret
  exact ⟨rfl,below_drewN HB0.out _⟩
 | true=>
  rw [hf] at F1 hh;obtain ⟨f1,f2,-,f4,f5,f6,-⟩:=Dv hf;have O1:=hid (fun w hw=>oL wa wc ws hu ks.length xo hl w hw);clear hf;by_cases c2:vs.length=ks.length
  . have hv1:((vs.length:Int) != (ks.length:Int))=false:=by simp [c2]
    rw [decide_eq_true c2,Bool.true_and,Bool.true_and] at hh;cases hwm:j_ ws ks.length with
    | true=>
     rw [hwm,Bool.true_and,decide_eq_false_iff_not] at hh;rw [hwm,if_pos rfl] at O1;have hd0:0<=(ks.length:Int)/ai:=Int.ediv_nonneg xo xo;have hd1:(ks.length:Int)/ai<=ks.length:=Int.ediv_le_self _ xo;have hqM:((cs.length:Int) != wrap64 ((ks.length:Int)/ai))=true:=by
      rw [IntWalk.wrap64_in _ xo];simpa using hh
     have htd:(ks.length:Int).tdiv ai=(ks.length:Int)/ai:=Int.tdiv_eq_ediv_of_nonneg xo;have hS0:(ai==0)=false:=by simp;omega
     clear hh hwm hd0 hd1 c2;generalize ws.length=lw at *;generalize ks.length=n at *;generalize vs.length=lv at *;generalize cs.length=lc at *;clear hw hu;go_enter Tryz.func95,Tryz.ntmps95
     go_wp2
     have d0:(w.alloc (.cells #[.int .i64 ai,.slice wa lw wc,.slice ka n kc,.slice va lv vc,.slice ca lc cc,.int .u64 laid] 29)).cell? ⟨w.heap.size,0,none⟩=some (.int .i64 ai):=iP;have d1:(w.alloc (.cells #[.int .i64 ai,.slice wa lw wc,.slice ka n kc,.slice va lv vc,.slice ca lc cc,.int .u64 laid] 29)).cell? ⟨w.heap.size,1,none⟩=some (.slice wa lw wc):=iP;have d3:(w.alloc (.cells #[.int .i64 ai,.slice wa lw wc,.slice ka n kc,.slice va lv vc,.slice ca lc cc,.int .u64 laid] 29)).cell? ⟨w.heap.size,3,none⟩=some (.slice va lv vc):=iP;have d4:(w.alloc (.cells #[.int .i64 ai,.slice wa lw wc,.slice ka n kc,.slice va lv vc,.slice ca lc cc,.int .u64 laid] 29)).cell? ⟨w.heap.size,4,none⟩=some (.slice ca lc cc):=iP;have HB0:Hid (Below w.heap.size w (w.alloc (.cells #[.int .i64 ai,.slice wa lw wc,.slice ka n kc,.slice va lv vc,.slice ca lc cc,.int .u64 laid] 29))):=hid (br.alloc (Nat.le_refl _) _);generalize (w.alloc (.cells #[.int .i64 ai,.slice wa lw wc,.slice ka n kc,.slice va lv vc,.slice ca lc cc,.int .u64 laid] 29))=w1 at *;have Q1:=hid (fun q=>Calls.quiet_of_same ((F1.out (w1.drewN q)).mono fun _ _ h=>⟨h.1,h.2.symm⟩));have Q2:=hid (fun q=>Calls.quiet_of_same ((O1.out (w1.drewN q) (HW.out.below (below_drewN HB0.out q))).mono fun _ _ h=>⟨h.1,h.2.symm⟩));go_quiet (first|exact Q1.out _|exact Q2.out _)
     go_wp2
     go_ret
     exact ⟨rfl,below_drewN HB0.out _⟩
    | false=>
     rw [hwm,if_neg au] at O1;clear hh hwm c2;generalize ws.length=lw at *;generalize ks.length=n at *;generalize vs.length=lv at *;generalize cs.length=lc at *;clear hw hu;go_enter Tryz.func95,Tryz.ntmps95
     go_wp2
     have d0:(w.alloc (.cells #[.int .i64 ai,.slice wa lw wc,.slice ka n kc,.slice va lv vc,.slice ca lc cc,.int .u64 laid] 29)).cell? ⟨w.heap.size,0,none⟩=some (.int .i64 ai):=iP;have d1:(w.alloc (.cells #[.int .i64 ai,.slice wa lw wc,.slice ka n kc,.slice va lv vc,.slice ca lc cc,.int .u64 laid] 29)).cell? ⟨w.heap.size,1,none⟩=some (.slice wa lw wc):=iP;have d3:(w.alloc (.cells #[.int .i64 ai,.slice wa lw wc,.slice ka n kc,.slice va lv vc,.slice ca lc cc,.int .u64 laid] 29)).cell? ⟨w.heap.size,3,none⟩=some (.slice va lv vc):=iP;have d4:(w.alloc (.cells #[.int .i64 ai,.slice wa lw wc,.slice ka n kc,.slice va lv vc,.slice ca lc cc,.int .u64 laid] 29)).cell? ⟨w.heap.size,4,none⟩=some (.slice ca lc cc):=iP;have HB0:Hid (Below w.heap.size w (w.alloc (.cells #[.int .i64 ai,.slice wa lw wc,.slice ka n kc,.slice va lv vc,.slice ca lc cc,.int .u64 laid] 29))):=hid (br.alloc (Nat.le_refl _) _);generalize (w.alloc (.cells #[.int .i64 ai,.slice wa lw wc,.slice ka n kc,.slice va lv vc,.slice ca lc cc,.int .u64 laid] 29))=w1 at *;have Q1:=hid (fun q=>Calls.quiet_of_same ((F1.out (w1.drewN q)).mono fun _ _ h=>⟨h.1,h.2.symm⟩));have Q2:=hid (fun q=>Calls.quiet_of_same ((O1.out (w1.drewN q) (HW.out.below (below_drewN HB0.out q))).mono fun _ _ h=>⟨h.1,h.2.symm⟩));go_quiet (first|exact Q1.out _|exact Q2.out _)
     go_wp2
     go_ret
     exact ⟨rfl,below_drewN HB0.out _⟩
  . have hv1:((vs.length:Int) != (ks.length:Int))=true:=by simp;omega
    clear hh c2;generalize ws.length=lw at *;generalize ks.length=n at *;generalize vs.length=lv at *;generalize cs.length=lc at *;clear hw hu;go_enter Tryz.func95,Tryz.ntmps95
    go_wp2
    have d0:(w.alloc (.cells #[.int .i64 ai,.slice wa lw wc,.slice ka n kc,.slice va lv vc,.slice ca lc cc,.int .u64 laid] 29)).cell? ⟨w.heap.size,0,none⟩=some (.int .i64 ai):=iP;have d1:(w.alloc (.cells #[.int .i64 ai,.slice wa lw wc,.slice ka n kc,.slice va lv vc,.slice ca lc cc,.int .u64 laid] 29)).cell? ⟨w.heap.size,1,none⟩=some (.slice wa lw wc):=iP;have d3:(w.alloc (.cells #[.int .i64 ai,.slice wa lw wc,.slice ka n kc,.slice va lv vc,.slice ca lc cc,.int .u64 laid] 29)).cell? ⟨w.heap.size,3,none⟩=some (.slice va lv vc):=iP;have d4:(w.alloc (.cells #[.int .i64 ai,.slice wa lw wc,.slice ka n kc,.slice va lv vc,.slice ca lc cc,.int .u64 laid] 29)).cell? ⟨w.heap.size,4,none⟩=some (.slice ca lc cc):=iP;have HB0:Hid (Below w.heap.size w (w.alloc (.cells #[.int .i64 ai,.slice wa lw wc,.slice ka n kc,.slice va lv vc,.slice ca lc cc,.int .u64 laid] 29))):=hid (br.alloc (Nat.le_refl _) _);generalize (w.alloc (.cells #[.int .i64 ai,.slice wa lw wc,.slice ka n kc,.slice va lv vc,.slice ca lc cc,.int .u64 laid] 29))=w1 at *;have Q1:=hid (fun q=>Calls.quiet_of_same ((F1.out (w1.drewN q)).mono fun _ _ h=>⟨h.1,h.2.symm⟩));go_quiet (exact Q1.out _)
    go_wp2
    go_ret
    exact ⟨rfl,below_drewN HB0.out _⟩
theorem lV (c:aW) (a:jJ) (hl:c.ws.length<=9223372036854775807) (hl2:c.ks.length<=1000000000000) (w:World) (hin:iy w c a):
    Calls Tryz.prog 95 #[jB c a] w (aC w (.int .i64 (A8 c))):=by
 cases hh:mV c with
 | true=>exact MQ c a hh w hin
 | false=>exact Jg c a hh hl hl2 w hin
end
section
open Go.RowKit Go.Shelf
attribute [local go_sem] Oper.semAt_some
theorem mi:(Tryz.prog.info? 60).map (fun i=>(i.zero,i.size,i.bytes))=some (some (.agg #[.int .i64 0,.int .i64 0]),2,16):=by kernel_rfl
def lC (l:List (Int×Int)):List Int:=l.flatMap fun p=>[p.1,p.2]
theorem nY (a b:List (Int×Int)):lC (a++b)=lC a++lC b:=by simp [lC]
theorem gp (l:List (Int×Int)):(lC l).length=l.length*2:=by
 induction l with
 | nil=>rfl
 | cons p r ih=>rw [show lC (p::r)=[p.1,p.2]++lC r from rfl,List.length_append,ih];simp;omega
theorem Gx {l:List (Int×Int)} {i:Nat} (h:i<l.length):(lC l).getD (i*2) 0=(l.getD i (0,0)).1/\(lC l).getD (i*2+1) 0=(l.getD i (0,0)).2:=by
 induction l generalizing i with
 | nil=>simp at h
 | cons p r ih=>
  rw [show lC (p::r)=p.1::p.2::lC r from rfl];cases i with
  | zero=>simp
  | succ i=>
   have:=ih (i:=i) (by simpa using h);rw [show (i+1)*2=i*2+1+1 by omega,show i*2+1+1+1=(i*2+1)+1+1 by omega];simp only [List.getD_cons_succ];exact this
def QJ (w:World) (l:List (Int×Int)) (e:Ending) (w':World):Prop:=
  ∃v,e= .returned v/\w'.ownsRow w.heap.size 60 2 v l.length ((lC l).map (Value.int .i64))/\Below w.heap.size w w'
def sZ (w:World) (l:List (Int×Int)) (x:Value) (e:Ending) (w':World):Prop:=
  ∃v,e= .returned (.tuple #[v,x])/\w'.ownsRow w.heap.size 60 2 v l.length ((lC l).map (Value.int .i64))/\Below w.heap.size w w'
theorem Nv {l:List (Int×Int)} {k:Nat} (h:k<l.length):(qw l).getD k #[]= #[.agg #[.int .i64 (l.getD k (0,0)).1,.int .i64 (l.getD k (0,0)).2]]:=by
 rw [List.getD_eq_getElem?_getD,qw,List.getElem?_map,List.getElem?_eq_getElem h];simp [List.getD_eq_getElem?_getD,List.getElem?_eq_getElem h]
theorem Gg {l:List (Int×Int)} {k:Nat} (h:k<l.length):l.take (k+1)=l.take k++[((l.getD k (0,0)).1,(l.getD k (0,0)).2)]:=by
 rw [List.take_succ_eq_append_getElem h];have e:l.getD k (0,0)=l[k]:=by simp [List.getD_eq_getElem?_getD,List.getElem?_eq_getElem h]
 rw [e]
theorem uH {w:World} {B:Nat} {e:TypeId} {s:Nat} {v:Value} {n:Nat} {xs:List Value} (h:w.ownsRow B e s v n xs):∀(j:Nat) (o:Obj),v.ownBlock=some j->w.heap[j]? =some o->o.isCells=true:=by
 intro j o hj ho;obtain ⟨-,⟨rfl,-⟩ | ⟨g,cap,cur,rfl,-,hh,-⟩⟩:=h
 . cases hj
 . cases hj;rw [hh] at ho;cases ho;rfl
structure aaq (l:List (Int×Int)) (B:Nat) (w:World) (k:Nat) (W:World):Prop where
 own:∃v,W.cell? ⟨B,0,none⟩=some v/\W.ownsRow (B+1) 60 2 v k ((lC (l.take k)).map (Value.int .i64))
 fz:W.frozen? ⟨B,0,none⟩=false
 bel:Below B w W
theorem aaq.calm {l:List (Int×Int)} {B M:Nat} {w:World} {k:Nat} {W W':World} (h:aaq l B w k W) (hc:Calm M W W') (hB:B<=M):aaq l B w k W':=by
 obtain ⟨⟨v,h1,h2⟩,h3,h4⟩:=h;exact ⟨⟨v,hc.cell h1,hc.owns h2⟩,hc.frozen h1 h3,hc.below hB h4⟩
theorem II (l:List (Int×Int)) (hl:l.length<=100000) (gf:Nat) (lb:Array Value) (eg:∀args w,(callFunc gf args).run Tryz.prog w= .ok (.enter gf args) w) (w:World) (hit:Iter Tryz.prog gf lb (qw l) (EF (fun k=>k<w.heap.size)) w):
    Calls Tryz.prog 213 #[.slice none 0 0,.func (.func gf) #[] lb] w (QJ w l):=by
 have IT:=hid (fun W (hb:Below w.heap.size w W)=>hit.later hb);have Ap:=hid (wM l);have HPG:=hid (fun k (h:k<l.length)=>Nv h);clear hit;refine dM Tryz.func213 rfl ?_;simp only [Tryz.ntmps213,List.size_toArray,List.length_cons,List.length_nil,Nat.reduceAdd,Nat.reduceSub,Array.replicate_succ,Array.replicate_zero,List.push_toArray,List.append_toArray,List.nil_append,List.cons_append];go_wp2
 refine qj (xs:=qw l) (Kp:=EF (fun k=>k<w.heap.size)) rfl eg
   (IT.out _ (br.alloc (Nat.le_refl _) _)) br (fun h k=>fun i hi=>(k i hi).trans (h i hi)) ?kb ?ps
   (aaq l w.heap.size w) (fun _ _=>False) ?hI (fun _ _ _ h _=>h) ?h0 ?round ?done (fun _ _ _ _ h _=>h.elim)
 case kb=>
  intro W q o o' hl _ _ k hk;simp at hl;exact World.putObj_heap_other xo
 case ps=>
  intro x hx;simp only [qw,List.mem_map] at hx;obtain ⟨k,_,rfl⟩:=hx;rfl
 case hI=>
  intro k W W' h hc;exact h.calm hc ax
 case h0=>
  exact ⟨⟨_,by (exact dL),World.ownsRow_nil _ _ _ _⟩,by (exact dL),by (exact aH)⟩
 case round=>
  intro q k W hq hk hi;rw [Ap.out] at hk;rw [HPG.out k hk];have htk:=hid (Gg hk);generalize (l.getD k (0,0)).1=x at *;generalize (l.getD k (0,0)).2=y at *;obtain ⟨⟨v,hv,ho⟩,hfz,hbel⟩:=hi;have hzb:w.heap.size<W.heap.size:=World.block_lt_of_cell? _ _ hv;obtain ⟨ao,co,rfl,-⟩:=aG ho;have hlt1:(lC (l.take k)).length=k*2:=by rw [gp,List.length_take];omega
  gi_wp2
  have hab:Below W.heap.size W (W.alloc (.cells #[.int .i64 x,.int .i64 y] 60)):=br.alloc (Nat.le_refl _) _;refine ⟨jC hab,fun i hi=>hab.block i xo,?_⟩;intro W2 hc;have hc0:W2.cell? ⟨W.heap.size,0,none⟩=some (.int .i64 x):=hc.cell iP;have hc1:W2.cell? ⟨W.heap.size,1,none⟩=some (.int .i64 y):=hc.cell iP;have hv2:W2.cell? ⟨w.heap.size,0,none⟩=some (.slice ao k co):=hc.cell ((hab.cell (p:=⟨w.heap.size,0,none⟩) hzb).trans hv);have Wi:W2.frozen? ⟨w.heap.size,0,none⟩=false:=hc.frozen ((hab.cell (p:=⟨w.heap.size,0,none⟩) hzb).trans hv) ((hab.frozen (p:=⟨w.heap.size,0,none⟩) hzb).trans hfz);have ho2:=hc.owns (ay ho hab);have qZ:Below w.heap.size w W2:=hc.below ax (aj hab hbel xo);have hz2:=qZ.size;have yA:=hid ho2;have HB2:=hid qZ;have hzw:w.heap.size<W2.heap.size:=World.block_lt_of_cell? _ _ hv2;clear ho hbel hab hc ho2 qZ hv hfz
  gi_wp2_with (gi_at_builtin;refine wpListIn_append_own _ rfl (.tmp 8) (.tmp 10) 125 rfl (w.heap.size+1) 60 _ (.agg #[.int .i64 0,.int .i64 0]) 2 16 Tryz.underlying125 (info_parts mi).choose_spec.1 (info_parts mi).choose_spec.2.1 (info_parts mi).choose_spec.2.2.1 (info_parts mi).choose_spec.2.2.2 rfl au _ k _ rfl (yA.out.alloc (.cells #[.int .i64 x,.int .i64 y] 60)) ⟨W2.heap.size,0,none⟩ 1 1 [.int .i64 x,.int .i64 y] rfl rfl (oq _ [.int .i64 x,.int .i64 y] _ _ rfl _ rfl) (by simp [Value.oneCell']) (by unfold maxLen;omega) xo (by simp;omega) ?_;intro v' w3 ho3 hg3 _
               obtain ⟨a3,c3,rfl,-⟩:=aG ho3;have Dl:some w.heap.size≠(Value.slice ao k co).ownBlock:=fun e=>(by have:=(yA.out.lt _ e.symm).1;omega)
               have Dt:=hg3.block w.heap.size (by simp;omega) Dl;have hv3:w3.cell? ⟨w.heap.size,0,none⟩=some (.slice ao k co):=(World.cell?_of_block (a:=⟨w.heap.size,0,none⟩) Dt).trans ((((Below.refl _ W2).alloc (Nat.le_refl _) _).cell (p:=⟨w.heap.size,0,none⟩) hzw).trans hv2);have SG:w3.frozen? ⟨w.heap.size,0,none⟩=false:=(World.frozen?_of_block (a:=⟨w.heap.size,0,none⟩) Dt).trans ((((Below.refl _ W2).alloc (Nat.le_refl _) _).frozen (p:=⟨w.heap.size,0,none⟩) hzw).trans Wi);have Ua:=hid ho3;have Un:=hid hg3;clear ho3 hg3 Dt Dl)
  have hB3:Below w.heap.size w w3:=(HB2.out.alloc xo (.cells #[.int .i64 x,.int .i64 y] 60)).grown Un.out (by simp;omega) (fun z hz=>by have:=(yA.out.lt _ hz).1;omega);have hK3:KeepsOthers W2 w3:=(jC (((Below.refl _ W2).alloc (Nat.le_refl _) _))).trans (KeepsOthers.of_grownBy Un.out (uH (yA.out.alloc _)));refine ⟨hK3.trans (KeepsOthers.setCell _ _ _),fun i hi=> ?_,⟨⟨_,World.cell?_setCell_same _ _ _ hv3,?_⟩,?_,hB3.setCell (Nat.le_refl _) _⟩⟩
  . rw [Below.heap_setCell _ _ _ _ (show i≠w.heap.size by omega),Un.out.block i (by simp;omega) (fun e=>by have:=(yA.out.lt _ e.symm).1;omega)];exact ((Below.refl _ W2).alloc (Nat.le_refl _) _).block i xo
  . rw [htk.out,nY,List.map_append];exact af Ua.out fun z hz=>Below.heap_setCell _ _ _ _ (by have:=(Ua.out.lt _ hz).1;show z≠w.heap.size;omega)
  . rw [World.frozen?_setCell];exact SG
 case done=>
  intro D W hD hi hK;obtain ⟨⟨v,hv,ho⟩,hfz,hbel⟩:=hi;rw [Ap.out,List.take_length] at ho;obtain ⟨ao,co,rfl,-⟩:=aG ho;have HO:=hid ho;have HB:=hid hbel;clear ho hbel;go_wp2
  simp at hD;refine jo hK (results_tmp rfl _ _ _) ⟨_,rfl,?_,?_⟩
  . exact az ((Calm.putObj (B:=0) _ (Nat.zero_le _) hK rfl).owns HO.out) xo
  . exact (Calm.putObj (B:=w.heap.size) _ xo hK rfl).below (Nat.le_refl _) HB.out
theorem OL (l:List (Int×Int)) (hl:l.length<=100000) (gf:Nat) (lb:Array Value) (eg:∀args w,(callFunc gf args).run Tryz.prog w= .ok (.enter gf args) w) (w:World) (hit:Iter Tryz.prog gf lb (qw l) (EF (fun k=>k<w.heap.size)) w):
    Calls Tryz.prog 173 #[.func (.func gf) #[] lb] w (QJ w l):=by
 have A:=hid (II l hl gf lb eg w hit);clear hit;go_enter Tryz.func173,Tryz.ntmps173
 go_wp2_with fail
 refine A.out.mono ?_;rintro e w1 ⟨v,rfl,ho,hb⟩;have HO:=hid ho;have HB:=hid hb;clear ho hb;go_wp2
 go_ret
 exact ⟨v,rfl,HO.out,HB.out⟩
theorem Vr (c:aW) (a:jJ) (lo hi:Int) (w:World):
    Calls Tryz.prog 174 #[jB c a,.int .i64 lo,.int .i64 hi] w fun e w'=>e= .returned (.func (.func 214) #[] #[.pointer (some ⟨w.heap.size+1,0,none⟩),.pointer (some ⟨w.heap.size+2,0,none⟩),.pointer (some ⟨w.heap.size,0,none⟩)])/\
      w'=((w.alloc (.cells #[.int .i64 c.ai,.slice a.wa c.ws.length a.wc,.slice a.ka c.ks.length a.kc,.slice a.va c.vs.length a.vc,.slice a.ca c.cs.length a.cc,.int .u64 c.laid] 29)).alloc (.cells #[.int .i64 lo] 3)).alloc (.cells #[.int .i64 hi] 3):=by
 go_enter Tryz.func174,Tryz.ntmps174
 go_wp2
 go_ret
 exact ⟨rfl,rfl⟩
def iR (c:aW) (lo hi:Int):Int:=if fV c=true then (if 0<=lo/\lo<=hi/\hi<=c.ks.length then 0 else 2) else 8
def Gv (c:aW) (lo hi:Int):List (Int×Int):=if iR c lo hi=0 then b_ c lo.toNat hi.toNat else []
theorem PO (c:aW) (a:jJ) (hl:c.ws.length<=9223372036854775807) (hl2:c.ks.length<=1000000000000) (lo hi:Int) (w:World) (hin:iy w c a):
    Calls Tryz.prog 172 #[jB c a,.int .i64 lo,.int .i64 hi] w (aC w (.int .i64 (iR c lo hi))):=by
 have CK:=hid (lV c a hl hl2 _ (hin.below ((Below.refl _ w).alloc (Nat.le_refl _) (.cells #[.int .i64 c.ai,.slice a.wa c.ws.length a.wc,.slice a.ka c.ks.length a.kc,.slice a.va c.vs.length a.vc,.slice a.ca c.cs.length a.cc,.int .u64 c.laid] 29))));by_cases hm:fV c=true
 . have e0:A8 c=0:=if_pos hm;rw [e0] at CK;have hv:iR c lo hi=if 0<=lo/\lo<=hi/\hi<=c.ks.length then 0 else 2:=if_pos hm
   have hsp:(iR c lo hi=0/\0<=lo/\lo<=hi/\hi<=c.ks.length)\/(iR c lo hi=2/\lo<0)\/(iR c lo hi=2/\0<=lo/\hi<lo)\/(iR c lo hi=2/\0<=lo/\lo<=hi/\(c.ks.length:Int)<hi):=by
    by_cases h:0<=lo/\lo<=hi/\hi<=c.ks.length
    . rw [if_pos h] at hv;exact .inl ⟨hv,h⟩
    . rw [if_neg h] at hv;by_cases h1:lo<0
      . exact .inr (.inl ⟨hv,h1⟩)
      . by_cases h2:hi<lo
        . exact .inr (.inr (.inl ⟨hv,by omega,h2⟩))
        . exact .inr (.inr (.inr ⟨hv,by omega,by omega,by omega⟩))
   generalize iR c lo hi=ev at *;obtain ⟨ai,ws,ks,vs,cs,laid⟩:=c;obtain ⟨wa,ka,va,ca,wc,kc,vc,cc⟩:=a;dsimp only [jB] at *;clear hin hm e0 hv;generalize ws.length=lw at *;generalize ks.length=n at *;generalize vs.length=lv at *;generalize cs.length=lc at *;rcases hsp with ⟨rfl,h1,h2,h3⟩ | ⟨rfl,h1⟩ | ⟨rfl,h1,h2⟩ | ⟨rfl,h1,h2,h3⟩
   all_goals
     go_enter Tryz.func172,Tryz.ntmps172
     go_wp2_with fail
     refine (CK.out).mono ?_;rintro e w1 ⟨rfl,hb1⟩;have aA:=hb1.size;try simp only [World.size_alloc,World.size_setCell] at aA
     have aO:w1.cell? ⟨w.heap.size,0,none⟩=some (.int .i64 ai):=rW hb1 gW dL;have aN:w1.cell? ⟨w.heap.size,1,none⟩=some (.slice wa lw wc):=rW hb1 gW dL;have aK:w1.cell? ⟨w.heap.size,2,none⟩=some (.slice ka n kc):=rW hb1 gW dL;have bF:w.heap.size<w1.heap.size:=xo;have hB1:Below w.heap.size w w1:=aH;go_wp2
     go_ret
     exact ⟨rfl,hB1⟩
 . have e0:A8 c=8:=if_neg hm;have hv:iR c lo hi=8:=if_neg hm;rw [e0] at CK;rw [hv];obtain ⟨ai,ws,ks,vs,cs,laid⟩:=c;obtain ⟨wa,ka,va,ca,wc,kc,vc,cc⟩:=a;dsimp only [jB] at *;clear hin hm e0 hv;go_enter Tryz.func172,Tryz.ntmps172
   go_wp2_with fail
   refine (CK.out).mono ?_;rintro e w1 ⟨rfl,hb1⟩;have aA:=hb1.size;try simp only [World.size_alloc,World.size_setCell] at aA
   have hB1:Below w.heap.size w w1:=aH;go_wp2
   go_ret
   exact ⟨rfl,hB1⟩
theorem row_block {k:IntKind} {W:World} {a:Option Addr} {xs:List Int} (h:aQ k W a xs):∀x,a=some x->0<xs.length->x.block<W.heap.size:=by
 intro x hx h0;obtain ⟨b,off,y,he,-,-,hlt⟩:=h.get h0;rw [he] at hx;cases hx;exact hlt
theorem sW (c:aW) (a:jJ) (hl:c.ws.length<=9223372036854775807) (hl2:c.ks.length<=1000000000000) (lo hi:Int) (w:World) (hin:iy w c a):
    Calls Tryz.prog 100 #[jB c a,.int .i64 lo,.int .i64 hi] w (sZ w (Gv c lo hi) (.int .i64 (iR c lo hi))):=by
 have PT:=hid (fun W (hb:Below w.heap.size w W)=>PO c a hl hl2 lo hi W (hin.below hb));by_cases he:iR c lo hi=0
 . have hr:Gv c lo hi=b_ c lo.toNat hi.toNat:=if_pos he;rw [he] at PT;rw [hr,he];have hm:fV c=true:=by
    unfold iR at he;split at he
    . assumption
    . cases he
   have hp:0<=lo/\lo<=hi/\hi<=c.ks.length:=by
    unfold iR at he;rw [if_pos hm] at he;split at he
    . assumption
    . cases he
   obtain ⟨S,M,-,-,-,hnk,Qc,-,-,hSM,-,hnw,-,-,-⟩:=dW (kL hm);obtain ⟨p,rfl⟩:∃p:Nat,lo=p:=⟨lo.toNat,by omega⟩
   obtain ⟨q,rfl⟩:∃q:Nat,hi=q:=⟨hi.toNat,by omega⟩
   rw [Int.toNat_natCast,Int.toNat_natCast];have hlen:(b_ c p q).length<=100000:=by
    rw [cO];have:=oH c.ws p q;omega
   have IT:=hid (fun S b1 b2 b3 s1 s2 s3 hS w hw hk hv hbx=>Jy c a hin.u p q xo xo xo xo xo S b1 b2 b3 s1 s2 s3 hS w hw hk hv hbx);have HIN:=hid hin;have CO:=hid (fun gf lb eg w hit=>OL (b_ c p q) hlen gf lb eg w hit);generalize b_ c p q=L at *;have PA:=hid (fun w=>Vr c a p q w);clear hin he hr hm hp hnk Qc hSM hnw;obtain ⟨ai,ws,ks,vs,cs,laid⟩:=c;obtain ⟨wa,ka,va,ca,wc,kc,vc,cc⟩:=a;dsimp only [jB] at *;go_enter Tryz.func100,Tryz.ntmps100
   go_wp2_with fail
   refine (PT.out _ (br.alloc (Nat.le_refl _) _)).mono ?_;rintro e w1 ⟨rfl,hb1⟩;have aA:=hb1.size;try simp only [World.size_alloc,World.size_setCell] at aA
   have aO:w1.cell? ⟨w.heap.size,0,none⟩=some (.int .i64 ai):=rW hb1 gW dL;have aN:w1.cell? ⟨w.heap.size,1,none⟩=some (.slice wa ws.length wc):=rW hb1 gW dL;have aK:w1.cell? ⟨w.heap.size,2,none⟩=some (.slice ka ks.length kc):=rW hb1 gW dL;have aU:w1.cell? ⟨w.heap.size,3,none⟩=some (.slice va vs.length vc):=rW hb1 gW dL;have aT:w1.cell? ⟨w.heap.size,4,none⟩=some (.slice ca cs.length cc):=rW hb1 gW dL;have aV:w1.cell? ⟨w.heap.size,5,none⟩=some (.int .u64 laid):=rW hb1 gW dL;have bF:w.heap.size<w1.heap.size:=xo;have hB1:Below w.heap.size w w1:=aH;have hz1:=hB1.size;go_wp2_with fail
   refine (PA.out _).mono ?_;rintro e w2 ⟨rfl,rfl⟩;have HI1:=HIN.out.below hB1;go_wp2_with fail
   refine (CO.out _ _ (enters_of Tryz.func214 xk rfl) _ (IT.out _ (w1.heap.size+1) (w1.heap.size+2) w1.heap.size ax ax (by simp;omega) ⟨?s1,?s2,?s3⟩ _ ?r1 ?r2 ?r3 ⟨?b1,?b2,?b3,?b4,?b5,?b6,?b7,?b8⟩)).mono ?_
   case s1=>intro x hx h0;have:=row_block HI1.w x hx h0;simp;omega
   case s2=>intro x hx h0;have:=row_block HI1.k x hx h0;simp;omega
   case s3=>intro x hx h0;have:=row_block HI1.v x hx h0;simp;omega
   case r1=>exact HI1.w.below aH
   case r2=>exact HI1.k.below aH
   case r3=>exact HI1.v.below aH
   case b1=>(exact dL)
   case b2=>(exact dL)
   case b3=>(exact dL)
   case b4=>(exact dL)
   case b5=>(exact dL)
   case b6=>(exact dL)
   case b7=>(exact dL)
   case b8=>(exact dL)
   rintro e w3 ⟨v,rfl,ho,hb3⟩;have HO:=hid ho;have HB3:=hid (show Below w.heap.size w w3 from aj hb3 (((hB1.alloc xo _).alloc (by simp;omega) _).alloc (by simp;omega) _) (by simp;omega));clear ho hb3 HI1;go_wp2
   go_ret2
   exact ⟨v,rfl,az HO.out (by simp;omega),HB3.out⟩
 . have hr:Gv c lo hi=[]:=if_neg he;have hne:(iR c lo hi != 0)=true:=by simpa using he
   rw [hr];generalize iR c lo hi=ev at *;obtain ⟨ai,ws,ks,vs,cs,laid⟩:=c;obtain ⟨wa,ka,va,ca,wc,kc,vc,cc⟩:=a;dsimp only [jB] at *;clear hin he hr;go_enter Tryz.func100,Tryz.ntmps100
   go_wp2_with fail
   refine (PT.out _ (br.alloc (Nat.le_refl _) _)).mono ?_;rintro e w1 ⟨rfl,hb1⟩;have aA:=hb1.size;try simp only [World.size_alloc,World.size_setCell] at aA
   have hB1:Below w.heap.size w w1:=aH;go_wp2
   go_ret2
   exact ⟨_,rfl,World.ownsRow_nil _ _ _ _,hB1⟩
end
section
open Go.RowKit
end
section
open Go.RowKit Go.Shelf
attribute [local go_sem] Oper.semAt_some
def mJ.laid {T:TypeId} (base:Nat) (t:TypeId) (he:t≠T) (vs:Array Value):mJ T:=
  ⟨fun v w=>∃b,v= .slice (some ⟨b,0,none⟩) 1 1/\base<=b/\w.heap[b]? =some (.cells vs t),fun _ _ _ h ⟨b,e,hb,hh⟩=>⟨b,e,hb,h.same _ _ hh (fun cs fr e=>by cases e;exact he rfl)⟩⟩
theorem RF {ws:List Int} {a b k:Nat} (h:k<(eQ ws a b).length):a<=(eQ ws a b).getD k 0/\(eQ ws a b).getD k 0<b:=by
 rw [List.getD_eq_getElem?_getD,List.getElem?_eq_getElem h];exact CJ (List.getElem_mem h)
end
section
open Go.RowKit
def mJ.len {T:TypeId} (n:Nat):mJ T:=⟨fun v _=>∃a c,v= .slice a n c,fun _ _ _ _ h=>h⟩
def Jm (l:List (Int×Int)) (i:Nat):Bool:=i==0||decide ((l.getD (i-1) (0,0)).1<(l.getD i (0,0)).1)
def MZ (l:List (Int×Int)):Bool:=(List.range l.length).all (Jm l)
def fE (c:aW):Int:=if fV c=true then (if MZ (b_ c 0 c.ks.length)=true then 0 else 130) else 8
theorem wY {l:List (Int×Int)} {W:World} {a:Option Addr} (h:aQ .i64 W a (lC l)) {i:Nat} (hi:i<l.length):
    ∃b off,a=some ⟨b,off,none⟩/\W.cell? ⟨b,off+i*2,none⟩=some (.int .i64 (l.getD i (0,0)).1)/\W.cell? ⟨b,off+i*2+1,none⟩=some (.int .i64 (l.getD i (0,0)).2)/\b<W.heap.size:=by
 obtain ⟨g1,g2⟩:=Gx hi;obtain ⟨b,off,x,y,e,hx,hy,c1,c2,hb⟩:=h.ab3 (i:=i) (by rw [gp];omega);rw [<-hx.out,g1] at c1;rw [<-hy.out,g2] at c2;exact ⟨b,off,e,c1,c2,hb⟩
theorem mX (c:aW) (a:jJ) (hl:c.ws.length<=9223372036854775807) (hl2:c.ks.length<=1000000000000) (w:World) (hin:iy w c a):
    Calls Tryz.prog 51 #[jB c a] w (aC w (.int .i64 (fE c))):=by
 have PR:=hid (fun W (hb:Below w.heap.size w W)=>sW c a hl hl2 0 c.ks.length W (hin.below hb));by_cases hm:fV c=true
 . have he :iR c 0 c.ks.length=0:=by rw [iR,if_pos hm,if_pos xo]
   have hr:Gv c 0 c.ks.length=b_ c 0 c.ks.length:=if_pos he;have hv:fE c=if MZ (b_ c 0 c.ks.length)=true then 0 else 130:=if_pos hm
   rw [he,hr] at PR;have hlen:(b_ c 0 c.ks.length).length<=65536:=by
    obtain ⟨S,M,-,-,-,hnk,-,-,-,hSM,-⟩:=dW (kL hm);rw [cO];have:=oH c.ws 0 c.ks.length;omega
   obtain ⟨R,hR⟩:∃R,fE c=R:=⟨_,rfl⟩
   have HR:=hid (hR.symm.trans hv);rw [hR];generalize b_ c 0 c.ks.length=L at *;obtain ⟨ai,ws,ks,vs,cs,laid⟩:=c;obtain ⟨wa,ka,va,ca,wc,kc,vc,cc⟩:=a;dsimp only [jB] at *;clear hin hm he hr hv hR hl hl2;go_enter Tryz.func51,Tryz.ntmps51
   go_wp2_with fail
   refine (PR.out _ (br.alloc (Nat.le_refl _) _)).mono ?_;rintro e w1 ⟨vl,rfl,hol,hb1⟩;have aA:=hb1.size;try simp only [World.size_alloc,World.size_setCell] at aA
   have aO:w1.cell? ⟨w.heap.size,0,none⟩=some (.int .i64 ai):=rW hb1 gW dL;have aN:w1.cell? ⟨w.heap.size,1,none⟩=some (.slice wa ws.length wc):=rW hb1 gW dL;have aK:w1.cell? ⟨w.heap.size,2,none⟩=some (.slice ka ks.length kc):=rW hb1 gW dL;have aU:w1.cell? ⟨w.heap.size,3,none⟩=some (.slice va vs.length vc):=rW hb1 gW dL;have aT:w1.cell? ⟨w.heap.size,4,none⟩=some (.slice ca cs.length cc):=rW hb1 gW dL;have aV:w1.cell? ⟨w.heap.size,5,none⟩=some (.int .u64 laid):=rW hb1 gW dL;have bF:w.heap.size<w1.heap.size:=xo;have hB1:Below w.heap.size w w1:=aH;obtain ⟨la,lc,rfl,hil,-,-,-,-⟩:=ak hol;have HRL:=hid hil;have HB1:=hid hB1;obtain ⟨m,hmm⟩:∃m,L.length=m:=⟨_,rfl⟩
   rw [hmm] at hlen ⊢;have HML:=hid hmm;clear hb1 hB1 hol hil hmm;go_wp2
   go_loopg [20] m (fun gk iv wr=>∃k:Nat,k+gk=m/\iv= .int .i64 k/\Hid (Below w.heap.size w wr)/\Hid (Below w1.heap.size w1 wr)/\Hid (∀j,j<k->Jm L j=true))
   case atStart=>exact ⟨0,by omega,rfl,HB1,hid br,hid (fun j h=>by omega)⟩
   case round=>
    obtain ⟨k,hk,rfl,HB,ru,HA⟩:=hrel;have hz:=HB.out.size;by_cases hlt:k<m
    . obtain ⟨bl,ol,rfl,c0,c1,zl⟩:=wY (HRL.out.below ru.out) (i:=k) (by rw [HML.out];exact hlt);have hra:Jm L k=(k==0||decide ((L.getD (k-1) (0,0)).1<(L.getD k (0,0)).1)):=rfl;have Lt:=hid hk;have hz1:=ru.out.size;by_cases hk0:k=0
      . subst hk0;generalize (L.getD 0 (0,0)).1=x at *;generalize (L.getD 0 (0,0)).2=y at *;have HRA:=hid hra;have g0:decide ((0:Int)>0)=false:=rfl;simp only [Nat.zero_mul,Nat.add_zero] at c0 c1;clear hra;go_wp2
        have p0:(wr.alloc (.cells #[.int .i64 x,.int .i64 y] 60)).cell? ⟨wr.heap.size,0,none⟩=some (.int .i64 x):=iP;go_quiet (fail)
        go_wp2
        go_roundg (gk-1)
        case measure=>have:=Lt.out;omega
        case rel=>
         refine ⟨1,by have:=Lt.out;omega,rfl,hid (below_drewN (HB.out.alloc hz _) _),hid (below_drewN (ru.out.alloc hz1 _) _),hid (fun j hj=> ?_)⟩;rw [show j=0 by omega];rfl
      . obtain ⟨q,rfl⟩:∃q,k=q+1:=⟨k-1,by omega⟩
        obtain ⟨bl',ol',hbe,e0,e1,-⟩:=wY (HRL.out.below ru.out) (i:=q) (by rw [HML.out];omega);cases hbe;rw [Nat.add_sub_cancel] at hra;generalize (L.getD (q+1) (0,0)).1=x at *;generalize (L.getD (q+1) (0,0)).2=y at *;generalize (L.getD q (0,0)).1=z at *;have g0:decide ((q:Int)+1>0)=true:=by simp<;>omega
        have VY:((q+1:Nat):Int)=(q:Int)+1:=xo;by_cases hxz:z<x
        . have HRA:=hid hra;have g1:decide (x<=z)=false:=by simp;omega
          clear hra;go_wp2
          have p0:(wr.alloc (.cells #[.int .i64 x,.int .i64 y] 60)).cell? ⟨wr.heap.size,0,none⟩=some (.int .i64 x):=iP;replace e0:=(((Below.refl _ wr).alloc (Nat.le_refl _) (.cells #[.int .i64 x,.int .i64 y] 60)).cell (World.block_lt_of_cell? _ _ e0)).trans e0;go_quiet (fail)
          go_wp2
          go_roundg (gk-1)
          case measure=>have:=Lt.out;omega
          case rel=>
           refine ⟨q+2,by have:=Lt.out;omega,by go_num,hid (below_drewN (HB.out.alloc hz _) _),hid (below_drewN (ru.out.alloc hz1 _) _),hid (fun j hj=> ?_)⟩;by_cases e:j=q+1
           . rw [e,HRA.out];simp [hxz]
           . exact HA.out j xo
        . have hR:R=130:=by
            rw [HR.out,if_neg];intro h;have:=yw.1 h (q+1) (by rw [HML.out];exact hlt);rw [hra] at this;simp [hxz] at this
          subst hR;have g1:decide (x<=z)=true:=by simp;omega
          clear hra;go_wp2
          have p0:(wr.alloc (.cells #[.int .i64 x,.int .i64 y] 60)).cell? ⟨wr.heap.size,0,none⟩=some (.int .i64 x):=iP;replace e0:=(((Below.refl _ wr).alloc (Nat.le_refl _) (.cells #[.int .i64 x,.int .i64 y] 60)).cell (World.block_lt_of_cell? _ _ e0)).trans e0;go_quiet (fail)
          go_wp2
          go_ret
          exact ⟨rfl,below_drewN (HB.out.alloc hz _) _⟩
    . have hR:R=0:=by
        rw [HR.out,if_pos (show MZ L=true from yw.2 (fun j hj=>HA.out j (by have:=HML.out;omega)))]
      subst hR;go_wp2
      go_ret
      exact ⟨rfl,HB.out⟩
 . have he:iR c 0 c.ks.length=8:=if_neg hm;have hv:fE c=8:=if_neg hm;rw [he] at PR;rw [hv];obtain ⟨ai,ws,ks,vs,cs,laid⟩:=c;obtain ⟨wa,ka,va,ca,wc,kc,vc,cc⟩:=a;dsimp only [jB] at *;clear hin hm he hv hl hl2;go_enter Tryz.func51,Tryz.ntmps51
   go_wp2_with fail
   refine (PR.out _ (br.alloc (Nat.le_refl _) _)).mono ?_;rintro e w1 ⟨vl,rfl,hol,hb1⟩;have aA:=hb1.size;try simp only [World.size_alloc,World.size_setCell] at aA
   have hB1:Below w.heap.size w w1:=aH;go_wp2
   go_ret
   exact ⟨rfl,hB1⟩
def oN (c:aW) (k:Nat):Int×Int:=
  if b_ c (k*c.ai.toNat) ((k+1)*c.ai.toNat)=[] then (0,0)
  else (((b_ c (k*c.ai.toNat) ((k+1)*c.ai.toNat)).getD ((b_ c (k*c.ai.toNat) ((k+1)*c.ai.toNat)).length-1) (0,0)).1,((b_ c (k*c.ai.toNat) ((k+1)*c.ai.toNat)).length:Nat))
def ED (a b:Int×Int):Int×Int:=(TG a.1 b.1 b.2,OH a.2 b.2)
def UJ (c:aW) (M:Nat):Nat->Nat->Int×Int
  | 0,n=>oN c (n-M)
  | d+1,n=>ED (UJ c M d (2*n)) (UJ c M d (2*n+1))
def zM (c:aW) (D n:Nat):Int×Int:=UJ c (2^D) (D-n.log2) n
theorem VO (c:aW) (k:Nat):0<=(oN c k).2/\(oN c k).2<=(c.ai.toNat:Nat):=by
 unfold oN;split
 . exact ⟨Int.le_refl _,by omega⟩
 . simp only [cO];have:=oH c.ws (k*c.ai.toNat) ((k+1)*c.ai.toNat);have e:(k+1)*c.ai.toNat=k*c.ai.toNat+c.ai.toNat:=by rw [Nat.add_mul,Nat.one_mul]
   omega
theorem acu {a b x y:Int} (h1:0<=a) (h2:a<=x) (h3:0<=b) (h4:b<=y):0<=OH a b/\OH a b<=x+y:=by unfold OH;split<;>omega
theorem aa4 (c:aW) (M:Nat):∀d n,0<=(UJ c M d n).2/\(UJ c M d n).2<=((c.ai.toNat* 2^d:Nat):Int):=by
 intro d;induction d with
 | zero=>
  intro n;rw [Nat.pow_zero,Nat.mul_one];exact VO c (n-M)
 | succ d ih=>
  intro n;have h1:=ih (2*n);have h2:=ih (2*n+1);have:=acu h1.1 h1.2 h2.1 h2.2;rw [UJ,ED];refine ⟨this.1,Int.le_trans this.2 ?_⟩;have e:c.ai.toNat* 2^(d+1)=c.ai.toNat* 2^d+c.ai.toNat* 2^d:=by rw [Nat.pow_succ,<-Nat.mul_assoc];omega
  rw [e];push_cast
  omega
theorem UI (c:aW) (D n:Nat):0<=(zM c D n).2/\(zM c D n).2<=((c.ai.toNat* 2^D:Nat):Int):=by
 have h:=aa4 c (2^D) (D-n.log2) n;have h2:c.ai.toNat* 2^(D-n.log2)<=c.ai.toNat* 2^D:=Nat.mul_le_mul_left _ (Nat.pow_le_pow_right xo xo);unfold zM;omega
theorem UH {c:aW} {D n:Nat} (h:2^D<=n):zM c D n=oN c (n-2^D):=by
 have hp:=Nat.two_pow_pos D;have:D<=n.log2:=(Nat.le_log2 xo).2 h;rw [zM,show D-n.log2=0 by omega,UJ]
theorem UG {c:aW} {D n:Nat} (h1:1<=n) (h:n<2^D):zM c D n=ED (zM c D (2*n)) (zM c D (2*n+1)):=by
 have hl:n.log2<D:=(Nat.log2_lt xo).2 h;have e1:(2*n).log2=n.log2+1:=by rw [qA xo];congr 2;omega
 have e2:(2*n+1).log2=n.log2+1:=by rw [qA xo];congr 2;omega
 rw [zM,zM,zM,e1,e2,show D-n.log2=D-(n.log2+1)+1 by omega,UJ]
def rQ (L:Nat) (f:Nat->Int) (p:Nat->Bool):List Int:=(lay L 1).map fun n=>if p n then f n else 0
theorem mF {L:Nat} (h:1<=L) (f:Nat->Int) (p:Nat->Bool):(rQ L f p).length=2^L-1:=by rw [rQ,List.length_map,fG 1 h]
theorem TB (L:Nat) (h:1<=L) (f:Nat->Int) {p:Nat->Bool} (hp:∀n,1<=n->n<2^L->p n=false):rQ L f p=List.replicate (2^L-1) 0:=by
 refine List.ext_getElem (by rw [mF h,List.length_replicate]) fun i h1 h2=> ?_
 rw [mF h] at h1;have hi:=Dc h h1;simp only [rQ,List.getElem_map,List.getElem_replicate];have e:(lay L 1)[i]'(by rw [fG 1 h];exact h1)=(lay L 1).getD i 0:=by simp [List.getD_eq_getElem?_getD,fG 1 h,h1]
 rw [e,hp _ hi.1 xo];rfl
theorem KY {L:Nat} (h:1<=L) (f:Nat->Int) {p q:Nat->Bool} {n:Nat} (h1:1<=n) (h2:n<2^L) (hq:q n=true) (hne:∀m,m≠n->q m=p m):(rQ L f p).set (oJ L n) (f n)=rQ L f q:=by
 refine List.ext_getElem (by rw [List.length_set,mF h,mF h]) fun i h3 h4=> ?_
 rw [mF h] at h4;have e:(lay L 1)[i]'(by rw [fG 1 h];exact h4)=(lay L 1).getD i 0:=by simp [List.getD_eq_getElem?_getD,fG 1 h,h4]
 rw [List.getElem_set];by_cases hi:oJ L n=i
 . rw [if_pos hi];simp only [rQ,List.getElem_map];rw [e,<-hi,(kK h h1 h2).2,hq];rfl
 . rw [if_neg hi];simp only [rQ,List.getElem_map];rw [e,hne];intro hx;exact hi (by rw [<-hx];exact uN h h4)
theorem uX (L:Nat) (h:1<=L) (f:Nat->Int) {p:Nat->Bool} (hp:∀n,1<=n->n<2^L->p n=true):rQ L f p=(lay L 1).map f:=by
 refine List.map_congr_left fun n hn=> ?_
 obtain ⟨i,hi,rfl⟩:=List.getElem_of_mem hn;have hi2:i<2^L-1:=by rw [fG 1 h] at hi;exact hi
 have e:(lay L 1)[i]=(lay L 1).getD i 0:=by simp [List.getD_eq_getElem?_getD,hi]
 have:=Dc h hi2;rw [e,hp _ this.1 xo];rfl
theorem W_ {L:Nat} (h:1<=L) (f:Nat->Int) (p:Nat->Bool) {n:Nat} (h1:1<=n) (h2:n<2^L):(rQ L f p).getD (oJ L n) 0=if p n then f n else 0:=by
 obtain ⟨a,b⟩:=kK h h1 h2;rw [rQ,List.getD_eq_getElem?_getD,List.getElem?_map,List.getElem?_eq_getElem (by rw [fG 1 h];exact a)];have e:(lay L 1)[oJ L n]'(by rw [fG 1 h];exact a)=n:=by
  refine Eq.trans ?_ b;simp [List.getD_eq_getElem?_getD,fG 1 h,a]
 simp [e]
def u_ (c:aW):Nat:=c.cs.length.log2+1
def Xf (c:aW):List Int:=(lay (u_ c) 1).map fun n=>(zM c c.cs.length.log2 n).1
def Xg (c:aW):List Int:=(lay (u_ c) 1).map fun n=>(zM c c.cs.length.log2 n).2
def kJ (c:aW):Int:=if fE c=0 then (if 8192<c.cs.length then 4 else 0) else fE c
def iE (c:aW):Int:=if kJ c=0 then (u_ c:Int) else 0
def gy (c:aW):List Int:=if kJ c=0 then Xf c else []
def fZ (c:aW):List Int:=if kJ c=0 then Xg c else []
theorem nX {c:aW} (h:fE c=0):fV c=true:=by
 unfold fE at h;split at h
 . assumption
 . cases h
theorem sO {c:aW} (h:kJ c=0):fE c=0/\c.cs.length<=8192:=by
 unfold kJ at h;split at h
 . rename_i h0
   split at h
   . cases h
   . exact ⟨h0,by omega⟩
 . exact absurd h (by assumption)
theorem sN {c:aW} (h:fV c=true) (h2:c.cs.length<=8192):∃S D M:Nat,c.ai=S/\c.ai.toNat=S/\4<=S/\S<=64/\c.cs.length=M/\M.log2=D/\2^D=M/\D<=13/\S*M<=65536/\c.ks.length=S*M/\c.vs.length=S*M/\S*M<=64*c.ws.length/\c.ws.length<=1024:=by
 obtain ⟨S,M,hS,hS4,Eh,hnk,Qc,hnc,hM1,hSM,-,hnw,-,hpm,-⟩:=dW (kL h);have hD:=(Gs (by omega:0<M)).1 hpm;refine ⟨S,M.log2,M,hS,by omega,hS4,Eh,hnc,rfl,hD,?_,hSM,hnk,Qc,by omega,by omega⟩;have:M.log2<14:=(Nat.log2_lt xo).2 xo;omega
section
variable {f g:Nat->Int}
def nK (f g:Nat->Int):Nat->Nat->List (Int×Int)
  | 0,n=>[(f n,g n)]
  | d+1,n=>nK f g d (2*n)++nK f g d (2*n+1)
theorem jF:∀d n,(nK f g d n).length=2^d:=by
 intro d;induction d with
 | zero=>intro n;rfl
 | succ d ih=>intro n;rw [nK,List.length_append,ih,ih,Nat.pow_succ];omega
theorem Bh:∀d n i,i<2^d->(nK f g d n)[i]? =some (f (n*2^d+i),g (n*2^d+i)):=by
 intro d;induction d with
 | zero=>
  intro n i hi;have:i=0:=by simp at hi;exact hi
  subst this;simp [nK]
 | succ d ih=>
  intro n i hi;rw [Nat.pow_succ] at hi;rw [nK];by_cases h:i<2^d
  . rw [List.getElem?_append_left (by rw [jF];exact h),ih _ _ h];rw [show n*2^(d+1)+i=2*n*2^d+i by rw [Nat.pow_succ,Nat.mul_comm 2 n,Nat.mul_assoc,Nat.mul_comm 2]]
  . rw [List.getElem?_append_right (by rw [jF];omega),jF,ih _ _ xo];rw [show n*2^(d+1)+i=(2*n+1)*2^d+(i-2^d) by rw [Nat.pow_succ,Nat.add_mul,Nat.mul_comm 2 n,Nat.mul_assoc,Nat.mul_comm 2];omega]
def Good (f g:Nat->Int):Nat->Nat->Prop
  | 0,n=>ownB (f n) (g n)=true
  | d+1,n=>ownB (f n) (g n)=true/\xX (f n) (g n) (f (2*n)) (g (2*n)) (f (2*n+1)) (g (2*n+1))=true/\Good f g d (2*n)/\Good f g d (2*n+1)
theorem Good.own:∀ {d n},Good f g d n->ownB (f n) (g n)=true
  | 0,_,h=>h
  | _+1,_,h=>h.1
def jV (l:List (Int×Int)):Int:=(l.map (·.2)).sum
theorem uV (a b:List (Int×Int)):jV (a++b)=jV a+jV b:=by simp [jV]
theorem mr (p:Int×Int) (b:List (Int×Int)):jV (p::b)=p.2+jV b:=by simp [jV]
theorem fM {m c:Int} (h:ownB m c=true):0<=c/\c<=65536/\(c=0->m=0):=by
 simp only [ownB,Bool.and_eq_true,Bool.or_eq_true,decide_eq_true_eq] at h;omega
theorem lX {m c am ac bm bc:Int} (h:xX m c am ac bm bc=true):c=ac+bc/\(0<bc->m=bm)/\(¬0<bc->m=am)/\(0<ac->0<bc->am<bm):=by
 simp only [xX,Bool.and_eq_true,Bool.or_eq_true,decide_eq_true_eq] at h;obtain ⟨⟨⟨⟨⟨h1,h2⟩,h3⟩,h4⟩,h5,h6⟩,h7⟩:=h;unfold TG at h5;refine ⟨by omega,fun hb=>by rw [if_pos hb] at h5;exact h5,fun hb=>by rw [if_neg hb] at h5;exact h5,fun ha hb=>by rcases h7 with (h7|h7)|h7<;>omega⟩
theorem Good.cnt:∀ {d n},Good f g d n->jV (nK f g d n)=g n:=by
 intro d;induction d with
 | zero=>intro n _;simp [nK,jV]
 | succ d ih=>
  intro n h;obtain ⟨h1,h2,h3,h4⟩:=h;rw [nK,uV,ih h3,ih h4,(lX h2).1]
theorem Good.Vz:∀ {d n},Good f g d n->∀p ∈ nK f g d n,0<=p.2:=by
 intro d;induction d with
 | zero=>
  intro n h p hp;simp [nK] at hp;subst hp;exact (fM h).1
 | succ d ih=>
  intro n h p hp;rw [nK,List.mem_append] at hp;exact hp.elim (ih h.2.2.1 p) (ih h.2.2.2 p)
theorem Good.max_le:∀ {d n},Good f g d n->∀p ∈ nK f g d n,0<p.2->0<g n/\p.1<=f n:=by
 intro d;induction d with
 | zero=>
  intro n h p hp h0;simp [nK] at hp;subst hp;exact ⟨h0,Int.le_refl _⟩
 | succ d ih=>
  intro n h p hp h0;obtain ⟨h1,h2,h3,h4⟩:=h;obtain ⟨j1,j2,j3,j4⟩:=lX h2;have o3:=fM h3.own;have o4:=fM h4.own;rw [nK,List.mem_append] at hp;rcases hp with hp|hp
  . obtain ⟨k1,k2⟩:=ih h3 p hp h0;refine ⟨by omega,?_⟩;by_cases hb:0<g (2*n+1)
    . have:=j2 hb;have:=j4 k1 hb;omega
    . have:=j3 hb;omega
  . obtain ⟨k1,k2⟩:=ih h4 p hp h0;exact ⟨by omega,by have:=j2 k1;omega⟩
theorem Good.YH:∀ {d n},Good f g d n->0<g n->∃p ∈ nK f g d n,0<p.2/\p.1=f n:=by
 intro d;induction d with
 | zero=>intro n h h0;exact ⟨(f n,g n),by simp [nK],h0,rfl⟩
 | succ d ih=>
  intro n h h0;obtain ⟨h1,h2,h3,h4⟩:=h;obtain ⟨j1,j2,j3,j4⟩:=lX h2;have o3:=fM h3.own;have o4:=fM h4.own;by_cases hb:0<g (2*n+1)
  . obtain ⟨p,hp,q1,q2⟩:=ih h4 hb;exact ⟨p,by rw [nK,List.mem_append];exact .inr hp,q1,by rw [q2,j2 hb]⟩
  . obtain ⟨p,hp,q1,q2⟩:=ih h3 xo;exact ⟨p,by rw [nK,List.mem_append];exact .inl hp,q1,by rw [q2,j3 hb]⟩
def srv (key m c:Int):Prop:=0<c/\key<=m
instance (key m c:Int):Decidable (srv key m c):=by unfold srv;infer_instance
theorem Good.Gh {d n:Nat} (h:Good f g d n) (key:Int):srv key (f n) (g n)↔∃p ∈ nK f g d n,srv key p.1 p.2:=by
 constructor
 . rintro ⟨h1,h2⟩;obtain ⟨p,hp,q1,q2⟩:=h.YH h1;exact ⟨p,hp,q1,by rw [q2];exact h2⟩
 . rintro ⟨p,hp,q1,q2⟩;obtain ⟨k1,k2⟩:=h.max_le p hp q1;exact ⟨k1,by omega⟩
def kE (key:Int):List (Int×Int)->Int->Int->Int×Int×Int
  | [],_,_=>(0,0,6)
  | p::r,i,s=>if srv key p.1 p.2 then (i,s,0) else kE key r (i+1) (s+p.2)
theorem t_ {key:Int}:∀(a b:List (Int×Int)) (i s:Int),(∀p ∈ a,¬srv key p.1 p.2)->kE key (a++b) i s=kE key b (i+a.length) (s+jV a):=by
 intro a;induction a with
 | nil=>intro b i s _;simp [jV]
 | cons p r ih=>
  intro b i s h;rw [List.cons_append,kE,if_neg (h p ax),ih _ _ _ (fun q hq=>h q (by simp [hq])),mr];congr 1
  . simp;omega
  . omega
theorem NU {key:Int}:∀(a b:List (Int×Int)) (i s:Int),(∃p ∈ a,srv key p.1 p.2)->kE key (a++b) i s=kE key a i s:=by
 intro a;induction a with
 | nil=>intro b i s h;obtain ⟨p,hp,_⟩:=h;cases hp
 | cons p r ih=>
  intro b i s h;rw [List.cons_append,kE,kE];by_cases hp:srv key p.1 p.2
  . rw [if_pos hp,if_pos hp]
  . rw [if_neg hp,if_neg hp];refine ih _ _ _ ?_;obtain ⟨q,hq,hs⟩:=h;rcases List.mem_cons.1 hq with rfl|hq
    . exact absurd hs hp
    . exact ⟨q,hq,hs⟩
theorem Good.SB {d n:Nat} (h:Good f g (d+1) n) (key:Int) (hs:srv key (f n) (g n)) (i s:Int):
    if srv key (f (2*n)) (g (2*n)) then kE key (nK f g (d+1) n) i s=kE key (nK f g d (2*n)) i s
    else srv key (f (2*n+1)) (g (2*n+1))/\kE key (nK f g (d+1) n) i s=kE key (nK f g d (2*n+1)) (i+((2^d:Nat):Int)) (s+g (2*n)):=by
 obtain ⟨h1,h2,h3,h4⟩:=h;obtain ⟨j1,j2,j3,j4⟩:=lX h2;have o3:=fM h3.own;have o4:=fM h4.own;split
 . rename_i hl
   rw [nK,NU _ _ _ _ ((h3.Gh key).1 hl)]
 . rename_i hl
   refine ⟨?_,?_⟩
   . obtain ⟨k1,k2⟩:=hs;by_cases hb:0<g (2*n+1)
     . exact ⟨hb,by have:=j2 hb;omega⟩
     . exact absurd ⟨by omega,by have:=j3 hb;omega⟩ hl
   . rw [nK,t_ _ _ _ _ (fun p hp hq=>hl ((h3.Gh key).2 ⟨p,hp,hq⟩)),jF,h3.cnt]
def oh:List (Int×Int)->Int->Int->Int×Int×Int
  | [],_,_=>(0,0,290)
  | p::r,i,k=>if k<p.2 then (i,k,0) else oh r (i+1) (k-p.2)
theorem EQ:∀(a b:List (Int×Int)) (i k:Int),(∀p ∈ a,0<=p.2)->jV a<=k->oh (a++b) i k=oh b (i+a.length) (k-jV a):=by
 intro a;induction a with
 | nil=>intro b i k _ _;simp [jV]
 | cons p r ih=>
  intro b i k h hk;rw [mr] at hk;have hr:0<=jV r:=by
   have:∀l:List (Int×Int),(∀p ∈ l,0<=p.2)->0<=jV l:=by
    intro l;induction l with
    | nil=>intro _;simp [jV]
    | cons q t iht=>intro hq;rw [mr];have:=hq q ax;have:=iht fun x hx=>hq x (by simp [hx]);omega
   exact this r fun q hq=>h q (by simp [hq])
  rw [List.cons_append,oh,if_neg xo,ih _ _ _ (fun q hq=>h q (by simp [hq])) xo,mr];congr 1
  . simp;omega
  . omega
theorem YA:∀(a b:List (Int×Int)) (i k:Int),0<=k->k<jV a->oh (a++b) i k=oh a i k:=by
 intro a;induction a with
 | nil=>intro b i k h0 h;simp [jV] at h;omega
 | cons p r ih=>
  intro b i k h0 h;rw [mr] at h;rw [List.cons_append,oh,oh];by_cases hp:k<p.2
  . rw [if_pos hp,if_pos hp]
  . rw [if_neg hp,if_neg hp];exact ih _ _ _ xo xo
end
theorem Y_ {L:Nat} {ms cs:List Int} (h:jm (JF L ms cs) 1 (2^L-1)=true):∀d n,d<L->2^(L-1-d)<=n->n<2^(L-d)->Good (fU L ms) (fU L cs) d n:=by
 rw [mG] at h;intro d;induction d with
 | zero=>
  intro n hd h1 h2;have hp:=Nat.two_pow_pos (L-1-0);have:=h n xo (by rw [Nat.sub_zero] at h2;omega);unfold JF at this;rw [Bool.and_eq_true] at this;exact this.1
 | succ d ih=>
  intro n hd h1 h2;have hp:=Nat.two_pow_pos (L-1-(d+1));have e1:2^(L-1-d)=2*2^(L-1-(d+1)):=by rw [show L-1-d=L-1-(d+1)+1 by omega,Nat.pow_succ];omega
  have e2:2^(L-d)=2*2^(L-(d+1)):=by rw [show L-d=L-(d+1)+1 by omega,Nat.pow_succ];omega
  have e3:2^(L-d)<=2^L:=Nat.pow_le_pow_right xo xo;have hn:=h n xo xo;unfold JF at hn;rw [Bool.and_eq_true,decide_eq_false (by omega:¬2^L-1<2*n),Bool.false_or] at hn;exact ⟨hn.1,hn.2,ih (2*n) xo xo xo,ih (2*n+1) xo xo xo⟩
theorem SI {L:Nat} {ms cs:List Int} (hL:1<=L) (h:jm (JF L ms cs) 1 (2^L-1)=true):Good (fU L ms) (fU L cs) (L-1) 1:=by
 refine Y_ h (L-1) 1 xo (by rw [Nat.sub_self];exact Nat.le_refl _) ?_;rw [show L-(L-1)=1 by omega];decide
theorem Vg:∀m L,L<=m->pos L 0 0=0:=by
 intro m;induction m with
 | zero=>
  intro L h;rw [pos];simp [show L<=1 by omega]
 | succ m ih=>
  intro L h;by_cases h1:2<=L
  . rw [Gy 0 h1 xo];exact ih _ xo
  . rw [pos];simp [show L<=1 by omega]
theorem VM {f g:Nat->Int} {D d m:Nat} (hd:d<=D) (h1:2^D<=m*2^d) (h2:(m+1)*2^d<=2*2^D):
    (nK f g D 1).take (m*2^d-2^D+2^d)=(nK f g D 1).take (m*2^d-2^D)++nK f g d m:=by
 rw [Nat.add_mul,Nat.one_mul] at h2;obtain ⟨P,hP⟩:∃P,m*2^d=P:=⟨_,rfl⟩
 rw [hP] at h1 h2 ⊢;have p1:=Nat.two_pow_pos d;have p2:=Nat.two_pow_pos D;generalize hQ:2^D=Q at h1 h2 p2 ⊢;generalize hR:2^d=R at h2 p1 ⊢;have e:((nK f g D 1).take (P-Q)).length=P-Q:=by
  rw [List.length_take,jF,hQ];omega
 refine List.ext_getElem? fun k=> ?_
 by_cases hk:k<P-Q
 . rw [List.getElem?_take,if_pos xo,List.getElem?_append_left (by rw [e];exact hk),List.getElem?_take,if_pos hk]
 . rw [List.getElem?_append_right (by rw [e];omega),e];by_cases hk2:k<P-Q+R
   . rw [List.getElem?_take,if_pos hk2,Bh _ _ _ (by rw [hQ];omega),Bh _ _ _ (by rw [hR];omega),hP,hQ];rw [show 1*Q+k=P+(k-(P-Q)) by omega]
   . rw [List.getElem?_take,if_neg hk2,List.getElem?_eq_none (by rw [jF,hR];omega)]
theorem Good.ahead {f g:Nat->Int} {D d m:Nat} (h:Good f g d m) (hd:d<=D) (h1:2^D<=m*2^d) (h2:(m+1)*2^d<=2*2^D):
    jV ((nK f g D 1).take (m*2^d-2^D+2^d))=jV ((nK f g D 1).take (m*2^d-2^D))+g m:=by
 rw [VM hd h1 h2,uV,h.cnt]
theorem Good.Vw {f g:Nat->Int} {d n:Nat} (h:Good f g (d+1) n) (i k:Int) (h0:0<=k) (hk:k<g n):
    if k<g (2*n) then oh (nK f g (d+1) n) i k=oh (nK f g d (2*n)) i k
    else k-g (2*n)<g (2*n+1)/\oh (nK f g (d+1) n) i k=oh (nK f g d (2*n+1)) (i+((2^d:Nat):Int)) (k-g (2*n)):=by
 obtain ⟨h1,h2,h3,h4⟩:=h;obtain ⟨j1,-,-,-⟩:=lX h2;split
 . rename_i hl
   rw [nK,YA _ _ _ _ h0 (by rw [h3.cnt];exact hl)]
 . rename_i hl
   refine ⟨by omega,?_⟩;rw [nK,EQ _ _ _ _ h3.Vz (by rw [h3.cnt];omega),jF,h3.cnt]
theorem NY {f g:Nat->Int} {d n:Nat} (h:Good f g d n) {key:Int} (hs:¬srv key (f n) (g n)) (i s:Int):kE key (nK f g d n) i s=(0,0,6):=by
 have:=t_ (key:=key) (nK f g d n) [] i s (fun p hp hq=>hs ((h.Gh key).2 ⟨p,hp,hq⟩));rw [List.append_nil] at this;rw [this];rfl
theorem RP {f g:Nat->Int} {d n:Nat} (h:Good f g d n) {k:Int} (hk:g n<=k) (i:Int):oh (nK f g d n) i k=(0,0,290):=by
 have:=EQ (nK f g d n) [] i k h.Vz (by rw [h.cnt];exact hk);rw [List.append_nil] at this;rw [this];rfl
def d_ (l:List (Int×Int)):Int×Int:=if l=[] then (0,0) else ((l.getD (l.length-1) (0,0)).1,(l.length:Nat))
theorem xm (c:aW) (k:Nat):oN c k=d_ (b_ c (k*c.ai.toNat) ((k+1)*c.ai.toNat)):=rfl
theorem fK (l:List (Int×Int)):(d_ l).2=l.length:=by
 unfold d_;split
 . rename_i h;rw [h];rfl
 . rfl
theorem pX {l:List (Int×Int)} (h:l≠ []):(d_ l).1=(l.getD (l.length-1) (0,0)).1:=by rw [d_,if_neg h]
theorem Jv (ws:List Int) {a b d:Nat} (h1:a<=b) (h2:b<=d):eQ ws a b++eQ ws b d=eQ ws a d:=by
 unfold eQ;rw [<-List.filter_append];congr 1
 have:=List.range'_append_1 (s:=a) (m:=b-a) (n:=d-b);rw [show a+(b-a)=b by omega,show b-a+(d-b)=d-a by omega] at this;exact this
theorem gZ (c:aW) {a b d:Nat} (h1:a<=b) (h2:b<=d):b_ c a b++b_ c b d=b_ c a d:=by
 unfold b_;rw [<-List.map_append,Jv c.ws h1 h2]
theorem qO (a b:List (Int×Int)):d_ (a++b)=ED (d_ a) (d_ b):=by
 by_cases hb:b=[]
 . subst hb;rw [List.append_nil,ED,fK,fK];simp only [TG,OH,List.length_nil,Int.ofNat_zero,Int.lt_irrefl,if_false,Int.natCast_zero];rw [<-fK]
 . have hl:0<b.length:=List.length_pos_iff.2 hb;have hne:a++b≠ []:=by simp [hb]
   rw [ED,fK,fK,pX hb];simp only [TG,OH];rw [if_pos xo,if_pos xo];refine Prod.ext ?_ ?_
   . rw [pX hne];dsimp only;rw [List.length_append,List.getD_eq_getElem?_getD,List.getElem?_append_right xo,show a.length+b.length-1-a.length=b.length-1 by omega,<-List.getD_eq_getElem?_getD]
   . rw [fK,List.length_append];dsimp only;push_cast
     rfl
def AU (l:List (Int×Int)):Prop:=l.Pairwise fun p q=>p.1<q.1
theorem abk {l:List (Int×Int)} (h:MZ l=true):AU l:=by
 unfold MZ at h;rw [List.all_eq_true] at h;have h1:∀i,i+1<l.length->(l.getD i (0,0)).1<(l.getD (i+1) (0,0)).1:=fun i hi=>by
  have:=h (i+1) (List.mem_range.2 hi);simpa [Jm] using this
 have h2:∀j i,i<j->j<l.length->(l.getD i (0,0)).1<(l.getD j (0,0)).1:=by
  intro j;induction j with
  | zero=>intro i hi;omega
  | succ j ih=>
   intro i hi hj;have:=h1 j hj;by_cases e:i=j
   . subst e;exact this
   . have:=ih i xo xo;omega
 refine List.pairwise_iff_getElem.2 fun i j hi hj hij=> ?_
 have:=h2 j i hij hj;simpa [List.getD_eq_getElem?_getD,hi,hj] using this
theorem AU.apart {a b:List (Int×Int)} (h:AU (a++b)):AU a/\AU b/\∀p ∈ a,∀q ∈ b,p.1<q.1:=by
 have:=List.pairwise_append.1 h;exact this
theorem AU.b_ {c:aW} {n:Nat} (h:AU (b_ c 0 n)) {a b:Nat} (h1:a<=b) (h2:b<=n):AU (Go.Proofs.YtbedhbpgnfffmaaGreatDoor.b_ c a b):=by
 rw [<-gZ c (Nat.zero_le b) h2] at h;have h3:=h.apart.1;rw [<-gZ c (Nat.zero_le a) h1] at h3;exact h3.apart.2.1
theorem Df {l:List (Int×Int)} (h:l≠ []):l.getD (l.length-1) (0,0) ∈ l:=by
 have hl:0<l.length:=List.length_pos_iff.2 h;rw [List.getD_eq_getElem?_getD,List.getElem?_eq_getElem xo];exact List.getElem_mem _
theorem UK {l:List (Int×Int)} (h:l.length<=65536):ownB (d_ l).1 (d_ l).2=true:=by
 rw [fK];by_cases e:l=[]
 . subst e;decide
 . have hl:0<l.length:=List.length_pos_iff.2 e;simp [ownB,e];omega
theorem QU {a b:List (Int×Int)} (h:AU (a++b)):xX (d_ (a++b)).1 (d_ (a++b)).2 (d_ a).1 (d_ a).2 (d_ b).1 (d_ b).2=true:=by
 have e1:=congrArg Prod.fst (qO a b);have e2:=congrArg Prod.snd (qO a b);have e3:=fK (a++b);rw [List.length_append] at e3;push_cast at e3
 have ea:=fK a;have eb:=fK b;simp only [ED] at e1 e2;simp only [xX,Bool.and_eq_true,Bool.or_eq_true,decide_eq_true_eq];refine ⟨⟨⟨⟨⟨by omega,by omega⟩,by omega⟩,by omega⟩,e1,e2⟩,?_⟩;by_cases ha:a=[]
 . exact .inl (.inl (by rw [ea,ha];rfl))
 . by_cases hb:b=[]
   . exact .inl (.inr (by rw [eb,hb];rfl))
   . refine .inr ?_;rw [pX ha,pX hb];exact h.apart.2.2 _ (Df ha) _ (Df hb)
theorem X6 {c:aW} {S M:Nat} (hS:c.ai.toNat=S):∀d n,M<=n*2^d->UJ c M d n=d_ (b_ c ((n*2^d-M)*S) ((n*2^d-M+2^d)*S)):=by
 intro d;induction d with
 | zero=>
  intro n h;rw [Nat.pow_zero,Nat.mul_one] at *;rw [UJ,xm,hS]
 | succ d ih=>
  intro n h;have e1:n*2^(d+1)=2*n*2^d:=by rw [Nat.pow_succ,Nat.mul_comm 2 n,Nat.mul_assoc,Nat.mul_comm 2]
  have e2:(2*n+1)*2^d=2*n*2^d+2^d:=by rw [Nat.add_mul,Nat.one_mul]
  have e3:2^(d+1)=2^d+2^d:=by rw [Nat.pow_succ];omega
  rw [e1] at h ⊢;have h2:M<=(2*n+1)*2^d:=by rw [e2];exact Nat.le_trans h (Nat.le_add_right _ _)
  rw [UJ,ih (2*n) h,ih (2*n+1) h2,<-qO,e2,e3];generalize 2*n*2^d=X at *;generalize 2^d=Y at *;have e4:X+Y-M=X-M+Y:=xo;rw [e4,gZ c (Nat.mul_le_mul_right _ xo) (Nat.mul_le_mul_right _ xo),Nat.add_assoc]
def D_ (D n:Nat):Nat:=n*2^(D-n.log2)-2^D
def zK (D n:Nat):Nat:=D_ D n+2^(D-n.log2)
theorem OU {D n:Nat} (h1:1<=n) (h2:n<2^(D+1)):2^D<=n*2^(D-n.log2)/\n*2^(D-n.log2)+2^(D-n.log2)<=2*2^D/\zK D n<=2^D:=by
 obtain ⟨k1,k2⟩:=GR h1;have hl:n.log2<D+1:=(Nat.log2_lt xo).2 h2;have e:2^D=2^n.log2*2^(D-n.log2):=by rw [<-Nat.pow_add];congr 1;omega
 have k3:2^n.log2*2^(D-n.log2)<=n*2^(D-n.log2):=Nat.mul_le_mul_right _ k1;have k4:(n+1)*2^(D-n.log2)<=(2*2^n.log2)*2^(D-n.log2):=Nat.mul_le_mul_right _ xo;rw [Nat.mul_assoc,<-e,Nat.add_mul,Nat.one_mul] at k4;rw [<-e] at k3;unfold zK D_;omega
theorem OX {c:aW} {S D n:Nat} (hS:c.ai.toNat=S) (h1:1<=n) (h2:n<2^(D+1)):zM c D n=d_ (b_ c (D_ D n*S) (zK D n*S)):=by
 rw [zM,X6 hS _ _ (OU h1 h2).1];rfl
theorem O0 {L:Nat} (hL:1<=L) (f:Nat->Int) {n:Nat} (h1:1<=n) (h2:n<2^L):fU L ((lay L 1).map f) n=f n:=by
 have:=W_ hL f (fun _=>true) h1 h2;rw [uX L hL f (fun _ _ _=>rfl),if_pos rfl] at this;rw [fU,if_neg xo,n_,if_neg xo,vP hL h1 h2,Int.toNat_natCast];exact this
theorem oK {c:aW} (h:fE c=0):AU (b_ c 0 c.ks.length):=by
 have hm:=nX h;rw [fE,if_pos hm] at h;split at h
 . exact abk (by assumption)
 . cases h
theorem qH {c:aW} (h:kJ c=0):∃S D:Nat,c.ai=S/\c.ai.toNat=S/\4<=S/\S<=64/\c.cs.length=2^D/\D<=13/\c.ks.length=S*2^D/\S*2^D<=65536/\iE c=((D+1:Nat):Int)/\(gy c).length=2^(D+1)-1/\(fZ c).length=2^(D+1)-1/\
    (∀n,1<=n->n<2^(D+1)->fU (D+1) (gy c) n=(d_ (b_ c (D_ D n*S) (zK D n*S))).1/\fU (D+1) (fZ c) n=(d_ (b_ c (D_ D n*S) (zK D n*S))).2):=by
 obtain ⟨h1,h2⟩:=sO h;obtain ⟨S,D,M,hS,hS2,h4,h64,hM,uo,VZ,hD,hSM,hk,-⟩:=sN (nX h1) h2;have hL:u_ c=D+1:=by rw [u_,hM,uo]
 have e1:gy c=(lay (D+1) 1).map fun n=>(zM c D n).1:=by rw [gy,if_pos h,Xf,hL,hM,uo]
 have e2:fZ c=(lay (D+1) 1).map fun n=>(zM c D n).2:=by rw [fZ,if_pos h,Xg,hL,hM,uo]
 refine ⟨S,D,hS,hS2,h4,h64,by omega,hD,by rw [VZ];exact hk,by rw [VZ];exact hSM,by rw [iE,if_pos h,hL],?_,?_,fun n k1 k2=>⟨?_,?_⟩⟩
 . rw [e1,List.length_map,fG 1 xo]
 . rw [e2,List.length_map,fG 1 xo]
 . rw [e1,O0 xo _ k1 k2,OX hS2 k1 k2]
 . rw [e2,O0 xo _ k1 k2,OX hS2 k1 k2]
theorem Gu {c:aW} {a b:Nat}:(b_ c a b).length<=b-a:=by
 rw [cO];exact oH _ _ _
theorem UB {D n:Nat} (h1:1<=n) (h2:n<2^D):D_ D (2*n)=D_ D n/\zK D (2*n)=D_ D (2*n+1)/\zK D (2*n+1)=zK D n:=by
 have hl:n.log2<D:=(Nat.log2_lt xo).2 h2;have l1:(2*n).log2=n.log2+1:=by rw [qA xo];congr 2;omega
 have l2:(2*n+1).log2=n.log2+1:=by rw [qA xo];congr 2;omega
 have e:2^(D-n.log2)=2*2^(D-(n.log2+1)):=by rw [show D-n.log2=D-(n.log2+1)+1 by omega,Nat.pow_succ];omega
 have e1:n*2^(D-n.log2)=2*n*2^(D-(n.log2+1)):=by rw [e,Nat.mul_comm 2 n,Nat.mul_assoc]
 have e2:(2*n+1)*2^(D-(n.log2+1))=2*n*2^(D-(n.log2+1))+2^(D-(n.log2+1)):=by rw [Nat.add_mul,Nat.one_mul]
 obtain ⟨k1,k2,k3⟩:=OU (D:=D) h1 (by rw [Nat.pow_succ];omega);unfold zK D_;rw [l1,l2,e1,e2,e];rw [e1] at k1;omega
theorem Ig {c:aW} (h:kJ c=0):oO (iE c) (gy c) (fZ c)=true:=by
 obtain ⟨S,D,hS,hS2,h4,h64,hcs,hD,hk,hSM,hL,hlm,hlc,hv⟩:=qH h;have hr:=oK (sO h).1;rw [hk] at hr;have hp:=Nat.two_pow_pos D;have hp2:2^(D+1)=2*2^D:=by rw [Nat.pow_succ];omega
 have hmul:∀x,x<=2^D->x*S<=S*2^D:=fun x hx=>by rw [Nat.mul_comm];exact Nat.mul_le_mul_left _ hx
 rw [hL];generalize gy c=ms at *;generalize fZ c=cs at *;simp only [oO,Bool.and_eq_true,decide_eq_true_eq,Int.toNat_natCast];refine ⟨⟨by omega,by omega,by simpa using hlm,by simpa using hlc⟩,mG.2 fun n n1 n2=> ?_⟩;have n3:n<2^(D+1):=xo;obtain ⟨u1,u2,u3⟩:=OU n1 n3;have hm3:=hmul _ u3;have v:=hv n n1 n3;unfold JF;rw [Bool.and_eq_true,v.1,v.2];refine ⟨UK (Nat.le_trans Gu xo),?_⟩;by_cases hn:n<2^D
 . obtain ⟨t1,t2,t3⟩:=UB n1 hn;have va:=hv (2*n) xo xo;have vb:=hv (2*n+1) xo xo;rw [t1] at va;rw [t3,<-t2] at vb;rw [va.1,va.2,vb.1,vb.2];have o1:D_ D n<=zK D (2*n):=by rw [<-t1];exact Nat.le_add_right _ _
   have o2:zK D (2*n)<=zK D n:=by rw [<-t3,t2];exact Nat.le_add_right _ _
   have o3:=Nat.mul_le_mul_right S o1;have o4:=Nat.mul_le_mul_right S o2;have e:=gZ c o3 o4;rw [<-e,QU (by rw [e];exact hr.b_ xo hm3),Bool.or_true]
 . rw [decide_eq_true xo,Bool.true_or]
end
section
open Go.RowKit Go.Shelf
def aaO (ws ks:List Int) (n:Nat):Prop:=∀i j,i<j->j<n->bG ws i=true->bG ws j=true->ks.getD i 0<ks.getD j 0
theorem vI {c:aW} (h:fE c=0):aaO c.ws c.ks c.ks.length:=by
 have hr:=oK h;unfold AU b_ eQ at hr;rw [List.pairwise_map,List.pairwise_filter,List.pairwise_iff_getElem] at hr;intro i j hij hj bi bj;have:=hr i j (by rw [List.length_range'];omega) (by rw [List.length_range'];omega) hij;simp only [List.getElem_range',Nat.zero_add,Nat.one_mul] at this;exact this bi bj
structure FrR (ws ks:List Int) (n:Nat) (key:Int) (r:Nat):Prop where
 le:r<=n
 low:∀j,j<r->bG ws j=true->ks.getD j 0<key
 hit:r<n->bG ws r=true/\key<=ks.getD r 0
def xA (ws ks:List Int) (n:Nat) (key:Int):Nat:=((List.range' 0 n).find? fun i=>bG ws i&&decide (key<=ks.getD i 0)).getD n
theorem qF (ws ks:List Int) (n:Nat) (key:Int):FrR ws ks n key (xA ws ks n key):=by
 unfold xA;cases h:(List.range' 0 n).find? fun i=>bG ws i&&decide (key<=ks.getD i 0) with
 | none=>
  rw [List.find?_eq_none] at h;refine ⟨Nat.le_refl _,fun j hj hb=> ?_,fun hn=>absurd hn (Nat.lt_irrefl _)⟩;have:=h j (List.mem_range'_1.2 ⟨Nat.zero_le _,by simpa using hj⟩);rw [hb] at this;simpa using this
 | some i=>
  rw [List.find?_eq_some_iff_getElem] at h;obtain ⟨h1,k,hk,h2,h3⟩:=h;rw [List.getElem_range'] at h2;rw [List.length_range'] at hk;obtain rfl:k=i:=xo;simp only [Bool.and_eq_true,decide_eq_true_eq] at h1;refine ⟨by simp;omega,fun j hj hb=> ?_,fun _=>h1⟩;have:=h3 j hj;rw [List.getElem_range',show 0+1*j=j by omega,hb] at this;simpa using this
theorem FrR.unique {ws ks:List Int} {n:Nat} {key:Int} {r q:Nat} (h:FrR ws ks n key r) (k:FrR ws ks n key q):r=q:=by
 apply Nat.le_antisymm
 . apply Nat.le_of_not_lt;intro hl;have a:=k.hit (Nat.lt_of_lt_of_le hl h.le);have b:=h.low q hl a.1;omega
 . apply Nat.le_of_not_lt;intro hl;have a:=h.hit (Nat.lt_of_lt_of_le hl k.le);have b:=k.low r hl a.1;omega
theorem WF (k key:Int) (b:Nat) (w:World) (hb:w.cell? ⟨b,0,none⟩=some (.int .i64 key)):
    Calls Tryz.prog 106 #[.int .i64 k,.pointer (some ⟨b,0,none⟩)] w fun e w'=>e= .returned (.bool (decide (key<=k)))/\w=w':=by
 go_enter Tryz.func106,Tryz.ntmps106
 go_wp2
 go_ret
 exact ⟨rfl,rfl⟩
theorem split_ok (ai laid key:Int) (wa ka va ca:Option Addr) (wc kc vc cc lw lv lc:Nat) (n:Nat) (ws ks:List Int) (hn:n<=65536) (hks:ks.length=n) (b:Nat) (w:World) (hk:aQ .i64 w ka ks) (hb:w.cell? ⟨b,0,none⟩=some (.int .i64 key)) (hmo:aaO ws ks n)
    (NX:Hid (∀m W,m<=n->Below w.heap.size w W->Calls Tryz.prog 178 #[.slice wa lw wc,.int .i64 n,.int .i64 (m:Nat)] W (aC W (.tuple #[.int .i64 ((nx ws m n).getD 0:Nat),.int .i64 (if (nx ws m n).isSome then 0 else 6)])))):
    Calls Tryz.prog 105 #[.agg #[.int .i64 ai,.slice wa lw wc,.slice ka n kc,.slice va lv vc,.slice ca lc cc,.int .u64 laid],.func (.func 106) #[] #[.pointer (some ⟨b,0,none⟩)]] w (aC w (.int .i64 (xA ws ks n key))):=by
 have HN:=hid (fun m (hm:m<=n) (h:nx ws m n=none) W hb=>(show Calls Tryz.prog 178 #[.slice wa lw wc,.int .i64 n,.int .i64 (m:Nat)] W (aC W (.tuple #[.int .i64 0,.int .i64 6])) by
  have:=NX.out m W hm hb;rw [h] at this;exact this))
 have HS:=hid (fun m (hm:m<=n) i (h:nx ws m n=some i) W hb=>(show Calls Tryz.prog 178 #[.slice wa lw wc,.int .i64 n,.int .i64 (m:Nat)] W (aC W (.tuple #[.int .i64 (i:Nat),.int .i64 0])) by
  have:=NX.out m W hm hb;rw [h] at this;exact this))
 have FR:=hid (fun r (h:FrR ws ks n key r)=>(qF ws ks n key).unique h);have HK:=hid hk;have XG:=hid hks;have HMO:=hid hmo;obtain ⟨R,hR⟩:∃R,xA ws ks n key=R:=⟨_,rfl⟩
 rw [hR] at FR ⊢;clear hk hks hmo NX hR;go_enter Tryz.func105,Tryz.ntmps105
 have hbk:=World.block_lt_of_cell? _ _ hb;go_wp2
 refine bZ 0 (fun _ _ _=>False) rfl (fun _ _ _ h=>h.elim) ?_;intro H hH hp;clear hH hp;go_wp2
 refine wp_label ?_;have hba:Below w.heap.size w (w.alloc (.cells #[.int .i64 ai,.slice wa lw wc,.slice ka n kc,.slice va lv vc,.slice ca lc cc,.int .u64 laid] 29)):=br.alloc (Nat.le_refl _) _;have d1:(w.alloc (.cells #[.int .i64 ai,.slice wa lw wc,.slice ka n kc,.slice va lv vc,.slice ca lc cc,.int .u64 laid] 29)).cell? ⟨w.heap.size,1,none⟩=some (.slice wa lw wc):=iP;have d2:(w.alloc (.cells #[.int .i64 ai,.slice wa lw wc,.slice ka n kc,.slice va lv vc,.slice ca lc cc,.int .u64 laid] 29)).cell? ⟨w.heap.size,2,none⟩=some (.slice ka n kc):=iP;have hsz:w.heap.size<(w.alloc (.cells #[.int .i64 ai,.slice wa lw wc,.slice ka n kc,.slice va lv vc,.slice ca lc cc,.int .u64 laid] 29)).heap.size:=by simp
 generalize (w.alloc (.cells #[.int .i64 ai,.slice wa lw wc,.slice ka n kc,.slice va lv vc,.slice ca lc cc,.int .u64 laid] 29))=w1 at *;have HBA:=hid hba;clear hba;go_wp2
 go_loopg [6,7] n (fun gk fv tv wr=>∃i j:Nat,i+gk=j/\j<=n/\fv= .int .i64 i/\tv= .int .i64 j/\Hid (Below w.heap.size w wr)/\wr.cell? ⟨w.heap.size,1,none⟩=some (.slice wa lw wc)/\wr.cell? ⟨w.heap.size,2,none⟩=some (.slice ka n kc)/\w.heap.size<wr.heap.size/\Hid (∀q,q<i->bG ws q=true->ks.getD q 0<key)/\Hid (∀q,j<=q->q<n->bG ws q=true->key<=ks.getD q 0))
 case atStart=>exact ⟨0,n,by omega,Nat.le_refl _,rfl,rfl,HBA,d1,d2,hsz,hid (fun q h=>by omega),hid (fun q h1 h2=>by omega)⟩
 case round=>
  obtain ⟨i,j,hij,hjn,rfl,rfl,HB,e1,e2,hz,HA,HC⟩:=hrel;by_cases hlt:i<j
  . obtain ⟨m,hm⟩:∃m,(i+j)/2=m:=⟨_,rfl⟩
    have Qd:i<=m:=xo;have hmj:m<j:=xo;have hmn:m<=n:=xo;have q1:((i:Int)+(j:Int))/2=(m:Int):=xo;have q2:((i:Int)+(j:Int)).tdiv 2=(m:Int):=by rw [Int.tdiv_eq_ediv_of_nonneg xo];omega
    have HIJ:=hid (And.intro hij hjn);have HM:=hid (And.intro Qd (And.intro hmj hmn));clear hij hm;cases hox:nx ws m n with
    | none=>
     have N1:=hid (HN.out m hmn hox wr HB.out);have FC:Hid (∀q,m<=q->q<n->bG ws q=true->key<=ks.getD q 0):=hid fun q h1 h2 h3=>by
      have:=GN.1 hox q h1 h2;rw [h3] at this;cases this
     clear Qd hmj hjn hox;go_wp2_with fail
     refine N1.out.mono ?_;rintro e w2 ⟨rfl,hb2⟩;have hz2:=hb2.size;replace e1:=(hb2.cell (p:=⟨w.heap.size,1,none⟩) hz).trans e1;replace e2:=(hb2.cell (p:=⟨w.heap.size,2,none⟩) hz).trans e2;have HB2:=hid (aj hb2 HB.out xo);clear hb2;go_wp2
     go_roundg (m-i)
     case measure=>have:=HIJ.out;have:=HM.out;omega
     case rel=>exact ⟨i,m,by have:=HM.out;omega,hmn,rfl,rfl,HB2,e1,e2,by omega,HA,FC⟩
    | some at_=>
     obtain ⟨x1,x2,x3,x4⟩:=GM.1 hox;have N1:=hid (HS.out m hmn at_ hox wr HB.out);by_cases hge:j<=at_
     . have FC:Hid (∀q,m<=q->q<n->bG ws q=true->key<=ks.getD q 0):=hid fun q h1 h2 h3=>by
         refine HC.out q ?_ h2 h3;apply Nat.le_trans hge;apply Nat.le_of_not_lt;intro hl;have:=x4 q h1 hl;rw [h3] at this;cases this
       clear Qd hmj hjn hox x3 x4;go_wp2_with fail
       refine N1.out.mono ?_;rintro e w2 ⟨rfl,hb2⟩;have hz2:=hb2.size;replace e1:=(hb2.cell (p:=⟨w.heap.size,1,none⟩) hz).trans e1;replace e2:=(hb2.cell (p:=⟨w.heap.size,2,none⟩) hz).trans e2;have HB2:=hid (aj hb2 HB.out xo);clear hb2;go_wp2
       go_roundg (m-i)
       case measure=>have:=HIJ.out;have:=HM.out;omega
       case rel=>exact ⟨i,m,by have:=HM.out;omega,hmn,rfl,rfl,HB2,e1,e2,by omega,HA,FC⟩
     . obtain ⟨bk,ok,kx,rfl,hkx,ck,hkl⟩:=HK.out.get (i:=at_) (by have:=XG.out;omega);have HMX:Hid (∀q,q<n->bG ws q=true->(q<at_->ks.getD q 0<kx)/\(at_<q->kx<ks.getD q 0)):=hid fun q h1 h2=>⟨fun h=>by rw [<-hkx.out];exact HMO.out q at_ h x2 h2 x3,fun h=>by rw [<-hkx.out];exact HMO.out at_ q h h1 x3 h2⟩
       have hat:at_<j:=xo;have hbelow:∀q,m<=q->q<at_->bG ws q=false:=x4;have D6:=hid hbelow;have HKX:=hkx;clear Qd hmj hjn hox x3 x4 hge hkx hbelow;have F1:=fun W (hb:Below w.heap.size w W)=>hid (WF kx key b W ((hb.cell (World.block_lt_of_cell? _ _ (by assumption))).trans (by assumption)))
       by_cases hle:key<=kx
       . have FC:Hid (∀q,m<=q->q<n->bG ws q=true->key<=ks.getD q 0):=hid fun q h1 h2 h3=>by
           rcases Nat.lt_trichotomy q at_ with h|h|h
           . have:=D6.out q h1 h;rw [h3] at this;cases this
           . rw [h,HKX.out];exact hle
           . have:=(HMX.out q h2 h3).2 h;omega
         have hd:decide (key<=kx)=true:=decide_eq_true hle;have F2:Hid (∀W,Below w.heap.size w W->Calls Tryz.prog 106 #[.int .i64 kx,.pointer (some ⟨b,0,none⟩)] W fun e w'=>e= .returned (.bool true)/\W=w'):=hid fun W hb=>by
          have:=(F1 W hb).out;rw [hd] at this;exact this
         clear F1 hle hd D6 HMX;go_wp2_with fail
         refine N1.out.mono ?_;rintro e w2 ⟨rfl,hb2⟩;have hz2:=hb2.size;replace e1:=(hb2.cell (p:=⟨w.heap.size,1,none⟩) hz).trans e1;replace e2:=(hb2.cell (p:=⟨w.heap.size,2,none⟩) hz).trans e2;have HB2:=hid (aj hb2 HB.out xo);have ck2:=(HB2.out.cell (World.block_lt_of_cell? _ _ ck)).trans ck;clear hb2;go_wp2_with fail
         refine (F2.out _ HB2.out).mono ?_;rintro e w' ⟨rfl,rfl⟩;go_wp2
         go_roundg (m-i)
         case measure=>have:=HIJ.out;have:=HM.out;omega
         case rel=>exact ⟨i,m,by have:=HM.out;omega,hmn,rfl,rfl,HB2,e1,e2,by omega,HA,FC⟩
       . have FA:Hid (∀q,q<at_+1->bG ws q=true->ks.getD q 0<key):=hid fun q h1 h3=>by
           rcases Nat.lt_trichotomy q at_ with h|h|h
           . have:=(HMX.out q xo h3).1 h;omega
           . rw [h,HKX.out];omega
           . omega
         have hd:decide (key<=kx)=false:=decide_eq_false hle;have F2:Hid (∀W,Below w.heap.size w W->Calls Tryz.prog 106 #[.int .i64 kx,.pointer (some ⟨b,0,none⟩)] W fun e w'=>e= .returned (.bool false)/\W=w'):=hid fun W hb=>by
          have:=(F1 W hb).out;rw [hd] at this;exact this
         clear F1 hle hd D6 HMX;go_wp2_with fail
         refine N1.out.mono ?_;rintro e w2 ⟨rfl,hb2⟩;have hz2:=hb2.size;replace e1:=(hb2.cell (p:=⟨w.heap.size,1,none⟩) hz).trans e1;replace e2:=(hb2.cell (p:=⟨w.heap.size,2,none⟩) hz).trans e2;have HB2:=hid (aj hb2 HB.out xo);have ck2:=(HB2.out.cell (World.block_lt_of_cell? _ _ ck)).trans ck;clear hb2;go_wp2_with fail
         refine (F2.out _ HB2.out).mono ?_;rintro e w' ⟨rfl,rfl⟩;go_wp2
         go_roundg (j-(at_+1))
         case measure=>have:=HIJ.out;have:=HM.out;omega
         case rel=>exact ⟨at_+1,j,by omega,HIJ.out.2,by go_num,rfl,HB2,e1,e2,by omega,FA,HC⟩
  . have hij2:i=j:=xo;subst hij2;have HJN:=hid hjn;cases hox:nx ws i n with
    | none=>
     have N1:=hid (HN.out i hjn hox wr HB.out);have HR:=hid (FR.out n ⟨Nat.le_refl _,fun q h1 h2=>HA.out q (by
      apply Nat.lt_of_not_le;intro h;have:=GN.1 hox q h h1;rw [h2] at this;cases this) h2,fun h=>absurd h (Nat.lt_irrefl _)⟩)
     clear hox;go_wp2_with fail
     refine N1.out.mono ?_;rintro e w2 ⟨rfl,hb2⟩;have HB2:=hid (aj hb2 HB.out xo);clear hb2;go_wp2
     simp only [Exit.jump];go_ret
     rw [HR.out];exact ⟨rfl,HB2.out⟩
    | some at_=>
     obtain ⟨x1,x2,x3,x4⟩:=GM.1 hox;have N1:=hid (HS.out i hjn at_ hox wr HB.out);have HR:=hid (FR.out at_ ⟨by omega,fun q h1 h2=>HA.out q (by
      apply Nat.lt_of_not_le;intro h;have:=x4 q h h1;rw [h2] at this;cases this) h2,fun h=>⟨x3,HC.out at_ x1 h x3⟩⟩)
     clear hox x3 x4;go_wp2_with fail
     refine N1.out.mono ?_;rintro e w2 ⟨rfl,hb2⟩;have HB2:=hid (aj hb2 HB.out xo);clear hb2;go_wp2
     simp only [Exit.jump];go_ret
     rw [HR.out];exact ⟨rfl,HB2.out⟩
end
section
open Go.RowKit
def wE (l:Int) (ms cs:List Int):List (Int×Int):=nK (fU l.toNat ms) (fU l.toNat cs) (l.toNat-1) 1
def yY (l:Int) (ms cs:List Int) (key:Int):Int×Int×Int:=if oO l ms cs=true then kE key (wE l ms cs) 0 0 else (0,0,8)
def CW (l:Int) (ms cs:List Int) (k:Int):Int×Int×Int:=if oO l ms cs=true then (if k<0 then (0,0,290) else oh (wE l ms cs) 0 k) else (0,0,8)
theorem uP {l:Int} {ms cs:List Int} (h:oO l ms cs=true):∃L D N F:Nat,l=L/\1<=L/\L<=14/\N+1=2^L/\D+1=L/\2^D=F/\N+1=2*F/\F<=8192/\0<F/\l.toNat=L/\l.toNat-1=D/\ms.length=N/\cs.length=N/\Good (fU L ms) (fU L cs) D 1:=by
 unfold oO at h;rw [Bool.and_eq_true,decide_eq_true_eq] at h;obtain ⟨⟨h1,h2,h3,h4⟩,h5⟩:=h;have hp:=Nat.two_pow_pos l.toNat;have e:2^l.toNat=2*2^(l.toNat-1):=by rw [show l.toNat=l.toNat-1+1 by omega,Nat.pow_succ];simp;omega
 refine ⟨l.toNat,l.toNat-1,2^l.toNat-1,2^(l.toNat-1),by omega,by omega,by omega,by omega,by omega,rfl,by omega,Nat.pow_le_pow_right xo (by omega:l.toNat-1<=13),Nat.two_pow_pos _,rfl,rfl,h3,h4,SI xo h5⟩
theorem Vo {L:Nat} (h:1<=L):n_ L 1=0:=by
 have h2:2^1<=2^L:=Nat.pow_le_pow_right xo h;rw [n_,if_neg xo,vP h xo xo,oJ,uJ (Nat.le_refl _)];have:=Vg L L (Nat.le_refl _);simp [this]
theorem xC {L:Nat} (h:1<=L) (ms:List Int):fU L ms 1=ms.getD 0 0:=by
 rw [fU,if_neg xo,Vo h];rfl
def wR (key:Int) (f g:Nat->Int) (D d n:Nat) (s:Int):Prop:=
  Good f g d n/\srv key (f n) (g n)/\kE key (nK f g D 1) 0 0=kE key (nK f g d n) (((n*2^d:Nat):Int)-((2^D:Nat):Int)) s/\0<=s/\s+g n<=65536
theorem y_ (n d:Nat):2*n*2^d=n*2^(d+1):=by rw [Nat.pow_succ,Nat.mul_comm 2 n,Nat.mul_assoc,Nat.mul_comm 2]
theorem Dz (n d:Nat):(2*n+1)*2^d=n*2^(d+1)+2^d:=by rw [Nat.add_mul,Nat.one_mul,y_]
theorem wR.step {key:Int} {f g:Nat->Int} {D d n:Nat} {s:Int} (h:wR key f g D (d+1) n s):
    (0<=s/\s<=65536/\0<=s+g (2*n)/\s+g (2*n)<=65536)/\if decide (srv key (f (2*n)) (g (2*n)))=true then wR key f g D d (2*n) s else wR key f g D d (2*n+1) (s+g (2*n)):=by
 obtain ⟨hg,hs,he,h0,h1⟩:=h;have hst:=hg.SB key hs (((n*2^(d+1):Nat):Int)-((2^D:Nat):Int)) s;obtain ⟨o1,o2,-⟩:=fM hg.own;obtain ⟨-,j,hl,hr⟩:=hg;obtain ⟨j1,-⟩:=lX j;obtain ⟨l1,l2,-⟩:=fM hl.own;obtain ⟨r1,r2,-⟩:=fM hr.own;refine ⟨⟨h0,by omega,by omega,by omega⟩,?_⟩;by_cases hk:srv key (f (2*n)) (g (2*n))
 . rw [if_pos hk] at hst;rw [if_pos (decide_eq_true hk)];refine ⟨hl,hk,?_,h0,by omega⟩;rw [he,hst,y_]
 . rw [if_neg hk] at hst;rw [if_neg (by simp [hk])];refine ⟨hr,hst.1,?_,by omega,by omega⟩;rw [he,hst.2,Dz];congr 1
   push_cast
   omega
theorem wR.root {key:Int} {f g:Nat->Int} {D:Nat} (hg:Good f g D 1) (hs:srv key (f 1) (g 1)):wR key f g D D 1 0:=by
 obtain ⟨o1,o2,-⟩:=fM hg.own;refine ⟨hg,hs,?_,Int.le_refl _,by omega⟩;rw [Nat.one_mul,Int.sub_self]
theorem wR.last {key:Int} {f g:Nat->Int} {D n F:Nat} {s:Int} (h:wR key f g D 0 n s) (hF:2^D=F):kE key (nK f g D 1) 0 0=((n:Int)-F,s,0):=by
 obtain ⟨hg,hs,he,h0,h1⟩:=h;rw [he,nK,kE,if_pos hs,hF,Nat.pow_zero,Nat.mul_one]
def EE (k:Int) (f g:Nat->Int) (D d n:Nat) (s:Int):Prop:=
  Good f g d n/\(0<=k-s/\k-s<g n)/\oh (nK f g D 1) 0 k=oh (nK f g d n) (((n*2^d:Nat):Int)-((2^D:Nat):Int)) (k-s)/\0<=s/\s+g n<=65536
theorem EE.step {k:Int} {f g:Nat->Int} {D d n:Nat} {s:Int} (h:EE k f g D (d+1) n s):
    (0<=s/\s<=65536/\0<=s+g (2*n)/\s+g (2*n)<=65536)/\if decide (k-s<g (2*n))=true then EE k f g D d (2*n) s else EE k f g D d (2*n+1) (s+g (2*n)):=by
 obtain ⟨hg,⟨hs1,hs2⟩,he,h0,h1⟩:=h;have hst:=hg.Vw (((n*2^(d+1):Nat):Int)-((2^D:Nat):Int)) (k-s) hs1 hs2;obtain ⟨o1,o2,-⟩:=fM hg.own;obtain ⟨-,j,hl,hr⟩:=hg;obtain ⟨j1,-⟩:=lX j;obtain ⟨l1,l2,-⟩:=fM hl.own;obtain ⟨r1,r2,-⟩:=fM hr.own;refine ⟨⟨h0,by omega,by omega,by omega⟩,?_⟩;by_cases hk:k-s<g (2*n)
 . rw [if_pos hk] at hst;rw [if_pos (decide_eq_true hk)];refine ⟨hl,⟨hs1,hk⟩,?_,h0,by omega⟩;rw [he,hst,y_]
 . rw [if_neg hk] at hst;rw [if_neg (by simp [hk])];refine ⟨hr,by omega,?_,by omega,by omega⟩;rw [he,hst.2,Dz];congr 1
   . push_cast
     omega
   . omega
theorem EE.root {k:Int} {f g:Nat->Int} {D:Nat} (hg:Good f g D 1) (h0:0<=k) (h1:k<g 1):EE k f g D D 1 0:=by
 obtain ⟨o1,o2,-⟩:=fM hg.own;refine ⟨hg,by omega,?_,Int.le_refl _,by omega⟩;rw [Nat.one_mul,Int.sub_self,Int.sub_zero]
theorem EE.last {k:Int} {f g:Nat->Int} {D n F:Nat} {s:Int} (h:EE k f g D 0 n s) (hF:2^D=F):oh (nK f g D 1) 0 k=((n:Int)-F,k-s,0):=by
 obtain ⟨hg,hs,he,h0,h1⟩:=h;rw [he,nK,oh,if_pos hs.2,hF,Nat.pow_zero,Nat.mul_one]
theorem PE {c:aW} {a b:Nat} {p:Int×Int}:p ∈ b_ c a b↔∃j,(a<=j/\j<b/\bG c.ws j=true)/\(c.ks.getD j 0,c.vs.getD j 0)=p:=by
 unfold b_ eQ;rw [List.mem_map];constructor
 . rintro ⟨j,hj,rfl⟩;rw [List.mem_filter,List.mem_range'_1] at hj;exact ⟨j,⟨hj.1.1,by omega,hj.2⟩,rfl⟩
 . rintro ⟨j,⟨h1,h2,h3⟩,rfl⟩;exact ⟨j,List.mem_filter.2 ⟨List.mem_range'_1.2 ⟨h1,by omega⟩,h3⟩,rfl⟩
theorem AU.last {l:List (Int×Int)} (h:AU l) {p:Int×Int} (hp:p ∈ l):p.1<=(l.getD (l.length-1) (0,0)).1:=by
 obtain ⟨i,hi,rfl⟩:=List.getElem_of_mem hp;rw [List.getD_eq_getElem?_getD,List.getElem?_eq_getElem xo,Option.getD_some];by_cases e:i=l.length-1
 . subst e;exact Int.le_refl _
 . exact Int.le_of_lt (List.pairwise_iff_getElem.1 h i (l.length-1) hi xo xo)
theorem I7 {c:aW} {a b:Nat} {key:Int} (hr:AU (b_ c a b)):
    srv key (d_ (b_ c a b)).1 (d_ (b_ c a b)).2↔∃j,a<=j/\j<b/\bG c.ws j=true/\key<=c.ks.getD j 0:=by
 constructor
 . rintro ⟨h1,h2⟩;rw [fK] at h1;have hne:b_ c a b≠ []:=by intro e;rw [e] at h1;simp at h1
   rw [pX hne] at h2;obtain ⟨j,⟨j1,j2,j3⟩,e⟩:=PE.1 (Df hne);rw [<-e] at h2;exact ⟨j,j1,j2,j3,h2⟩
 . rintro ⟨j,j1,j2,j3,j4⟩;have hp:(c.ks.getD j 0,c.vs.getD j 0) ∈ b_ c a b:=PE.2 ⟨j,⟨j1,j2,j3⟩,rfl⟩;have hne:b_ c a b≠ []:=List.ne_nil_of_mem hp;refine ⟨?_,?_⟩
   . rw [fK];have:=List.length_pos_of_mem hp;omega
   . rw [pX hne];have:=hr.last hp;dsimp only at this;omega
theorem yT {c:aW} (h:kJ c=0):∃S D:Nat,c.ai=S/\4<=S/\S<=64/\c.cs.length=2^D/\D<=13/\c.ks.length=S*2^D/\S*2^D<=65536/\iE c=((D+1:Nat):Int)/\
    ∀k,k<2^D->fU (D+1) (gy c) (2^D+k)=(d_ (b_ c (k*S) ((k+1)*S))).1/\fU (D+1) (fZ c) (2^D+k)=(d_ (b_ c (k*S) ((k+1)*S))).2:=by
 obtain ⟨S,D,hS,hS2,h4,h64,hcs,hD,hk,hSM,hL,hlm,hlc,hv⟩:=qH h;refine ⟨S,D,hS,h4,h64,hcs,hD,hk,hSM,hL,fun k hk'=> ?_⟩;have hp:=Nat.two_pow_pos D;have hp2:2^(D+1)=2*2^D:=by rw [Nat.pow_succ];omega
 have uo:(2^D+k).log2=D:=(Nat.log2_eq_iff xo).2 ⟨by omega,by omega⟩;have u1:D_ D (2^D+k)=k:=by rw [D_,uo,Nat.sub_self,Nat.pow_zero];omega
 have u2:zK D (2^D+k)=k+1:=by rw [zK,u1,uo,Nat.sub_self,Nat.pow_zero]
 have:=hv (2^D+k) xo xo;rw [u1,u2] at this;exact this
theorem Ph {c:aW} (h:fE c=0) {S D k:Nat} (hk:c.ks.length=S*2^D) (hk':k<2^D):AU (b_ c (k*S) ((k+1)*S)):=by
 have hr:=oK h;have h1:(k+1)*S<=S*2^D:=by rw [Nat.mul_comm S];exact Nat.mul_le_mul_right _ hk'
 exact hr.b_ (Nat.mul_le_mul_right _ xo) xo
theorem NI {c:aW} (h:kJ c=0) {key:Int} {S D r q:Nat} (hS:4<=S) (hk:c.ks.length=S*2^D) (hr:r=xA c.ws c.ks c.ks.length key) (hq:q=r/S):
    (∀k,k<q->k<2^D->¬srv key (d_ (b_ c (k*S) ((k+1)*S))).1 (d_ (b_ c (k*S) ((k+1)*S))).2)/\
    (r<c.ks.length->q<2^D/\srv key (d_ (b_ c (q*S) ((q+1)*S))).1 (d_ (b_ c (q*S) ((q+1)*S))).2):=by
 have hs:=(sO h).1;have F:=qF c.ws c.ks c.ks.length key;rw [<-hr] at F;have hqr:q*S<=r:=by rw [hq];exact Nat.div_mul_le_self r S
 have hrq:r<(q+1)*S:=by rw [hq,Nat.mul_comm];exact Nat.lt_mul_div_succ r xo
 refine ⟨fun k hk1 hk2 hsv=> ?_,fun hrn=> ?_⟩
 . obtain ⟨j,j1,j2,j3,j4⟩:=(I7 (Ph hs hk hk2)).1 hsv;have:(k+1)*S<=q*S:=Nat.mul_le_mul_right _ hk1;have:=F.low j xo j3;omega
 . have hq2:q<2^D:=by
     apply Nat.lt_of_not_le;intro hle;have:2^D*S<=q*S:=Nat.mul_le_mul_right _ hle;rw [hk,Nat.mul_comm] at hrn;omega
   obtain ⟨f1,f2⟩:=F.hit hrn;exact ⟨hq2,(I7 (Ph hs hk hq2)).2 ⟨r,hqr,hrq,f1,f2⟩⟩
theorem JR {key:Int} {l:List (Int×Int)} {q:Nat} {p:Int×Int} (hq:l[q]? =some p) (hs:srv key p.1 p.2) (hn:∀(k:Nat) (x:Int×Int),k<q->l[k]? =some x->¬srv key x.1 x.2) (i s:Int):
    kE key l i s=(i+(q:Int),s+jV (l.take q),0):=by
 have hlt:q<l.length:=(List.getElem?_eq_some_iff.1 hq).1;have e:l=l.take q++(p::l.drop (q+1)):=by
  have h1:=List.take_append_drop q l;rw [List.drop_eq_getElem_cons hlt] at h1;rw [(List.getElem?_eq_some_iff.1 hq).2] at h1;exact h1.symm
 have hno:∀x ∈ l.take q,¬srv key x.1 x.2:=fun x hx=>by
  obtain ⟨k,hk,rfl⟩:=List.getElem_of_mem hx;rw [List.length_take] at hk;refine hn k _ xo ?_;rw [List.getElem_take,List.getElem?_eq_getElem]
 rw [show kE key l i s=kE key (l.take q++(p::l.drop (q+1))) i s by rw [<-e],t_ _ _ _ _ hno,kE,if_pos hs,List.length_take,Nat.min_eq_left xo]
theorem J9 {c:aW} {S F:Nat} {l:List (Int×Int)} (hl:∀k,k<F->∃m,l[k]? =some (m,((b_ c (k*S) ((k+1)*S)).length:Int))):∀q,q<=F->jV (l.take q)=(dD c.ws 0 (q*S):Nat):=by
 intro q;induction q with
 | zero=>intro _;simp [jV,dD]
 | succ q ih=>
  intro hq;obtain ⟨m,hm⟩:=hl q xo;have e:l.take (q+1)=l.take q++[(m,((b_ c (q*S) ((q+1)*S)).length:Int))]:=by rw [List.take_add_one,hm];rfl
  have hmul:q*S<=(q+1)*S:=Nat.mul_le_mul_right _ xo;rw [e,uV,ih xo,mr,<-cO,<-cO,<-gZ c (Nat.zero_le _) hmul,List.length_append];simp [jV]
theorem YY {c:aW} (h:kJ c=0) (key:Int):
    (xA c.ws c.ks c.ks.length key=c.ks.length->yY (iE c) (gy c) (fZ c) key=(0,0,6))/\
    (xA c.ws c.ks c.ks.length key<c.ks.length->yY (iE c) (gy c) (fZ c) key=(((xA c.ws c.ks c.ks.length key/c.ai.toNat:Nat):Int),((dD c.ws 0 (xA c.ws c.ks c.ks.length key/c.ai.toNat* c.ai.toNat):Nat):Int),0)):=by
 obtain ⟨S,D,hS,h4,h64,hcs,hD,hk,hSM,hL,hv⟩:=yT h;have hmay:=Ig h;have hS2:c.ai.toNat=S:=xo;have hls:wE (iE c) (gy c) (fZ c)=nK (fU (D+1) (gy c)) (fU (D+1) (fZ c)) D 1:=by rw [wE,hL,Int.toNat_natCast,Nat.add_sub_cancel]
 have hget:∀k,k<2^D->(wE (iE c) (gy c) (fZ c))[k]? =some (d_ (b_ c (k*S) ((k+1)*S))):=fun k hk'=>by
  have:=Bh (f:=fU (D+1) (gy c)) (g:=fU (D+1) (fZ c)) D 1 k hk';rw [<-hls,Nat.one_mul,(hv k hk').1,(hv k hk').2] at this;exact this
 have hlen:(wE (iE c) (gy c) (fZ c)).length=2^D:=by rw [hls,jF]
 have ea:yY (iE c) (gy c) (fZ c) key=kE key (wE (iE c) (gy c) (fZ c)) 0 0:=if_pos hmay;rw [ea,hS2];generalize wE (iE c) (gy c) (fZ c)=l at *;obtain ⟨l1,l2⟩:=NI h h4 hk (key:=key) rfl rfl;refine ⟨fun hr=> ?_,fun hr=> ?_⟩
 . have:=t_ (key:=key) l [] 0 0 (fun p hp hs=>by
     obtain ⟨k,hkl,rfl⟩:=List.getElem_of_mem hp;have hk2:k<2^D:=xo;have hg:=hget k hk2;rw [List.getElem?_eq_getElem hkl] at hg;have hg:=Option.some.inj hg;rw [hg] at hs;refine l1 k ?_ hk2 hs;rw [hr,hk,Nat.mul_div_cancel_left _ xo];exact hk2)
   rw [List.append_nil] at this;rw [this];rfl
 . obtain ⟨l3,l4⟩:=l2 hr;have hf:=JR (hget _ l3) l4 (fun k x hk1 hx hs=>by
    rw [hget k xo] at hx;cases hx;exact l1 k hk1 xo hs) 0 0
   rw [hf,J9 (c:=c) (S:=S) (F:=2^D) (fun k hk'=>⟨_,by rw [hget k hk',<-fK]⟩) _ xo];simp
theorem YB:∀(l:List (Int×Int)) (i k:Int),0<=k->oh l i k=(0,0,290) \/
    ∃(j:Nat) (m c:Int),l[j]? =some (m,c)/\oh l i k=(i+j,k-jV (l.take j),0)/\0<=k-jV (l.take j)/\k-jV (l.take j)<c:=by
 intro l;induction l with
 | nil=>intro i k h;exact .inl rfl
 | cons p r ih=>
  intro i k h;by_cases hp:k<p.2
  . refine .inr ⟨0,p.1,p.2,rfl,?_,?_,?_⟩
    . rw [oh,if_pos hp];simp [jV]
    . simpa [jV] using h
    . simpa [jV] using hp
  . rw [oh,if_neg hp];rcases ih (i+1) (k-p.2) xo with h1 | ⟨j,m,c,h1,h2,h3,h4⟩
    . exact .inl h1
    . have es:k-p.2-jV (r.take j)=k-jV ((p::r).take (j+1)):=by rw [List.take_succ_cons,mr];omega
      refine .inr ⟨j+1,m,c,by simpa using h1,?_,by omega,by omega⟩;rw [h2,es];congr 1
      push_cast
      omega
end
section
open Go.RowKit Go.Shelf
theorem MX {c:aW} (h:fE c=0):c.ks.length<=65536/\c.ws.length<=65536/\j_ c.ws c.ks.length=true:=by
 have hm:=nX h;have hh:=kL hm;obtain ⟨S,M,-,-,-,hnk,-,hw,-,hSM,-⟩:=dW hh;have hwm:j_ c.ws c.ks.length=true:=by
  unfold mV at hh;simp only [Bool.and_eq_true] at hh;exact hh.1.2
 refine ⟨by omega,?_,hwm⟩;simp only [j_,Bool.and_eq_true,decide_eq_true_eq] at hwm;omega
theorem Qg (c:aW) (a:jJ) (key:Int) (hs:fE c=0) (w:World) (hin:iy w c a) (hT:TabAt w):
    Calls Tryz.prog 55 #[jB c a,.int .i64 key] w (aC w (.int .i64 (xA c.ws c.ks c.ks.length key))):=by
 obtain ⟨h1,h2,h3⟩:=MX hs;have hmo:=vI hs;have SP:=hid (fun W (hW:Below w.heap.size w W) (b:Nat) (hb:W.cell? ⟨b,0,none⟩=some (.int .i64 key))=>split_ok c.ai c.laid key a.wa a.ka a.va a.ca a.wc a.kc a.vc a.cc c.ws.length c.vs.length c.cs.length c.ks.length c.ws c.ks h1 rfl b W (hin.below hW).k hb hmo
   (hid fun m W' hm hW'=>aad a.wa a.wc c.ws hin.u c.ks.length m h1 xo h3 hm W' ((hin.below hW).below hW').w ((hT.below hW).below hW')))
 obtain ⟨ai,ws,ks,vs,cs,laid⟩:=c;obtain ⟨wa,ka,va,ca,wc,kc,vc,cc⟩:=a;dsimp only [jB] at *;generalize xA ws ks ks.length key=R at *;clear hin hs h1 h2 h3 hmo hT;go_enter Tryz.func55,Tryz.ntmps55
 go_wp2_with fail
 refine (SP.out _ ((br.alloc (Nat.le_refl _) _).alloc ax _) (w.heap.size+1) iP).mono ?_;rintro e w2 ⟨rfl,hb2⟩;have hB2:Below w.heap.size w w2:=aj hb2 ((br.alloc (Nat.le_refl _) _).alloc ax _) (by simp;omega);go_wp2
 go_ret
 exact ⟨rfl,hB2⟩
def kC (c:aW) (key:Int):Int×Int:=if fE c=0 then (if xA c.ws c.ks c.ks.length key=c.ks.length then (0,6) else (xA c.ws c.ks c.ks.length key,0)) else (0,fE c)
theorem zQ (c:aW) (a:jJ) (key:Int) (hl:c.ws.length<=9223372036854775807) (hl2:c.ks.length<=1000000000000) (w:World) (hin:iy w c a) (hT:TabAt w):
    Calls Tryz.prog 56 #[jB c a,.int .i64 key] w (aC w (.tuple #[.int .i64 (kC c key).1,.int .i64 (kC c key).2])):=by
 have CK:=hid (fun W (hW:Below w.heap.size w W)=>mX c a hl hl2 W (hin.below hW));by_cases hs:fE c=0
 . have FR:=hid (fun W (hW:Below w.heap.size w W)=>Qg c a key hs W (hin.below hW) (hT.below hW));have hle:=(qF c.ws c.ks c.ks.length key).le;rw [hs] at CK;by_cases hr:xA c.ws c.ks c.ks.length key=c.ks.length
   . have e:kC c key=(0,6):=by rw [kC,if_pos hs,if_pos hr]
     rw [hr] at FR;rw [e];clear e hr hle;obtain ⟨ai,ws,ks,vs,cs,laid⟩:=c;obtain ⟨wa,ka,va,ca,wc,kc,vc,cc⟩:=a;dsimp only [jB] at *;have g1:((ks.length:Int)==ks.length)=true:=by simp
     clear hin hs hT hl hl2;go_enter Tryz.func56,Tryz.ntmps56
     go_wp2_with fail
     refine (CK.out _ aH).mono ?_;rintro e w1 ⟨rfl,hb1⟩;have aA:=hb1.size;try simp only [World.size_alloc,World.size_setCell] at aA
     have hh:=jl hb1 (jA (b:=w.heap.size) ax);obtain ⟨aO,aN,aK,aU,aT,aV⟩:=hh;have bF:=aP hb1 (bV (b:=w.heap.size) ax);have hB1:Below w.heap.size w w1:=aH;go_wp2_with fail
     refine (FR.out _ hB1).mono ?_;rintro e w2 ⟨rfl,hb2⟩;have fH:=hb2.size;simp (disch:=omega) only [jK hb2] at *;replace bF:=aP hb2 bF;have hB2:Below w.heap.size w w2:=aH;go_wp2
     go_ret2
     exact ⟨rfl,hB2⟩
   . have e:kC c key=(((xA c.ws c.ks c.ks.length key:Nat):Int),0):=by rw [kC,if_pos hs,if_neg hr]
     rw [e];clear e;generalize xA c.ws c.ks c.ks.length key=R at *;obtain ⟨ai,ws,ks,vs,cs,laid⟩:=c;obtain ⟨wa,ka,va,ca,wc,kc,vc,cc⟩:=a;dsimp only [jB] at *;have g1:((R:Int)==ks.length)=false:=by simp;omega
     clear hin hs hT hl hl2 hr hle;go_enter Tryz.func56,Tryz.ntmps56
     go_wp2_with fail
     refine (CK.out _ aH).mono ?_;rintro e w1 ⟨rfl,hb1⟩;have aA:=hb1.size;try simp only [World.size_alloc,World.size_setCell] at aA
     have hh:=jl hb1 (jA (b:=w.heap.size) ax);obtain ⟨aO,aN,aK,aU,aT,aV⟩:=hh;have bF:=aP hb1 (bV (b:=w.heap.size) ax);have hB1:Below w.heap.size w w1:=aH;go_wp2_with fail
     refine (FR.out _ hB1).mono ?_;rintro e w2 ⟨rfl,hb2⟩;have fH:=hb2.size;simp (disch:=omega) only [jK hb2] at *;replace bF:=aP hb2 bF;have hB2:Below w.heap.size w w2:=aH;go_wp2
     go_ret2
     exact ⟨rfl,hB2⟩
 . have e:kC c key=(0,fE c):=by rw [kC,if_neg hs]
   rw [e];have g1:(fE c != 0)=true:=by simpa using hs
   generalize fE c=E at *;obtain ⟨ai,ws,ks,vs,cs,laid⟩:=c;obtain ⟨wa,ka,va,ca,wc,kc,vc,cc⟩:=a;dsimp only [jB] at *;clear hin hs hT hl hl2 e;go_enter Tryz.func56,Tryz.ntmps56
   go_wp2_with fail
   refine (CK.out _ aH).mono ?_;rintro e w1 ⟨rfl,hb1⟩;have aA:=hb1.size;try simp only [World.size_alloc,World.size_setCell] at aA
   have hh:=jl hb1 (jA (b:=w.heap.size) ax);obtain ⟨aO,aN,aK,aU,aT,aV⟩:=hh;have bF:=aP hb1 (bV (b:=w.heap.size) ax);have hB1:Below w.heap.size w w1:=aH;go_wp2
   go_ret2
   exact ⟨rfl,hB1⟩
def oQ (c:aW) (key:Int):Int×Int:=if (kC c key).2=0 then (if c.ks.getD (kC c key).1.toNat 0=key then ((kC c key).1,0) else (0,6)) else (0,(kC c key).2)
theorem VB {c:aW} {key:Int} (h:(kC c key).2=0):∃r:Nat,(kC c key).1=r/\r<c.ks.length/\r=xA c.ws c.ks c.ks.length key/\fE c=0:=by
 unfold kC at h ⊢;by_cases hs:fE c=0
 . rw [if_pos hs] at h ⊢;split at h
   . cases h
   . rename_i hr
     rw [if_neg hr];have:=(qF c.ws c.ks c.ks.length key).le;exact ⟨_,rfl,by omega,rfl,hs⟩
 . rw [if_neg hs] at h;exact absurd h hs
theorem zS (c:aW) (a:jJ) (key:Int) (hl:c.ws.length<=9223372036854775807) (hl2:c.ks.length<=1000000000000) (w:World) (hin:iy w c a) (hT:TabAt w):
    Calls Tryz.prog 53 #[jB c a,.int .i64 key] w (aC w (.tuple #[.int .i64 (oQ c key).1,.int .i64 (oQ c key).2])):=by
 have NX:=hid (fun W (hW:Below w.heap.size w W)=>zQ c a key hl hl2 W (hin.below hW) (hT.below hW));by_cases h0:(kC c key).2=0
 . obtain ⟨r,e1,hr,-,-⟩:=VB h0;rw [e1,h0] at NX;obtain ⟨b,off,x,hka,hx,hc,hlt⟩:=hin.k.get (i:=r) hr;by_cases hk:x=key
   . have e:oQ c key=((r:Int),0):=by rw [oQ,if_pos h0,e1,Int.toNat_natCast,if_pos (hx.out.trans hk)]
     rw [e];obtain ⟨ai,ws,ks,vs,cs,laid⟩:=c;obtain ⟨wa,ka,va,ca,wc,kc,vc,cc⟩:=a;dsimp only [jB] at *;subst hka;have g1:(x != key)=false:=by simpa using hk
     clear hin hT hl hl2 e e1 h0 hx hk;go_enter Tryz.func53,Tryz.ntmps53
     go_wp2_with fail
     refine (NX.out _ aH).mono ?_;rintro e w1 ⟨rfl,hb1⟩;have aA:=hb1.size;try simp only [World.size_alloc,World.size_setCell] at aA
     have hh:=jl hb1 (jA (b:=w.heap.size) ax);obtain ⟨aO,aN,aK,aU,aT,aV⟩:=hh;have bF:=aP hb1 (bV (b:=w.heap.size) ax);have hB1:Below w.heap.size w w1:=aH;replace hc:=(hB1.cell (World.block_lt_of_cell? _ _ hc)).trans hc;go_wp2
     go_ret2
     exact ⟨rfl,hB1⟩
   . have e:oQ c key=(0,6):=by rw [oQ,if_pos h0,e1,Int.toNat_natCast,if_neg (fun h=>hk (hx.out.symm.trans h))]
     rw [e];obtain ⟨ai,ws,ks,vs,cs,laid⟩:=c;obtain ⟨wa,ka,va,ca,wc,kc,vc,cc⟩:=a;dsimp only [jB] at *;subst hka;have g1:(x != key)=true:=by simpa using hk
     clear hin hT hl hl2 e e1 h0 hx hk;go_enter Tryz.func53,Tryz.ntmps53
     go_wp2_with fail
     refine (NX.out _ aH).mono ?_;rintro e w1 ⟨rfl,hb1⟩;have aA:=hb1.size;try simp only [World.size_alloc,World.size_setCell] at aA
     have hh:=jl hb1 (jA (b:=w.heap.size) ax);obtain ⟨aO,aN,aK,aU,aT,aV⟩:=hh;have bF:=aP hb1 (bV (b:=w.heap.size) ax);have hB1:Below w.heap.size w w1:=aH;replace hc:=(hB1.cell (World.block_lt_of_cell? _ _ hc)).trans hc;go_wp2
     go_ret2
     exact ⟨rfl,hB1⟩
 . have e:oQ c key=(0,(kC c key).2):=by rw [oQ,if_neg h0]
   rw [e];have g1:((kC c key).2 != 0)=true:=by simpa using h0
   generalize kC c key=R at *;obtain ⟨ai,ws,ks,vs,cs,laid⟩:=c;obtain ⟨wa,ka,va,ca,wc,kc,vc,cc⟩:=a;dsimp only [jB] at *;clear hin hT hl hl2 e h0;go_enter Tryz.func53,Tryz.ntmps53
   go_wp2_with fail
   refine (NX.out _ aH).mono ?_;rintro e w1 ⟨rfl,hb1⟩;have aA:=hb1.size;try simp only [World.size_alloc,World.size_setCell] at aA
   have hh:=jl hb1 (jA (b:=w.heap.size) ax);obtain ⟨aO,aN,aK,aU,aT,aV⟩:=hh;have bF:=aP hb1 (bV (b:=w.heap.size) ax);have hB1:Below w.heap.size w w1:=aH;go_wp2
   go_ret2
   exact ⟨rfl,hB1⟩
end
section
open Go.RowKit
abbrev um (L:Int) (ma:Option Addr) (m mc:Nat) (ca:Option Addr) (c cc:Nat):Value:= .agg #[.int .i64 L,.slice ma m mc,.slice ca c cc]
theorem NM:(Tryz.prog.info? 2).map (fun i=>(i.zero,i.size,i.bytes))=some (some (.int .i64 0),1,8):=by kernel_rfl
def Iz (w:World) (L:Int) (ms cs:List Int) (e:Ending) (w':World):Prop:=
  ∃v u,e= .returned (.agg #[.int .i64 L,v,u])/\w'.ownsRow w.heap.size 2 1 v ms.length (ms.map (Value.int .i64))/\w'.ownsRow w.heap.size 3 1 u cs.length (cs.map (Value.int .i64))/\Below w.heap.size w w'
def Ans (w:World) (v:Value) (e:Ending) (w':World):Prop:=e= .returned v/\Below w.heap.size w w'
abbrev O8 (m c:Int):Value:= .agg #[.int .i64 m,.int .i64 c]
theorem Lj (am ac bm bc:Int) (h1:0<=ac) (h2:ac<=65536) (h3:0<=bc) (h4:bc<=65536) (w:World):
    Calls Tryz.prog 84 #[O8 am ac,O8 bm bc] w (Ans w (O8 (TG am bm bc) (OH ac bc))):=by
 by_cases h:0<bc
 . have e1:TG am bm bc=bm:=if_pos h;have e2:OH ac bc=ac+bc:=if_pos h;rw [e1,e2];clear e1 e2;go_enter Tryz.func84,Tryz.ntmps84
   go_wp2
   refine bodyPost_ret (iO rfl rfl (iM Tryz.underlying138 rfl xk (v:= .int .i64 bm) (u:= .int .i64 (ac+bc)) dC dC)) rfl ⟨rfl,by (exact aH)⟩
 . have e1:TG am bm bc=am:=if_neg h;have e2:OH ac bc=ac:=if_neg h;rw [e1,e2];clear e1 e2;go_enter Tryz.func84,Tryz.ntmps84
   go_wp2
   refine bodyPost_ret (iO rfl rfl (iM Tryz.underlying138 rfl xk (v:= .int .i64 am) (u:= .int .i64 ac) dC dC)) rfl ⟨rfl,by (exact aH)⟩
def yX (L:Int) (ms cs:List Int) (L':Int) (ms' cs':List Int):Bool:=decide (L=L')&&decide (ms=ms')&&decide (cs=cs')
theorem Jr {c:aW} {S M:Nat} (hm:fV c=true) (hS:c.ai=S) (hk:c.ks.length=S*M) {k:Nat} (h:k<M):
    iR c ((k*S:Nat):Int) (((k+1)*S:Nat):Int)=0/\Gv c ((k*S:Nat):Int) (((k+1)*S:Nat):Int)=b_ c (k*S) ((k+1)*S):=by
 have h1:(k+1)*S<=S*M:=by rw [Nat.mul_comm S];exact Nat.mul_le_mul_right _ xo
 have h2:k*S<=(k+1)*S:=Nat.mul_le_mul_right _ xo;have e:iR c ((k*S:Nat):Int) (((k+1)*S:Nat):Int)=0:=by rw [iR,if_pos hm,if_pos xo]
 refine ⟨e,?_⟩;rw [Gv,if_pos e,Int.toNat_natCast,Int.toNat_natCast]
theorem YL (c:aW) (a:jJ) (hm:fV c=true) (hM:c.cs.length<=8192) (k:Nat) (hk:k<c.cs.length) (w:World) (hin:iy w c a):
    Calls Tryz.prog 83 #[jB c a,.int .i64 k] w (aC w (O8 (oN c k).1 (oN c k).2)):=by
 obtain ⟨S,D,M,hS,hS2,hS4,Eh,hcm,-,-,-,hSM,hks,-,hws,hwl⟩:=sN hm hM;obtain ⟨e1,e2⟩:=Jr hm hS hks (k:=k) xo;have PR:=hid (fun W (hb:Below w.heap.size w W)=>sW c a xo xo ((k*S:Nat):Int) (((k+1)*S:Nat):Int) W (hin.below hb));rw [e1,e2] at PR;have hlf:oN c k=if b_ c (k*S) ((k+1)*S)=[] then (0,0) else (((b_ c (k*S) ((k+1)*S)).getD ((b_ c (k*S) ((k+1)*S)).length-1) (0,0)).1,(((b_ c (k*S) ((k+1)*S)).length:Nat):Int)):=by unfold oN;rw [hS2]
 have hlen:(b_ c (k*S) ((k+1)*S)).length<=64:=by
  rw [cO];have:=oH c.ws (k*S) ((k+1)*S);have e:(k+1)*S=k*S+S:=by rw [Nat.add_mul,Nat.one_mul]
  omega
 have hk1:(k:Int)*(S:Int)=((k*S:Nat):Int):=by push_cast;rfl
 have hk2:((k:Int)+1)*(S:Int)=(((k+1)*S:Nat):Int):=by push_cast;rfl
 have ad4:k*S<=65536:=by
  have:k*S<=M*S:=Nat.mul_le_mul_right _ xo;rw [Nat.mul_comm M] at this;omega
 have hkb2:(k+1)*S<=65536:=by
  have:(k+1)*S<=M*S:=Nat.mul_le_mul_right _ xo;rw [Nat.mul_comm M] at this;omega
 obtain ⟨V,hV⟩:∃V,oN c k=V:=⟨_,rfl⟩
 rw [hV] at hlf ⊢;generalize b_ c (k*S) ((k+1)*S)=L at *;generalize k*S=p1 at *;generalize (k+1)*S=p2 at *;obtain ⟨ai,ws,ks,vs,cs,laid⟩:=c;obtain ⟨wa,ka,va,ca,wc,kc,vc,cc⟩:=a;dsimp only [jB] at *;subst hS;have hkb:k<=8192:=xo;clear hin hm hM hks hws hwl e1 e2 hV hcm hk hSM hS2;cases L with
 | nil=>
  rw [if_pos rfl] at hlf;subst hlf;go_enter Tryz.func83,Tryz.ntmps83
  go_wp2_with fail
  refine (PR.out _ aH).mono ?_;rintro e w1 ⟨vl,rfl,hol,hb1⟩;have aA:=hb1.size;try simp only [World.size_alloc,World.size_setCell] at aA
  have hh:=jl hb1 (jI (jA (b:=w.heap.size) ax));obtain ⟨aO,aN,aK,aU,aT,aV⟩:=hh;have bF:=aP hb1 (dB (bV (b:=w.heap.size) ax));have hh:=bc2 hb1 (TF (b:=w.heap.size+1) ax);obtain ⟨a_,aZ⟩:=hh;have hh:=bf2 hb1 (bV (b:=w.heap.size+1) ax) (ZV (b:=w.heap.size+1) ax);obtain ⟨bQ,bP⟩:=hh;have bW:=aP hb1 (bV (b:=w.heap.size+1) ax);have hB1:Below w.heap.size w w1:=aH;obtain ⟨la,lc,hvl,-⟩:=aG hol;replace hvl:vl= .slice la 0 lc:=hvl;subst hvl;clear hol;go_wp2
  exact bodyPost_ret (iO rfl rfl (iM Tryz.underlying138 rfl xk (v:= .int .i64 0) (u:= .int .i64 0) ((World.cell?_setCell_other _ _ _ _ ax).trans (World.cell?_setCell_same _ _ _ a_)) (World.cell?_setCell_same _ _ _ ((World.cell?_setCell_other _ _ _ _ ax).trans aZ)))) rfl ⟨rfl,by (exact aH)⟩
 | cons p r=>
  rw [if_neg ax] at hlf;obtain ⟨m,hmm⟩:∃m,(p::r).length=m+1:=⟨r.length,rfl⟩
  rw [hmm,Nat.add_sub_cancel] at hlf;have HMM:=hid hmm;go_enter Tryz.func83,Tryz.ntmps83
  go_wp2_with fail
  refine (PR.out _ aH).mono ?_;rintro e w1 ⟨vl,rfl,hol,hb1⟩;have aA:=hb1.size;try simp only [World.size_alloc,World.size_setCell] at aA
  have hh:=jl hb1 (jI (jA (b:=w.heap.size) ax));obtain ⟨aO,aN,aK,aU,aT,aV⟩:=hh;have bF:=aP hb1 (dB (bV (b:=w.heap.size) ax));have hh:=bc2 hb1 (TF (b:=w.heap.size+1) ax);obtain ⟨a_,aZ⟩:=hh;have hh:=bf2 hb1 (bV (b:=w.heap.size+1) ax) (ZV (b:=w.heap.size+1) ax);obtain ⟨bQ,bP⟩:=hh;have bW:=aP hb1 (bV (b:=w.heap.size+1) ax);have hB1:Below w.heap.size w w1:=aH;obtain ⟨la,lc,hvl,hil,-,-,-,-⟩:=ak hol;rw [HMM.out] at hvl;subst hvl;obtain ⟨bl,ol,rfl,c0,-,zl⟩:=wY hil (i:=m) (by rw [hmm];omega);rw [HMM.out] at hlen;generalize ((p::r).getD m (0,0)).1=x at *;have hx0:((m:Int)+1==0)=false:=by simp;omega
  subst hlf;clear hol hil;go_wp2
  exact bodyPost_ret (iO rfl rfl (iM Tryz.underlying138 rfl xk (v:= .int .i64 x) (u:= .int .i64 ((m:Int)+1)) ((World.cell?_setCell_other _ _ _ _ ax).trans (World.cell?_setCell_same _ _ _ a_)) (World.cell?_setCell_same _ _ _ ((World.cell?_setCell_other _ _ _ _ ax).trans aZ)))) rfl ⟨by push_cast;rfl,by (exact aH)⟩
end
section
open Go.RowKit Go.Shelf
attribute [local go_sem] Oper.semAt_some
end
section
open Go.RowKit
end
end Go.Proofs.YtbedhbpgnfffmaaGreatDoor

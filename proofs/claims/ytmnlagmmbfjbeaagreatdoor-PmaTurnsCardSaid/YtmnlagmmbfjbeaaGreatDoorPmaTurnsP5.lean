/- Merged: May04, Seek, IdxTree, IdxTwin, IdxFns, IdxLeaf, HeapFirst, Tree18, VebRef, VebLaid, VebTab, IdxNodes, IdxRead, IdxAll, Ref10, Built18, SlFns, Spoil09, Conf, Spoil11, Spoil9K, Spoil11K. -/
import Derived.Test.YtmnlagmmbfjbeaaGreatDoorPmaTurnsP4
import Derived.Test.YtmnlagmmbfjbeaaGreatDoorPmaTurnsP1
import Derived.Test.YtmnlagmmbfjbeaaGreatDoorPmaTurnsP2
namespace Go.Proofs.YtmnlagmmbfjbeaaGreatDoor
set_option maxRecDepth 100000
set_option maxHeartbeats 40000000
set_option linter.unusedVariables false
set_option linter.unusedSimpArgs false
section
open Go.RowKit
def Fact.len {T:TypeId} (n:Nat):Fact T:=⟨fun v _=>∃a c,v= .slice a n c,fun _ _ _ _ h=>h⟩
theorem slMay_in (c:SlC) (a:SlA) (hh:slHead c=true) (w:World) (hin:SlIn w c a):
    Calls Tryz.prog 62 #[slV c a] w (AnsB w (.bool (slMay c))):=by
 obtain ⟨S,M,hS,hS4,hS64,hnk,hnv,hnc,hM1,hSM,hM2,hnw,-,-,-⟩:=slHead_facts hh;have he:=slMay_eq c hh;simp only [slHead,Bool.and_eq_true,decide_eq_true_eq] at hh;obtain ⟨⟨⟨hf,-⟩,hwm⟩,-⟩:=hh;rw [hnk] at hf hwm;obtain ⟨R,hR⟩:∃R,slMay c=R:=⟨_,rfl⟩
 have hR2:R=((List.range c.ks.length).all (clrAt c.ws c.ks c.vs)&&(List.range c.cs.length).all (cntAt c.seg c.ws c.cs)):=by rw [←hR,he]
 rw [hR];clear he hR;obtain ⟨seg,ws,ks,vs,cs,laid⟩:=c;obtain ⟨wa,ka,va,ca,wc,kc,vc,cc⟩:=a;obtain ⟨hw,hk,hv,hcn,hu⟩:=hin;dsimp only at *;subst hS;have HW:=hid hw;have HK:=hid hk;have HV:=hid hv;have HN:=hid hcn;have HU:=hid hu;obtain ⟨n,hn⟩:∃n,S*M=n:=⟨_,rfl⟩
 rw [hn] at hnk hnv hnw hf hwm hSM;have HLW:=hid hnw;have F1:=hid (fun w=>Fits04_ok S n w);rw [hf] at F1;have O1:=hid (fun w hw=>May02_ok wa wc ws hu n hSM xo w hw);have IS:=hid (fun i hi hi2 w hw=>Is02_ok wa wc ws hu i hi hi2 w hw);have C1:=hid (fun p1 p2 h1 h2 h3 w hw=>Places02_ok wa wc ws hu p1 p2 h1 h2 h3 w hw);rw [hwm] at O1;have hqI:(n:Int)/(S:Int)=(M:Int):=by rw [←hn];push_cast;exact Int.mul_ediv_cancel_left _ xo
 have hqM:((M:Int) != wrap64 ((n:Int)/(S:Int)))=false:=by rw [hqI,IntWalk.wrap64_in _ xo];simp
 have htd:(n:Int).tdiv S=(n:Int)/S:=Int.tdiv_eq_ediv_of_nonneg xo;have hS0:((S:Int)==0)=false:=by simp;omega
 have HRR:=hid hR2;have HKL:=hid hnk;have HVL:=hid hnv;have HCL:=hid hnc;have HNM:=hid hn;obtain ⟨lw,hlw⟩:∃lw,ws.length=lw:=⟨_,rfl⟩
 dsimp only [slV];rw [hnk,hnv,hnc,hlw];rw [hlw] at O1 C1 IS;have HLL:=hid hlw;clear hw hk hv hcn hu hf hwm hR2 hnk hnv hnc hnw hlw hqI hn;go_enter Tryz.func62,Tryz.ntmps62
 go_wp2
 have d0:(w.alloc (.cells #[.int .i64 (S:Int),.slice wa lw wc,.slice ka n kc,.slice va n vc,.slice ca M cc,.int .u64 laid] 29)).cell? ⟨w.heap.size,0,none⟩=some (.int .i64 (S:Int)):=xcw;have d1:(w.alloc (.cells #[.int .i64 (S:Int),.slice wa lw wc,.slice ka n kc,.slice va n vc,.slice ca M cc,.int .u64 laid] 29)).cell? ⟨w.heap.size,1,none⟩=some (.slice wa lw wc):=xcw;have d2:(w.alloc (.cells #[.int .i64 (S:Int),.slice wa lw wc,.slice ka n kc,.slice va n vc,.slice ca M cc,.int .u64 laid] 29)).cell? ⟨w.heap.size,2,none⟩=some (.slice ka n kc):=xcw;have d3:(w.alloc (.cells #[.int .i64 (S:Int),.slice wa lw wc,.slice ka n kc,.slice va n vc,.slice ca M cc,.int .u64 laid] 29)).cell? ⟨w.heap.size,3,none⟩=some (.slice va n vc):=xcw;have d4:(w.alloc (.cells #[.int .i64 (S:Int),.slice wa lw wc,.slice ka n kc,.slice va n vc,.slice ca M cc,.int .u64 laid] 29)).cell? ⟨w.heap.size,4,none⟩=some (.slice ca M cc):=xcw;have HB0:Hid (Below w.heap.size w (w.alloc (.cells #[.int .i64 (S:Int),.slice wa lw wc,.slice ka n kc,.slice va n vc,.slice ca M cc,.int .u64 laid] 29))):=hid (br.alloc (Nat.le_refl _) _);have hz0:w.heap.size<(w.alloc (.cells #[.int .i64 (S:Int),.slice wa lw wc,.slice ka n kc,.slice va n vc,.slice ca M cc,.int .u64 laid] 29)).heap.size:=by simp
 generalize (w.alloc (.cells #[.int .i64 (S:Int),.slice wa lw wc,.slice ka n kc,.slice va n vc,.slice ca M cc,.int .u64 laid] 29))=w1 at *;have Q1:=hid (fun q=>Calls.quiet_of_same ((F1.out (w1.drewN q)).mono fun _ _ h=>⟨h.1,h.2.symm⟩));have Q2:=hid (fun q=>Calls.quiet_of_same ((O1.out (w1.drewN q) (HW.out.below (below_drewN HB0.out q))).mono fun _ _ h=>⟨h.1,h.2.symm⟩));go_quiet (first|exact Q1.out _|exact Q2.out _)
 have HB1:=hid (below_drewN HB0.out nq);replace d0:(w1.drewN nq).cell? ⟨w.heap.size,0,none⟩=some (.int .i64 (S:Int)):=d0;replace d1:(w1.drewN nq).cell? ⟨w.heap.size,1,none⟩=some (.slice wa lw wc):=d1;replace d2:(w1.drewN nq).cell? ⟨w.heap.size,2,none⟩=some (.slice ka n kc):=d2;replace d3:(w1.drewN nq).cell? ⟨w.heap.size,3,none⟩=some (.slice va n vc):=d3;replace d4:(w1.drewN nq).cell? ⟨w.heap.size,4,none⟩=some (.slice ca M cc):=d4;replace hz0:w.heap.size<(w1.drewN nq).heap.size:=by simpa using hz0
 generalize w1.drewN nq=w2 at *;clear Q1 Q2 HB0;go_wp2
 go_loopg [4] n (fun gk iv wr=>∃i:Nat,i+gk=n∧iv= .int .i64 i∧wr=w2∧Hid (∀j,j<i→clrAt ws ks vs j=true))
 case atStart=>exact ⟨0,by omega,rfl,rfl,hid (fun j h=>by omega)⟩
 case round=>
  obtain ⟨i,hi,rfl,rfl,HA⟩:=hrel;by_cases hlt:i<n
  · have hw64:i/64<lw:=by have:=HLL.out;have:=HLW.out;omega
    have B:=hid (IS.out i hw64 xo wr (HW.out.below HB1.out));obtain ⟨bk,ok,kx,rfl,hkx,ck,-⟩:=(HK.out.below HB1.out).get (i:=i) (by rw [HKL.out];exact hlt);obtain ⟨bv,ov,vx,rfl,hvx,cv,-⟩:=(HV.out.below HB1.out).get (i:=i) (by rw [HVL.out];exact hlt);have hclr:clrAt ws ks vs i=(bitW ws i||(kx==0&&vx==0)):=by unfold clrAt;rw [hkx.out,hvx.out]
    generalize bitW ws i=bt at *;clear hkx hvx;cases bt with
    | true=>
     have HC:=hid hclr;clear hclr;go_wp2_with (go_at_call 111;refine B.out.mono ?_;rintro e w' ⟨rfl,rfl⟩)
     go_roundg (gk-1)
     case measure=>omega
     case rel=>
      refine ⟨i+1,by omega,by go_num,rfl,hid (fun j hj=> ?_)⟩;by_cases e:j=i
      · rw [e,HC.out];rfl
      · exact HA.out j xo
    | false=>
     by_cases hk0:kx=0
     · by_cases hv0:vx=0
       · subst hk0 hv0;have HC:=hid hclr;clear hclr;go_wp2_with (go_at_call 111;refine B.out.mono ?_;rintro e w' ⟨rfl,rfl⟩)
         go_roundg (gk-1)
         case measure=>omega
         case rel=>
          refine ⟨i+1,by omega,by go_num,rfl,hid (fun j hj=> ?_)⟩;by_cases e:j=i
          · rw [e,HC.out];rfl
          · exact HA.out j xo
       · subst hk0;have hv1:(vx != 0)=true:=by simpa using hv0
         have hR8:R=false:=by rw [HRR.out,HKL.out,all_not hlt (by rw [hclr];simp [hv0]),Bool.false_and]
         subst hR8;clear hclr;go_wp2_with (go_at_call 111;refine B.out.mono ?_;rintro e w' ⟨rfl,rfl⟩)
         go_ret
         exact ⟨rfl,HB1.out⟩
     · have hk1:(kx != 0)=true:=by simpa using hk0
       have hR8:R=false:=by rw [HRR.out,HKL.out,all_not hlt (by rw [hclr];simp [hk0]),Bool.false_and]
       subst hR8;clear hclr;go_wp2_with (go_at_call 111;refine B.out.mono ?_;rintro e w' ⟨rfl,rfl⟩)
       go_ret
       exact ⟨rfl,HB1.out⟩
  · have hin:n=i:=xo;subst hin;have HAL:=hid (all_upto.2 (fun j (hj:j<n)=>HA.out j xo));clear HA;go_wp2
    go_loopg [5] M (fun gk iv wr=>∃k:Nat,k+gk=M∧iv= .int .i64 k∧wr.cell? ⟨w.heap.size,0,none⟩=some (.int .i64 (S:Int))∧wr.cell? ⟨w.heap.size,1,none⟩=some (.slice wa lw wc)∧wr.cell? ⟨w.heap.size,4,none⟩=some (.slice ca M cc)∧Hid (Below w.heap.size w wr)∧w.heap.size<wr.heap.size∧Hid (∀j,j<k→cntAt S ws cs j=true))
    case atStart=>exact ⟨0,by omega,rfl,d0,d1,d4,HB1,hz0,hid (fun j h=>by omega)⟩
    case round=>
     obtain ⟨k,hk,rfl,cE0,cE1,cE4,HB,hz,HA2⟩:=hrel;by_cases hlt2:k<M
     · obtain ⟨bn,on,y,rfl,hy,cy,zbn⟩:=(HN.out.below HB.out).get (i:=k) (by rw [HCL.out];exact hlt2);have hca:cntAt S ws cs k=(y==(cntW ws (k*S) ((k+1)*S):Int)):=by unfold cntAt;rw [hy.out,Int.toNat_natCast]
       have hk1:(k:Int)*(S:Int)=((k*S:Nat):Int):=by push_cast;rfl
       have hk2:((k:Int)+1)*(S:Int)=(((k+1)*S:Nat):Int):=by push_cast;rfl
       have hkb1:k*S≤n:=by rw [←HNM.out,Nat.mul_comm S];exact Nat.mul_le_mul_right _ xo
       have hkb2:(k+1)*S≤n:=by rw [←HNM.out,Nat.mul_comm S];exact Nat.mul_le_mul_right _ xo
       have hzl:(ints (plsW ws (k*S) ((k+1)*S))).length=cntW ws (k*S) ((k+1)*S):=by rw [ints_length,plsW_length]
       have HPP:=hid (fun w' (hb:Below wr.heap.size wr w')=>C1.out (k*S) ((k+1)*S) (by have:=HLL.out;have:=HLW.out;omega) xo xo w' (HW.out.below (below_via hb HB.out xo)));generalize cntW ws (k*S) ((k+1)*S)=z at *;generalize k*S=p1 at *;generalize (k+1)*S=p2 at *;have hw1:IntKind.i64.wrap ((k:Int)+1)=(k:Int)+1:=IntWalk.i64_in _ xo;have hw2:IntKind.i64.wrap (p1:Int)=(p1:Int):=IntWalk.i64_in _ xo;have hw3:IntKind.i64.wrap (p2:Int)=(p2:Int):=IntWalk.i64_in _ xo;have HZL:=hid hzl;have HCA:=hid hca;have HK2:=hid hk;clear hy hzl hca hk;go_wp2
       refine wp_region_facts 19 xk (N:=90) rfl xk xk xdd (fun w'=>Below wr.heap.size wr w') (Ext 29) (factAt [
         .is (.pointer (some ⟨w.heap.size,4,none⟩)),.is (.slice (some ⟨bn,on,none⟩) M cc),.is (.int .i64 k),.is (.pointer (some ⟨bn,on+k,none⟩)),.is (.int .i64 y),.is (.pointer (some ⟨w.heap.size,1,none⟩)),.is (.slice wa lw wc),.is (.int .i64 k),.is (.pointer (some ⟨w.heap.size,0,none⟩)),.is (.int .i64 S),.is (.int .i64 p1),.is (.int .i64 k),.is (.int .i64 ((k:Int)+1)),.is (.pointer (some ⟨w.heap.size,0,none⟩)),.is (.int .i64 S),.is (.int .i64 p2),.len z,.is (.int .i64 z),.is (.bool ((y:Int) != (z:Int)))]) (factAt_stays _) br.drew ?steps ?fin
       case steps=>
        refine ⟨?o0,?o1,?o2,?o3,?o4,?o5,?o6,?o7,?o8,?o9,?o10,?o11,?o12,?o13,?o14,?o15,?o16,?o17,?o18,trivial⟩
        case o0=>
         intro u a w' ev hJ hd K hK;have e1:tg a 1= .pointer (some ⟨w.heap.size,0,none⟩):=ev 1 xdd;have HK:=hid hK;clear hK ev hd;go_simp;exact HK.out _ _ xzc hJ rfl (Ext.refl _ _)
        case o1=>
         intro u a w' ev hJ hd K hK;have e71:tg a 71= .pointer (some ⟨w.heap.size,4,none⟩):=(ev 71 xdd).trans (hd 0 _ xk rfl);have g0:=xjc hJ cE4;have HK:=hid hK;clear hK ev hd;go_simp;exact HK.out _ _ xzc hJ rfl (Ext.refl _ _)
        case o2=>
         intro u a w' ev hJ hd K hK;have e5:tg a 5= .int .i64 k:=ev 5 xdd;have HK:=hid hK;clear hK ev hd;go_simp;exact HK.out _ _ xzc hJ rfl (Ext.refl _ _)
        case o3=>
         intro u a w' ev hJ hd K hK;have e72:tg a 72= .slice (some ⟨bn,on,none⟩) M cc:=(ev 72 xdd).trans (hd 1 _ xk rfl);have e73:tg a 73= .int .i64 k:=(ev 73 xdd).trans (hd 2 _ xk rfl);have HK:=hid hK;clear hK ev hd;go_simp;exact HK.out _ _ xzc hJ rfl (Ext.refl _ _)
        case o4=>
         intro u a w' ev hJ hd K hK;have e74:tg a 74= .pointer (some ⟨bn,on+k,none⟩):=(ev 74 xdd).trans (hd 3 _ xk rfl);have g0:=xjc hJ cy;have HK:=hid hK;clear hK ev hd;go_simp;exact HK.out _ _ xzc hJ rfl (Ext.refl _ _)
        case o5=>
         intro u a w' ev hJ hd K hK;have e1:tg a 1= .pointer (some ⟨w.heap.size,0,none⟩):=ev 1 xdd;have HK:=hid hK;clear hK ev hd;go_simp;exact HK.out _ _ xzc hJ rfl (Ext.refl _ _)
        case o6=>
         intro u a w' ev hJ hd K hK;have e76:tg a 76= .pointer (some ⟨w.heap.size,1,none⟩):=(ev 76 xdd).trans (hd 5 _ xk rfl);have g0:=xjc hJ cE1;have HK:=hid hK;clear hK ev hd;go_simp;exact HK.out _ _ xzc hJ rfl (Ext.refl _ _)
        case o7=>
         intro u a w' ev hJ hd K hK;have e5:tg a 5= .int .i64 k:=ev 5 xdd;have HK:=hid hK;clear hK ev hd;go_simp;exact HK.out _ _ xzc hJ rfl (Ext.refl _ _)
        case o8=>
         intro u a w' ev hJ hd K hK;have e1:tg a 1= .pointer (some ⟨w.heap.size,0,none⟩):=ev 1 xdd;have HK:=hid hK;clear hK ev hd;go_simp;exact HK.out _ _ xzc hJ rfl (Ext.refl _ _)
        case o9=>
         intro u a w' ev hJ hd K hK;have e79:tg a 79= .pointer (some ⟨w.heap.size,0,none⟩):=(ev 79 xdd).trans (hd 8 _ xk rfl);have g0:=xjc hJ cE0;have HK:=hid hK;clear hK ev hd;go_simp;exact HK.out _ _ xzc hJ rfl (Ext.refl _ _)
        case o10=>
         intro u a w' ev hJ hd K hK;have e78:tg a 78= .int .i64 k:=(ev 78 xdd).trans (hd 7 _ xk rfl);have e80:tg a 80= .int .i64 S:=(ev 80 xdd).trans (hd 9 _ xk rfl);have HK:=hid hK;clear hK ev hd;go_simp;exact HK.out _ _ xzc hJ rfl (Ext.refl _ _)
        case o11=>
         intro u a w' ev hJ hd K hK;have e5:tg a 5= .int .i64 k:=ev 5 xdd;have HK:=hid hK;clear hK ev hd;go_simp;exact HK.out _ _ xzc hJ rfl (Ext.refl _ _)
        case o12=>
         intro u a w' ev hJ hd K hK;have e82:tg a 82= .int .i64 k:=(ev 82 xdd).trans (hd 11 _ xk rfl);have HK:=hid hK;clear hK ev hd;go_simp;exact HK.out _ _ xzc hJ rfl (Ext.refl _ _)
        case o13=>
         intro u a w' ev hJ hd K hK;have e1:tg a 1= .pointer (some ⟨w.heap.size,0,none⟩):=ev 1 xdd;have HK:=hid hK;clear hK ev hd;go_simp;exact HK.out _ _ xzc hJ rfl (Ext.refl _ _)
        case o14=>
         intro u a w' ev hJ hd K hK;have e84:tg a 84= .pointer (some ⟨w.heap.size,0,none⟩):=(ev 84 xdd).trans (hd 13 _ xk rfl);have g0:=xjc hJ cE0;have HK:=hid hK;clear hK ev hd;go_simp;exact HK.out _ _ xzc hJ rfl (Ext.refl _ _)
        case o15=>
         intro u a w' ev hJ hd K hK;have e83:tg a 83= .int .i64 ((k:Int)+1):=(ev 83 xdd).trans (hd 12 _ xk rfl);have e85:tg a 85= .int .i64 S:=(ev 85 xdd).trans (hd 14 _ xk rfl);have HK:=hid hK;clear hK ev hd;go_simp;exact HK.out _ _ xzc hJ rfl (Ext.refl _ _)
        case o16=>
         intro u a w' ev hJ hd K hK;have e1':a.tmps.getD 77 undef= .slice wa lw wc:=(ev 77 xdd).trans (hd 6 _ xk rfl);have e2':a.tmps.getD 81 undef= .int .i64 p1:=(ev 81 xdd).trans (hd 10 _ xk rfl);have e3':a.tmps.getD 86 undef= .int .i64 p2:=(ev 86 xdd).trans (hd 15 _ xk rfl);have HK:=hid hK;have HPL:=hid (HPP.out w' hJ);have hzJ:=hJ.size;clear hK ev hd;go_simp;refine HPL.out.mono ?_;rintro e w'' ⟨v,rfl,ho,hb⟩;obtain ⟨ao,co,rfl,-⟩:=owns_news ho;rw [HZL.out];exact HK.out _ _ xzc (hJ.trans (hb.mono hzJ)) ⟨_,_,rfl⟩ (Ext.below hb)
        case o17=>
         intro u a w' ev hJ hd K hK;obtain ⟨ao,co,h1⟩:(Fact.len (T:=29) z).holds (u 87) w':=hd 16 _ xk rfl;have e1':a.tmps.getD 87 undef= .slice ao z co:=(ev 87 xdd).trans h1;have HK:=hid hK;clear hK ev hd h1;go_simp;exact HK.out _ _ xzc hJ rfl (Ext.refl _ _)
        case o18=>
         intro u a w' ev hJ hd K hK;have e75:tg a 75= .int .i64 y:=(ev 75 xdd).trans (hd 4 _ xk rfl);have e88:tg a 88= .int .i64 z:=(ev 88 xdd).trans (hd 17 _ xk rfl);have HK:=hid hK;clear hK ev hd;go_simp;exact HK.out _ _ xzc hJ rfl (Ext.refl _ _)
       case fin=>
        intro u w3 hJ hG;have h1:u 89= .bool ((y:Int) != (z:Int)):=hG 18 _ rfl;have f0:=(hJ.cell (p:=⟨w.heap.size,0,none⟩) hz).trans cE0;have f1:=(hJ.cell (p:=⟨w.heap.size,1,none⟩) hz).trans cE1;have f4:=(hJ.cell (p:=⟨w.heap.size,4,none⟩) hz).trans cE4;have HB3:=hid (below_via hJ HB.out xo);have hz3:w.heap.size<w3.heap.size:=by have:=hJ.size;omega
        clear hG cE0 cE1 cE4 hJ;simp only [mixFrame,mixL,dstsOf,List.take_succ_cons,List.take_zero,List.filterMap_cons,List.filterMap_nil,List.contains_cons,List.contains_nil,Nat.reduceBEq,Bool.or_false,Bool.false_or,Bool.or_true,Bool.true_or,if_true,if_false,Bool.false_eq_true,Nat.reduceAdd,Nat.zero_add,List.drop_succ_cons,List.drop_zero,h1];by_cases hyz:y=(z:Int)
        · subst hyz;have hne:((z:Int) != (z:Int))=false:=by simp
          go_wp2
          go_roundg (gk-1)
          case measure=>have:=HK2.out;omega
          case rel=>
           refine ⟨k+1,by have:=HK2.out;omega,by go_num,f0,f1,f4,HB3,hz3,hid (fun j hj=> ?_)⟩;by_cases e:j=k
           · rw [e,HCA.out];simp
           · exact HA2.out j xo
        · have hne:(y != (z:Int))=true:=by simpa using hyz
          have hR8:R=false:=by rw [HRR.out,HCL.out,all_not (p:=cntAt S ws cs) hlt2 (by rw [HCA.out];simpa using hyz),Bool.and_false]
          subst hR8;go_wp2
          go_ret
          exact ⟨rfl,HB3.out⟩
     · have hR0:R=true:=by
         rw [HRR.out,HKL.out,HCL.out,HAL.out,all_upto.2 (fun j (hj:j<M)=>HA2.out j xo)];rfl
       subst hR0;go_wp2
       go_ret
       exact ⟨rfl,HB.out⟩
theorem slMay_bad (c:SlC) (a:SlA) (hh:slHead c=false) (hl:c.ws.length≤1000000000000) (hl2:c.ks.length≤1000000000000) (w:World) (hin:SlIn w c a):
    Calls Tryz.prog 62 #[slV c a] w (AnsB w (.bool (slMay c))):=by
 have he:slMay c=false:=by rw [slMay,hh];rfl
 rw [he];clear he;obtain ⟨seg,ws,ks,vs,cs,laid⟩:=c;obtain ⟨wa,ka,va,ca,wc,kc,vc,cc⟩:=a;obtain ⟨hw,-,-,-,hu⟩:=hin;dsimp only at *;dsimp only [slV];simp only [slHead] at hh;have HW:=hid hw;have F1:=hid (fun w=>Fits04_ok seg ks.length w);cases hf:fitB seg ks.length with
 | false=>
  rw [hf] at F1;clear hh hf;generalize ws.length=lw at *;generalize ks.length=n at *;generalize vs.length=lv at *;generalize cs.length=lc at *;clear hw hu;go_enter Tryz.func62,Tryz.ntmps62
  go_wp2
  have d0:(w.alloc (.cells #[.int .i64 seg,.slice wa lw wc,.slice ka n kc,.slice va lv vc,.slice ca lc cc,.int .u64 laid] 29)).cell? ⟨w.heap.size,0,none⟩=some (.int .i64 seg):=xcw;have d1:(w.alloc (.cells #[.int .i64 seg,.slice wa lw wc,.slice ka n kc,.slice va lv vc,.slice ca lc cc,.int .u64 laid] 29)).cell? ⟨w.heap.size,1,none⟩=some (.slice wa lw wc):=xcw;have d3:(w.alloc (.cells #[.int .i64 seg,.slice wa lw wc,.slice ka n kc,.slice va lv vc,.slice ca lc cc,.int .u64 laid] 29)).cell? ⟨w.heap.size,3,none⟩=some (.slice va lv vc):=xcw;have d4:(w.alloc (.cells #[.int .i64 seg,.slice wa lw wc,.slice ka n kc,.slice va lv vc,.slice ca lc cc,.int .u64 laid] 29)).cell? ⟨w.heap.size,4,none⟩=some (.slice ca lc cc):=xcw;have HB0:Hid (Below w.heap.size w (w.alloc (.cells #[.int .i64 seg,.slice wa lw wc,.slice ka n kc,.slice va lv vc,.slice ca lc cc,.int .u64 laid] 29))):=hid (br.alloc (Nat.le_refl _) _);generalize (w.alloc (.cells #[.int .i64 seg,.slice wa lw wc,.slice ka n kc,.slice va lv vc,.slice ca lc cc,.int .u64 laid] 29))=w1 at *;have Q1:=hid (fun q=>Calls.quiet_of_same ((F1.out (w1.drewN q)).mono fun _ _ h=>⟨h.1,h.2.symm⟩));go_quiet (exact Q1.out _)
  go_wp2
  go_ret
  exact ⟨rfl,below_drewN HB0.out _⟩
 | true=>
  rw [hf] at F1 hh;obtain ⟨f1,f2,-,f4,f5,f6,-⟩:=fitB_facts hf;have O1:=hid (fun w hw=>May02_ok wa wc ws hu ks.length xo hl w hw);clear hf;by_cases c2:vs.length=ks.length
  · have hv1:((vs.length:Int) != (ks.length:Int))=false:=by simp [c2]
    rw [decide_eq_true c2,Bool.true_and,Bool.true_and] at hh;cases hwm:wMayB ws ks.length with
    | true=>
     rw [hwm,Bool.true_and,decide_eq_false_iff_not] at hh;rw [hwm] at O1;have hd0:0≤(ks.length:Int)/seg:=Int.ediv_nonneg xo xo;have hd1:(ks.length:Int)/seg≤ks.length:=Int.ediv_le_self _ xo;have hqM:((cs.length:Int) != wrap64 ((ks.length:Int)/seg))=true:=by
      rw [IntWalk.wrap64_in _ xo];simpa using hh
     have htd:(ks.length:Int).tdiv seg=(ks.length:Int)/seg:=Int.tdiv_eq_ediv_of_nonneg xo;have hS0:(seg==0)=false:=by simp;omega
     clear hh hwm hd0 hd1 c2;generalize ws.length=lw at *;generalize ks.length=n at *;generalize vs.length=lv at *;generalize cs.length=lc at *;clear hw hu;go_enter Tryz.func62,Tryz.ntmps62
     go_wp2
     have d0:(w.alloc (.cells #[.int .i64 seg,.slice wa lw wc,.slice ka n kc,.slice va lv vc,.slice ca lc cc,.int .u64 laid] 29)).cell? ⟨w.heap.size,0,none⟩=some (.int .i64 seg):=xcw;have d1:(w.alloc (.cells #[.int .i64 seg,.slice wa lw wc,.slice ka n kc,.slice va lv vc,.slice ca lc cc,.int .u64 laid] 29)).cell? ⟨w.heap.size,1,none⟩=some (.slice wa lw wc):=xcw;have d3:(w.alloc (.cells #[.int .i64 seg,.slice wa lw wc,.slice ka n kc,.slice va lv vc,.slice ca lc cc,.int .u64 laid] 29)).cell? ⟨w.heap.size,3,none⟩=some (.slice va lv vc):=xcw;have d4:(w.alloc (.cells #[.int .i64 seg,.slice wa lw wc,.slice ka n kc,.slice va lv vc,.slice ca lc cc,.int .u64 laid] 29)).cell? ⟨w.heap.size,4,none⟩=some (.slice ca lc cc):=xcw;have HB0:Hid (Below w.heap.size w (w.alloc (.cells #[.int .i64 seg,.slice wa lw wc,.slice ka n kc,.slice va lv vc,.slice ca lc cc,.int .u64 laid] 29))):=hid (br.alloc (Nat.le_refl _) _);generalize (w.alloc (.cells #[.int .i64 seg,.slice wa lw wc,.slice ka n kc,.slice va lv vc,.slice ca lc cc,.int .u64 laid] 29))=w1 at *;have Q1:=hid (fun q=>Calls.quiet_of_same ((F1.out (w1.drewN q)).mono fun _ _ h=>⟨h.1,h.2.symm⟩));have Q2:=hid (fun q=>Calls.quiet_of_same ((O1.out (w1.drewN q) (HW.out.below (below_drewN HB0.out q))).mono fun _ _ h=>⟨h.1,h.2.symm⟩));go_quiet (first|exact Q1.out _|exact Q2.out _)
     go_wp2
     go_ret
     exact ⟨rfl,below_drewN HB0.out _⟩
    | false=>
     rw [hwm] at O1;clear hh hwm c2;generalize ws.length=lw at *;generalize ks.length=n at *;generalize vs.length=lv at *;generalize cs.length=lc at *;clear hw hu;go_enter Tryz.func62,Tryz.ntmps62
     go_wp2
     have d0:(w.alloc (.cells #[.int .i64 seg,.slice wa lw wc,.slice ka n kc,.slice va lv vc,.slice ca lc cc,.int .u64 laid] 29)).cell? ⟨w.heap.size,0,none⟩=some (.int .i64 seg):=xcw;have d1:(w.alloc (.cells #[.int .i64 seg,.slice wa lw wc,.slice ka n kc,.slice va lv vc,.slice ca lc cc,.int .u64 laid] 29)).cell? ⟨w.heap.size,1,none⟩=some (.slice wa lw wc):=xcw;have d3:(w.alloc (.cells #[.int .i64 seg,.slice wa lw wc,.slice ka n kc,.slice va lv vc,.slice ca lc cc,.int .u64 laid] 29)).cell? ⟨w.heap.size,3,none⟩=some (.slice va lv vc):=xcw;have d4:(w.alloc (.cells #[.int .i64 seg,.slice wa lw wc,.slice ka n kc,.slice va lv vc,.slice ca lc cc,.int .u64 laid] 29)).cell? ⟨w.heap.size,4,none⟩=some (.slice ca lc cc):=xcw;have HB0:Hid (Below w.heap.size w (w.alloc (.cells #[.int .i64 seg,.slice wa lw wc,.slice ka n kc,.slice va lv vc,.slice ca lc cc,.int .u64 laid] 29))):=hid (br.alloc (Nat.le_refl _) _);generalize (w.alloc (.cells #[.int .i64 seg,.slice wa lw wc,.slice ka n kc,.slice va lv vc,.slice ca lc cc,.int .u64 laid] 29))=w1 at *;have Q1:=hid (fun q=>Calls.quiet_of_same ((F1.out (w1.drewN q)).mono fun _ _ h=>⟨h.1,h.2.symm⟩));have Q2:=hid (fun q=>Calls.quiet_of_same ((O1.out (w1.drewN q) (HW.out.below (below_drewN HB0.out q))).mono fun _ _ h=>⟨h.1,h.2.symm⟩));go_quiet (first|exact Q1.out _|exact Q2.out _)
     go_wp2
     go_ret
     exact ⟨rfl,below_drewN HB0.out _⟩
  · have hv1:((vs.length:Int) != (ks.length:Int))=true:=by simp;omega
    clear hh c2;generalize ws.length=lw at *;generalize ks.length=n at *;generalize vs.length=lv at *;generalize cs.length=lc at *;clear hw hu;go_enter Tryz.func62,Tryz.ntmps62
    go_wp2
    have d0:(w.alloc (.cells #[.int .i64 seg,.slice wa lw wc,.slice ka n kc,.slice va lv vc,.slice ca lc cc,.int .u64 laid] 29)).cell? ⟨w.heap.size,0,none⟩=some (.int .i64 seg):=xcw;have d1:(w.alloc (.cells #[.int .i64 seg,.slice wa lw wc,.slice ka n kc,.slice va lv vc,.slice ca lc cc,.int .u64 laid] 29)).cell? ⟨w.heap.size,1,none⟩=some (.slice wa lw wc):=xcw;have d3:(w.alloc (.cells #[.int .i64 seg,.slice wa lw wc,.slice ka n kc,.slice va lv vc,.slice ca lc cc,.int .u64 laid] 29)).cell? ⟨w.heap.size,3,none⟩=some (.slice va lv vc):=xcw;have d4:(w.alloc (.cells #[.int .i64 seg,.slice wa lw wc,.slice ka n kc,.slice va lv vc,.slice ca lc cc,.int .u64 laid] 29)).cell? ⟨w.heap.size,4,none⟩=some (.slice ca lc cc):=xcw;have HB0:Hid (Below w.heap.size w (w.alloc (.cells #[.int .i64 seg,.slice wa lw wc,.slice ka n kc,.slice va lv vc,.slice ca lc cc,.int .u64 laid] 29))):=hid (br.alloc (Nat.le_refl _) _);generalize (w.alloc (.cells #[.int .i64 seg,.slice wa lw wc,.slice ka n kc,.slice va lv vc,.slice ca lc cc,.int .u64 laid] 29))=w1 at *;have Q1:=hid (fun q=>Calls.quiet_of_same ((F1.out (w1.drewN q)).mono fun _ _ h=>⟨h.1,h.2.symm⟩));go_quiet (exact Q1.out _)
    go_wp2
    go_ret
    exact ⟨rfl,below_drewN HB0.out _⟩
theorem May04_ok (c:SlC) (a:SlA) (hl:c.ws.length≤1000000000000) (hl2:c.ks.length≤1000000000000) (w:World) (hin:SlIn w c a):
    Calls Tryz.prog 62 #[slV c a] w (AnsB w (.bool (slMay c))):=by
 cases hh:slHead c with
 | true=>exact slMay_in c a hh w hin
 | false=>exact slMay_bad c a hh hl hl2 w hin
end
section
open Go.RowKit
def risAt (l:List (Int×Int)) (i:Nat):Bool:=i==0||decide ((l.getD (i-1) (0,0)).1<(l.getD i (0,0)).1)
def risB (l:List (Int×Int)):Bool:=(List.range l.length).all (risAt l)
def seekE (c:SlC):Int:=if slMay c=true then (if risB (prs c 0 c.ks.length)=true then 0 else 130) else 8
theorem pr_get {l:List (Int×Int)} {W:World} {a:Option Addr} (h:IsRow .i64 W a (prI l)) {i:Nat} (hi:i<l.length):
    ∃b off,a=some ⟨b,off,none⟩∧W.cell? ⟨b,off+i*2,none⟩=some (.int .i64 (l.getD i (0,0)).1)∧W.cell? ⟨b,off+i*2+1,none⟩=some (.int .i64 (l.getD i (0,0)).2)∧b<W.heap.size:=by
 obtain ⟨g1,g2⟩:=prI_get hi;obtain ⟨b,off,x,y,e,hx,hy,c1,c2,hb⟩:=h.get2 (i:=i) (by rw [prI_length];omega);rw [←hx.out,g1] at c1;rw [←hy.out,g2] at c2;exact ⟨b,off,e,c1,c2,hb⟩
theorem seekCheck_ok (c:SlC) (a:SlA) (hl:c.ws.length≤1000000000000) (hl2:c.ks.length≤1000000000000) (w:World) (hin:SlIn w c a):
    Calls Tryz.prog 33 #[slV c a] w (AnsB w (.int .i64 (seekE c))):=by
 have PR:=hid (fun W (hb:Below w.heap.size w W)=>Pairs_ok c a hl hl2 0 c.ks.length W (hin.below hb));by_cases hm:slMay c=true
 · have he :partE c 0 c.ks.length=0:=by rw [partE,if_pos hm,if_pos xo]
   have hr:prsR c 0 c.ks.length=prs c 0 c.ks.length:=if_pos he;have hv:seekE c=if risB (prs c 0 c.ks.length)=true then 0 else 130:=if_pos hm
   rw [he,hr] at PR;have hlen:(prs c 0 c.ks.length).length≤65536:=by
    obtain ⟨S,M,-,-,-,hnk,-,-,-,hSM,-⟩:=slHead_facts (slMay_head hm);rw [prs_length];have:=cntW_le c.ws 0 c.ks.length;omega
   obtain ⟨R,hR⟩:∃R,seekE c=R:=⟨_,rfl⟩
   have HR:=hid (hR.symm.trans hv);rw [hR];generalize prs c 0 c.ks.length=L at *;obtain ⟨seg,ws,ks,vs,cs,laid⟩:=c;obtain ⟨wa,ka,va,ca,wc,kc,vc,cc⟩:=a;dsimp only [slV] at *;clear hin hm he hr hv hR hl hl2;go_enter Tryz.func33,Tryz.ntmps33
   go_wp2_with fail
   refine (PR.out _ (br.alloc (Nat.le_refl _) _)).mono ?_;rintro e w1 ⟨vl,rfl,hol,hb1⟩;have hz_w1:=hb1.size;try simp only [World.size_alloc,World.size_setCell] at hz_w1
   have c_t0:w1.cell? ⟨w.heap.size,0,none⟩=some (.int .i64 seg):=xjt hb1 xlt xcn;have c_t1:w1.cell? ⟨w.heap.size,1,none⟩=some (.slice wa ws.length wc):=xjt hb1 xlt xcn;have c_t2:w1.cell? ⟨w.heap.size,2,none⟩=some (.slice ka ks.length kc):=xjt hb1 xlt xcn;have c_t3:w1.cell? ⟨w.heap.size,3,none⟩=some (.slice va vs.length vc):=xjt hb1 xlt xcn;have c_t4:w1.cell? ⟨w.heap.size,4,none⟩=some (.slice ca cs.length cc):=xjt hb1 xlt xcn;have c_t5:w1.cell? ⟨w.heap.size,5,none⟩=some (.int .u64 laid):=xjt hb1 xlt xcn;have z_t:w.heap.size<w1.heap.size:=xo;have hB1:Below w.heap.size w w1:=xbel;obtain ⟨la,lc,rfl,hil,-,-,-,-⟩:=row_of_owns hol;have HRL:=hid hil;have HB1:=hid hB1;obtain ⟨m,hmm⟩:∃m,L.length=m:=⟨_,rfl⟩
   rw [hmm] at hlen ⊢;have HML:=hid hmm;clear hb1 hB1 hol hil hmm;go_wp2
   go_loopg [20] m (fun gk iv wr=>∃k:Nat,k+gk=m∧iv= .int .i64 k∧Hid (Below w.heap.size w wr)∧Hid (Below w1.heap.size w1 wr)∧Hid (∀j,j<k→risAt L j=true))
   case atStart=>exact ⟨0,by omega,rfl,HB1,hid br,hid (fun j h=>by omega)⟩
   case round=>
    obtain ⟨k,hk,rfl,HB,HBL,HA⟩:=hrel;have hz:=HB.out.size;by_cases hlt:k<m
    · obtain ⟨bl,ol,rfl,c0,c1,zl⟩:=pr_get (HRL.out.below HBL.out) (i:=k) (by rw [HML.out];exact hlt);have hra:risAt L k=(k==0||decide ((L.getD (k-1) (0,0)).1<(L.getD k (0,0)).1)):=rfl;have HK2:=hid hk;have hz1:=HBL.out.size;by_cases hk0:k=0
      · subst hk0;generalize (L.getD 0 (0,0)).1=x at *;generalize (L.getD 0 (0,0)).2=y at *;have HRA:=hid hra;have g0:decide ((0:Int)>0)=false:=rfl;simp only [Nat.zero_mul,Nat.add_zero] at c0 c1;clear hra;go_wp2
        have p0:(wr.alloc (.cells #[.int .i64 x,.int .i64 y] 79)).cell? ⟨wr.heap.size,0,none⟩=some (.int .i64 x):=xcw;go_quiet (fail)
        go_wp2
        go_roundg (gk-1)
        case measure=>have:=HK2.out;omega
        case rel=>
         refine ⟨1,by have:=HK2.out;omega,rfl,hid (below_drewN (HB.out.alloc hz _) _),hid (below_drewN (HBL.out.alloc hz1 _) _),hid (fun j hj=> ?_)⟩;rw [show j=0 by omega];rfl
      · obtain ⟨q,rfl⟩:∃q,k=q+1:=⟨k-1,by omega⟩
        obtain ⟨bl',ol',hbe,e0,e1,-⟩:=pr_get (HRL.out.below HBL.out) (i:=q) (by rw [HML.out];omega);cases hbe;rw [Nat.add_sub_cancel] at hra;generalize (L.getD (q+1) (0,0)).1=x at *;generalize (L.getD (q+1) (0,0)).2=y at *;generalize (L.getD q (0,0)).1=z at *;have g0:decide ((q:Int)+1>0)=true:=by simp<;>omega
        have hqI:((q+1:Nat):Int)=(q:Int)+1:=xo;by_cases hxz:z<x
        · have HRA:=hid hra;have g1:decide (x≤z)=false:=by simp;omega
          clear hra;go_wp2
          have p0:(wr.alloc (.cells #[.int .i64 x,.int .i64 y] 79)).cell? ⟨wr.heap.size,0,none⟩=some (.int .i64 x):=xcw;replace e0:=(((Below.refl _ wr).alloc (Nat.le_refl _) (.cells #[.int .i64 x,.int .i64 y] 79)).cell (World.block_lt_of_cell? _ _ e0)).trans e0;go_quiet (fail)
          go_wp2
          go_roundg (gk-1)
          case measure=>have:=HK2.out;omega
          case rel=>
           refine ⟨q+2,by have:=HK2.out;omega,by go_num,hid (below_drewN (HB.out.alloc hz _) _),hid (below_drewN (HBL.out.alloc hz1 _) _),hid (fun j hj=> ?_)⟩;by_cases e:j=q+1
           · rw [e,HRA.out];simp [hxz]
           · exact HA.out j xo
        · have hR:R=130:=by
            rw [HR.out,if_neg];intro h;have:=all_upto.1 h (q+1) (by rw [HML.out];exact hlt);rw [hra] at this;simp [hxz] at this
          subst hR;have g1:decide (x≤z)=true:=by simp;omega
          clear hra;go_wp2
          have p0:(wr.alloc (.cells #[.int .i64 x,.int .i64 y] 79)).cell? ⟨wr.heap.size,0,none⟩=some (.int .i64 x):=xcw;replace e0:=(((Below.refl _ wr).alloc (Nat.le_refl _) (.cells #[.int .i64 x,.int .i64 y] 79)).cell (World.block_lt_of_cell? _ _ e0)).trans e0;go_quiet (fail)
          go_wp2
          go_ret
          exact ⟨rfl,below_drewN (HB.out.alloc hz _) _⟩
    · have hR:R=0:=by
        rw [HR.out,if_pos (show risB L=true from all_upto.2 (fun j hj=>HA.out j (by have:=HML.out;omega)))]
      subst hR;go_wp2
      go_ret
      exact ⟨rfl,HB.out⟩
 · have he:partE c 0 c.ks.length=8:=if_neg hm;have hv:seekE c=8:=if_neg hm;rw [he] at PR;rw [hv];obtain ⟨seg,ws,ks,vs,cs,laid⟩:=c;obtain ⟨wa,ka,va,ca,wc,kc,vc,cc⟩:=a;dsimp only [slV] at *;clear hin hm he hv hl hl2;go_enter Tryz.func33,Tryz.ntmps33
   go_wp2_with fail
   refine (PR.out _ (br.alloc (Nat.le_refl _) _)).mono ?_;rintro e w1 ⟨vl,rfl,hol,hb1⟩;have hz_w1:=hb1.size;try simp only [World.size_alloc,World.size_setCell] at hz_w1
   have hB1:Below w.heap.size w w1:=xbel;go_wp2
   go_ret
   exact ⟨rfl,hB1⟩
end
section
open Go.RowKit
theorem seekE_may {c:SlC} (h:seekE c=0):slMay c=true:=by
 unfold seekE at h;split at h
 · assumption
 · cases h
end
section
open Go.RowKit
end
section
open Go.RowKit
end
section
open Go.RowKit
end
section
open Go.RowKit
end
section
open Go.RowKit Go.Shelf
attribute [local go_sem] Oper.semAt_some
end
section
open Go.RowKit
end
section
open Go.RowKit
end
section
open Go.RowKit
end
section
open Go.RowKit
end
section
open Go.RowKit
end
section
open Go.RowKit
end
section
open Go.RowKit
theorem Rising_ok (la:Option Addr) (lc:Nat) (L:List (Int×Int)) (hl:L.length≤100000) (w:World) (hr:IsRow .i64 w la (prI L)):
    Calls Tryz.prog 63 #[.slice la L.length lc] w (AnsB w (.bool (risB L))):=by
 obtain ⟨R,hR⟩:∃R,risB L=R:=⟨_,rfl⟩
 have HR:=hid hR;rw [hR];have HRL:=hid hr;obtain ⟨m,hm⟩:∃m,L.length=m:=⟨_,rfl⟩
 rw [hm] at hl ⊢;have HML:=hid hm;clear hr hR hm;go_enter Tryz.func63,Tryz.ntmps63
 go_wp2
 go_loopg [3] m (fun gk iv wr=>∃k:Nat,k+gk=m∧iv= .int .i64 ((k:Int)+1)∧Hid (Below w.heap.size w wr)∧Hid (∀j,j<k+1→risAt L j=true))
 case atStart=>exact ⟨0,by omega,rfl,hid br,hid (fun j h=>by rw [show j=0 by omega];rfl)⟩
 case round=>
  obtain ⟨k,hk,rfl,HB,HA⟩:=hrel;by_cases hlt:k+1<m
  · obtain ⟨bl,ol,rfl,c0,-,zl⟩:=pr_get (HRL.out.below HB.out) (i:=k+1) (by rw [HML.out];exact hlt);obtain ⟨bl',ol',hbe,e0,-,-⟩:=pr_get (HRL.out.below HB.out) (i:=k) (by rw [HML.out];omega);cases hbe;have hra:risAt L (k+1)=(k+1==0||decide ((L.getD k (0,0)).1<(L.getD (k+1) (0,0)).1)):=rfl;generalize (L.getD (k+1) (0,0)).1=x at *;generalize (L.getD k (0,0)).1=z at *;have h1:((k:Int)+1).toNat=k+1:=xo;have HK2:=hid hk;clear hk;by_cases hxz:z<x
    · have HRA:=hid hra;have g1:decide (x≤z)=false:=by simp;omega
      clear hra;go_wp2
      go_quiet (fail)
      go_wp2
      go_roundg (gk-1)
      case measure=>have:=HK2.out;omega
      case rel=>
       refine ⟨k+1,by have:=HK2.out;omega,by go_num,hid (below_drewN HB.out _),hid (fun j hj=> ?_)⟩;by_cases e:j=k+1
       · rw [e,HRA.out];simp [hxz]
       · exact HA.out j xo
    · have hRf:R=false:=by
        rw [←HR.out];exact all_not (i:=k+1) (by rw [HML.out];exact hlt) (by rw [hra];simp [hxz])
      subst hRf;have g1:decide (x≤z)=true:=by simp;omega
      clear hra;go_wp2
      go_quiet (fail)
      go_wp2
      go_ret
      exact ⟨rfl,below_drewN HB.out _⟩
  · have hRt:R=true:=by
      rw [←HR.out];exact all_upto.2 fun j hj=>HA.out j (by have:=HML.out;omega)
    subst hRt;go_wp2
    go_ret
    exact ⟨rfl,HB.out⟩
theorem Check10_ok (c:SlC) (a:SlA) (hl:c.ws.length≤1000000000000) (hl2:c.ks.length≤1000000000000) (w:World) (hin:SlIn w c a):
    Calls Tryz.prog 35 #[slV c a] w (AnsB w (.int .i64 (seekE c))):=by
 have MY:=hid (fun W (hb:Below w.heap.size w W)=>May04_ok c a hl hl2 W (hin.below hb));by_cases hm:slMay c=true
 · have hv:seekE c=if risB (prs c 0 c.ks.length)=true then 0 else 130:=if_pos hm
   rw [hm] at MY;obtain ⟨S,M,-,-,-,hnk,hnv,-,-,hSM,-,hnw,-⟩:=slHead_facts (slMay_head hm);have OF:=hid (fun W (hb:Below w.heap.size w W)=>Of04_ok c a 0 c.ks.length xo xo xo xo xo W (hin.below hb));have hlen:(prs c 0 c.ks.length).length≤65536:=by
    rw [prs_length];have:=cntW_le c.ws 0 c.ks.length;omega
   rw [hv];generalize prs c 0 c.ks.length=L at *;have RI:=hid (fun la lc W hr=>Rising_ok la lc L xo W hr);generalize risB L=b at *;obtain ⟨m,hmm⟩:∃m,L.length=m:=⟨_,rfl⟩
   rw [hmm] at RI;have HML:=hid hmm;obtain ⟨seg,ws,ks,vs,cs,laid⟩:=c;obtain ⟨wa,ka,va,ca,wc,kc,vc,cc⟩:=a;dsimp only [slV] at *;clear hin hm hv hl hl2 hnk hnv hnw hmm;cases b with
   | true=>
    rw [if_pos rfl];go_enter Tryz.func35,Tryz.ntmps35
    go_wp2_with fail
    refine (MY.out _ (br.alloc (Nat.le_refl _) _)).mono ?_;rintro e w1 ⟨rfl,hb1⟩;have hz_w1:=hb1.size;try simp only [World.size_alloc,World.size_setCell] at hz_w1
    have hh:=bc6 hb1 (al6 (b:=w.heap.size) xsi);obtain ⟨c_t0,c_t1,c_t2,c_t3,c_t4,c_t5⟩:=hh;have z_t:=blt hb1 (alz (b:=w.heap.size) xsi);have hB1:Below w.heap.size w w1:=xbel;go_wp2_with fail
    refine (OF.out _ hB1).mono ?_;rintro e w2 ⟨vl,rfl,hol,hb2⟩;have hz_w2:=hb2.size;simp (disch:=omega) only [xcl hb2] at *;replace z_t:=blt hb2 z_t;have hB2:Below w.heap.size w w2:=xbel;obtain ⟨la,lc,rfl,hil,-,-,-,-⟩:=row_of_owns hol;rw [HML.out];go_wp2_with fail
    refine (RI.out la lc _ hil).mono ?_;rintro e w3 ⟨rfl,hb3⟩;go_wp2
    go_ret
    exact ⟨rfl,by (exact xbel)⟩
   | false=>
    rw [if_neg xdd];go_enter Tryz.func35,Tryz.ntmps35
    go_wp2_with fail
    refine (MY.out _ (br.alloc (Nat.le_refl _) _)).mono ?_;rintro e w1 ⟨rfl,hb1⟩;have hz_w1:=hb1.size;try simp only [World.size_alloc,World.size_setCell] at hz_w1
    have hh:=bc6 hb1 (al6 (b:=w.heap.size) xsi);obtain ⟨c_t0,c_t1,c_t2,c_t3,c_t4,c_t5⟩:=hh;have z_t:=blt hb1 (alz (b:=w.heap.size) xsi);have hB1:Below w.heap.size w w1:=xbel;go_wp2_with fail
    refine (OF.out _ hB1).mono ?_;rintro e w2 ⟨vl,rfl,hol,hb2⟩;have hz_w2:=hb2.size;simp (disch:=omega) only [xcl hb2] at *;replace z_t:=blt hb2 z_t;have hB2:Below w.heap.size w w2:=xbel;obtain ⟨la,lc,rfl,hil,-,-,-,-⟩:=row_of_owns hol;rw [HML.out];go_wp2_with fail
    refine (RI.out la lc _ hil).mono ?_;rintro e w3 ⟨rfl,hb3⟩;go_wp2
    go_ret
    exact ⟨rfl,by (exact xbel)⟩
 · have hv:seekE c=8:=if_neg hm;have hm':slMay c=false:=by simpa using hm
   rw [hm'] at MY;rw [hv];obtain ⟨seg,ws,ks,vs,cs,laid⟩:=c;obtain ⟨wa,ka,va,ca,wc,kc,vc,cc⟩:=a;dsimp only [slV] at *;clear hin hm hv hl hl2 hm';go_enter Tryz.func35,Tryz.ntmps35
   go_wp2_with fail
   refine (MY.out _ (br.alloc (Nat.le_refl _) _)).mono ?_;rintro e w1 ⟨rfl,hb1⟩;have hz_w1:=hb1.size;try simp only [World.size_alloc,World.size_setCell] at hz_w1
   have hB1:Below w.heap.size w w1:=xbel;go_wp2
   go_ret
   exact ⟨rfl,hB1⟩
end
section
open Go.RowKit Go.Shelf
attribute [local go_sem] Oper.semAt_some
def Fact.full {T:TypeId} (base:Nat) (e:TypeId) (he:e≠T) (n:Nat) (xs:List Value):Fact T:=
  ⟨fun v w=>∃g,v= .slice (some ⟨g,0,none⟩) n n∧w.ownsRow base e 1 (.slice (some ⟨g,0,none⟩) n n) n xs,fun _ _ _ h ⟨g,e1,k⟩=>⟨g,e1,h.owns he k⟩⟩
theorem wp_make {P:Program} {w:World} {o:Oper} {a:Act} {K:Act→World→Prop} {Q:Exit→Act→World→Prop} (l c:Operand) (t e:TypeId) (z:Value) (size bytes:Nat)
    (ht:P.underlying t=some (.slice e)) (hinfo:(P.info? e).map (fun i=>(i.zero,i.size,i.bytes))=some (some z,size,bytes)) (hbytes:bytes≤1024)
    (B n:Nat) (N:Int) (hN:N=n) (hlen:n≤4294967296) (hbase:B≤w.heap.size)
    (ho:o.op=Op.makeSlice t l c) (hl:a.eval l= .int .i64 N) (hc:a.eval c= .int .i64 N)
    (h:∀g w',w.heap.size≤g→w'.ownsRow B e size (.slice (some ⟨g,0,none⟩) n n) n (madeCells z.cells (n*size)).toList→Below w.heap.size w w'→K (a.put o.dst (.slice (some ⟨g,0,none⟩) n n)) w'):
    Oper.wp P o a w K Q:=by
 obtain ⟨i0,hi,hz0,hz1,hz2⟩:=info_parts hinfo;obtain ⟨w',hrun,r1,r2⟩:=run_make_full (P:=P) w B t e i0 z size ht hi hz0 hz1 .i64 .i64 n (by rw [hz2];exact Nat.le_trans (Nat.mul_le_mul hbytes hlen) xdd) (by unfold maxLen;omega) hbase;subst hN;unfold Oper.wp;simp [execOp,ho,hl,hc,hrun,Result.andThen];exact h w.heap.size w' (Nat.le_refl _) r1 (br.grown r2 (Nat.le_refl _) (fun k hk=>by cases hk))
end
section
open Go.RowKit
theorem SameWords_ok (a b:Option Addr) (ca cb:Nat) (xs ys:List Int) (w:World) (ha:IsRow .u64 w a xs) (hb:IsRow .u64 w b ys) (hm:xs.length≤1000000000):
    Calls Tryz.prog 67 #[.slice a xs.length ca,.slice b ys.length cb] w fun e w'=>e= .returned (.bool (decide (xs=ys)))∧∃n,w'=w.drewN n:=by
 by_cases hlen:xs.length=ys.length
 · have hl1:((xs.length:Int) != (ys.length:Int))=false:=by simp [hlen]
   have HL:=hid hlen;clear hlen;have HA:=hid ha;have HB:=hid hb;clear ha hb;go_enter Tryz.func67,Tryz.ntmps67
   go_wp2
   go_loopg [5] xs.length (fun g i wr=>∃(k n:Nat),k+g=xs.length∧i= .int .i64 k∧wr=w.drewN n∧xs.take k=ys.take k)
   case atStart=>exact ⟨0,0,by omega,rfl,rfl,by simp⟩
   case round=>
    obtain ⟨k,n,hk,rfl,rfl,ht⟩:=hrel;have HT:=hid ht;clear ht;by_cases hlt:k<xs.length
    · have hlt2 : k<ys.length:=by rw [←HL.out];exact hlt
      obtain ⟨b1,o1,x,rfl,hx,h1,_⟩:=HA.out.get hlt;obtain ⟨b2,o2,y,rfl,hy,h2,_⟩:=HB.out.get hlt2;by_cases heq:x=y
      · have he:(x != y)=false:=by simpa using heq
        have HE:=hid heq;clear heq;go_wp2
        go_quiet (fail)
        go_wp2
        go_roundg (gk-1)
        case measure=>omega
        case rel=>exact ⟨k+1,n+nq,by omega,by go_num,by simp,row_take_succ HL.out hlt HT.out (hx.out.trans (HE.out.trans hy.out.symm))⟩
      · have he : (x != y)=true:=by simpa using heq
        have HE:=hid heq;clear heq;go_wp2
        go_quiet (fail)
        go_wp2
        go_ret
        exact ⟨by have:xs≠ys:=fun h=>HE.out (by rw [←hx.out,←hy.out,h])
                  simp [this],_,World.drewN_drewN _ _ _⟩
    · go_wp2
      go_ret
      have hk2:k=xs.length:=xo;have hxy:xs=ys:=by
       have:=HT.out;rw [hk2,List.take_length,HL.out,List.take_length] at this;exact this
      exact ⟨by simp [hxy],_,rfl⟩
 · have hl1:((xs.length:Int) != (ys.length:Int))=true:=by simp;omega
   have hxy:xs≠ys:=fun h=>hlen (by rw [h])
   have HX:=hid hxy;clear ha hb hlen hxy;go_enter Tryz.func67,Tryz.ntmps67
   go_wp2
   go_ret
   exact ⟨by simp [HX.out],0,rfl⟩
theorem ans_drewN {P:Program} {f:Nat} {args:Array Value} {w:World} {v:Value} (h:Calls P f args w fun e w'=>e= .returned v∧∃n,w'=w.drewN n):Calls P f args w (AnsB w v):=
  h.mono fun e w' ⟨h1,n,h2⟩=>⟨h1,by rw [h2];exact below_drewN br _⟩
def gr4 (n lk lv lw lc:Nat):Bool:=decide (n<lk)||decide (n<lv)||decide (n<lw)||decide (n<lc)
theorem Great04_ok (seg:Int) (wa ka va ca:Option Addr) (wc kc vc cc lw lk lv lc:Nat) (laid:Int) (n:Nat) (w:World):
    Calls Tryz.prog 23 #[.agg #[.int .i64 seg,.slice wa lw wc,.slice ka lk kc,.slice va lv vc,.slice ca lc cc,.int .u64 laid],.int .i64 n] w (AnsB w (.bool (gr4 n lk lv lw lc))):=by
 go_enter Tryz.func23,Tryz.ntmps23
 go_wp2
 all_goals go_ret
 all_goals exact ⟨by first|rfl|(simp [gr4, *];done)|(simp [gr4];omega),br.alloc (Nat.le_refl _) _⟩
theorem Same04_eq (c:SlC) (a a':SlA) (w:World) (hin:SlIn w c a) (hin':SlIn w c a') (hl1:c.ws.length≤1000000000) (hl2:c.ks.length≤1000000000) (hl3:c.vs.length≤1000000000) (hl4:c.cs.length≤1000000000):
    Calls Tryz.prog 37 #[slV c a,slV c a'] w (AnsB w (.bool true)):=by
 have HW:=hid (fun (W:World) (hb:Below w.heap.size w W)=>ans_drewN (SameWords_ok a.wa a'.wa a.wc a'.wc c.ws c.ws W (hin.w.below hb) (hin'.w.below hb) hl1));have HK:=hid (fun (W:World) (hb:Below w.heap.size w W)=>ans_drewN (SameKeys_ok a.ka a'.ka a.kc a'.kc c.ks c.ks W (hin.k.below hb) (hin'.k.below hb) hl2));have HV:=hid (fun (W:World) (hb:Below w.heap.size w W)=>ans_drewN (SameKeys_ok a.va a'.va a.vc a'.vc c.vs c.vs W (hin.v.below hb) (hin'.v.below hb) hl3));have HN:=hid (fun (W:World) (hb:Below w.heap.size w W)=>ans_drewN (SameNums_ok a.ca a'.ca a.cc a'.cc c.cs c.cs W (hin.n.below hb) (hin'.n.below hb) hl4));rw [show decide (c.ws=c.ws)=true by simp] at HW;rw [show decide (c.ks=c.ks)=true by simp] at HK;rw [show decide (c.vs=c.vs)=true by simp] at HV;rw [show decide (c.cs=c.cs)=true by simp] at HN;obtain ⟨seg,ws,ks,vs,cs,laid⟩:=c;obtain ⟨wa,ka,va,ca,wc,kc,vc,cc⟩:=a;obtain ⟨wa',ka',va',ca',wc',kc',vc',cc'⟩:=a';dsimp only [slV] at *;generalize ws.length=lw at *;generalize ks.length=lk at *;generalize vs.length=lv at *;generalize cs.length=lc at *;have gs:(seg==seg)=true:=by simp
 have gl:(laid==laid)=true:=by simp
 clear hin hin' hl1 hl2 hl3 hl4;go_enter Tryz.func37,Tryz.ntmps37
 go_wp2_with fail
 refine (HW.out _ ((br.alloc (Nat.le_refl _) _).alloc xsi _)).mono ?_;rintro e w1 ⟨rfl,hb1⟩;have hz_w1:=hb1.size;try simp only [World.size_alloc,World.size_setCell] at hz_w1
 have hh:=bc6 hb1 (au6 (al6 (b:=w.heap.size) xsi));obtain ⟨c_t0,c_t1,c_t2,c_t3,c_t4,c_t5⟩:=hh;have z_t:=blt hb1 (auz (alz (b:=w.heap.size) xsi));have hh:=bc6 hb1 (al6 (b:=w.heap.size+1) xsi);obtain ⟨c_o0,c_o1,c_o2,c_o3,c_o4,c_o5⟩:=hh;have z_o:=blt hb1 (alz (b:=w.heap.size+1) xsi);have hB1:Below w.heap.size w w1:=xbel;go_wp2_with fail
 refine (HK.out _ hB1).mono ?_;rintro e w2 ⟨rfl,hb2⟩;have hz_w2:=hb2.size;simp (disch:=omega) only [xcl hb2] at *;replace z_t:=blt hb2 z_t;replace z_o:=blt hb2 z_o;have hB2:Below w.heap.size w w2:=xbel;go_wp2_with fail
 refine (HV.out _ hB2).mono ?_;rintro e w3 ⟨rfl,hb3⟩;have hz_w3:=hb3.size;simp (disch:=omega) only [xcl hb3] at *;replace z_t:=blt hb3 z_t;replace z_o:=blt hb3 z_o;have hB3:Below w.heap.size w w3:=xbel;go_wp2_with fail
 refine (HN.out _ hB3).mono ?_;rintro e w4 ⟨rfl,hb4⟩;have hz_w4:=hb4.size;simp (disch:=omega) only [xcl hb4] at *;replace z_t:=blt hb4 z_t;replace z_o:=blt hb4 z_o;have hB4:Below w.heap.size w w4:=xbel;go_wp2
 go_ret
 exact ⟨rfl,hB4⟩
end
section
open Go.RowKit
def OwnK (k:IntKind) (e:TypeId) (B:Nat) (ao:Option Addr) (n c:Nat) (w:World):Prop:=∃xs:List Int,xs.length=n∧w.ownsRow B e 1 (.slice ao n c) n (xs.map (Value.int k))
theorem OwnK.form {k:IntKind} {e:TypeId} {B:Nat} {ao:Option Addr} {n c:Nat} {w:World} (h:OwnK k e B ao n c w) {j:Nat} (hj:j<n):∃g,ao=some ⟨g,0,none⟩∧B≤g∧g<w.heap.size:=by
 obtain ⟨xs,hl,h1,⟨h2,h3⟩ | ⟨g,cap,cur,hv,hg,hh,_⟩⟩:=h
 · omega
 · cases hv;exact ⟨g,rfl,hg,(Array.getElem?_eq_some_iff.1 hh).1⟩
theorem OwnK.set {k:IntKind} {e:TypeId} {B g n c:Nat} {w:World} (h:OwnK k e B (some ⟨g,0,none⟩) n c w) {j:Nat} (hj:j<n):
    (∃v,w.cell? ⟨g,j,none⟩=some v)∧w.frozen? ⟨g,j,none⟩=false∧∀y:Int,OwnK k e B (some ⟨g,0,none⟩) n c (w.setCell ⟨g,j,none⟩ (.int k y)):=by
 obtain ⟨xs,rfl,h1⟩:=h;obtain ⟨⟨x,_,hx⟩,hf,hs⟩:=row_cell h1 hj;refine ⟨⟨_,hx⟩,hf,fun y=>⟨xs.set j y,by simp,?_⟩⟩;have:=hs y;rw [List.length_set] at this;exact this
theorem OwnK.other {k:IntKind} {e:TypeId} {B:Nat} {ao:Option Addr} {n c:Nat} {w w':World} (h:OwnK k e B ao n c w) (hh:∀k,(Value.slice ao n c).ownBlock=some k→w'.heap[k]? =w.heap[k]?):OwnK k e B ao n c w':=by
 obtain ⟨xs,hl,h1⟩:=h;exact ⟨xs,hl,owns_heap h1 hh⟩
theorem OwnK.apart {k k':IntKind} {e e':TypeId} {B B':Nat} {ao bo:Option Addr} {n c m d:Nat} {w:World} (h:OwnK k e B ao n c w) (h':OwnK k' e' B' bo m d w) (hne:e≠e'):∀p q,(Value.slice ao n c).ownBlock=some p→(Value.slice bo m d).ownBlock=some q→p≠q:=by
 obtain ⟨xs,hl,h1⟩:=h;obtain ⟨ys,hm,h2⟩:=h';intro p q hp hq e;rcases owns_apart h1 h2 hne with h|h
 · rw [h] at hp;cases hp
 · exact h (by rw [hp,hq,e])
theorem OwnK.lt {k:IntKind} {e:TypeId} {B:Nat} {ao:Option Addr} {n c:Nat} {w:World} (h:OwnK k e B ao n c w):∀p,(Value.slice ao n c).ownBlock=some p→p<w.heap.size:=by
 obtain ⟨xs,hl,h1⟩:=h;exact fun p hp=>(owns_lt h1 hp).2
end
section
open Go.RowKit
structure Cfg where
 tag:Int
 most:Int
 seg:Int
 least:Int
 den:Int
 ll:Int
 rl:Int
 rh:Int
 lh:Int
@[reducible] def cfV (c:Cfg):Value:= .agg #[.int .u8 c.tag,.int .i64 c.most,.int .i64 c.seg,.int .i64 c.least,.int .i64 c.den,.int .i64 c.ll,.int .i64 c.rl,.int .i64 c.rh,.int .i64 c.lh]
def crossV (a b c d:Int):Int:=if 0<b*c-a*d then -1 else if b*c-a*d<0 then 1 else 0
def powB (n lo hi:Int):Bool:=decide (lo≤n)&&decide (n≤hi)&&pwB n
def takF (c:Cfg) (n:Int):Nat→Int→Int
  | 0,size=>size
  | k+1,size=>if c.rh*size<n*c.den then takF c n k (2*size) else size
def taks (c:Cfg) (n:Int):Int:=takF c n 20 c.least
def htC (c:Cfg) (size:Int):Nat:=(size/c.seg).toNat.log2
def cfHead (c:Cfg):Bool:=
  decide (1≤c.tag)&&decide (c.tag≤3)&&decide (1≤c.most)&&decide (c.most≤16384)&&powB c.seg 4 64&&powB c.least c.seg 256&&decide (1≤c.den)&&decide (c.den≤64) &&
  decide (0≤c.ll)&&decide (c.ll<c.rl)&&decide (c.rl<c.rh)&&decide (c.rh<c.lh)&&decide (c.lh≤c.den)&&decide (c.den≤2*c.rh)&&decide (8*c.rl≤c.den)&&decide (2*c.den≤c.rl*c.least)
def cfMay (c:Cfg):Bool:=cfHead c&&decide (c.den*htC c (taks c c.most)≤(c.lh-c.rh)*c.seg)
def cfE (c:Cfg):Int:=if cfMay c=true then 0 else 50
def cfHeadR (c:Cfg):Bool:=
  decide (1≤c.tag)&&decide (c.tag≤3)&&decide (1≤c.most)&&decide (c.most≤16384)&&powB c.seg 4 64&&powB c.least c.seg 256&&decide (1≤c.den)&&decide (c.den≤64) &&
  decide (0≤c.ll)&&decide (c.ll<c.rl)&&decide (c.rh<c.lh)&&decide (c.lh≤c.den)&&decide (c.rl≤c.den)&&decide (0≤c.rh)&&decide (c.den≤2*c.rh)&&decide (8*c.rl≤c.den)&&decide (2*c.den≤c.rl*c.least)
theorem powB_iff {n lo hi:Int}:powB n lo hi=true↔lo≤n∧n≤hi∧pwB n=true:=by
 simp only [powB,Bool.and_eq_true,decide_eq_true_eq];exact ⟨fun h=>⟨h.1.1,h.1.2,h.2⟩,fun h=>⟨⟨h.1,h.2.1⟩,h.2.2⟩⟩
theorem cfHeadR_eq (c:Cfg):cfHeadR c=cfHead c:=by
 rw [Bool.eq_iff_iff];simp only [cfHeadR,cfHead,Bool.and_eq_true,decide_eq_true_eq,powB_iff];constructor
 · rintro ⟨⟨⟨⟨⟨⟨⟨⟨⟨⟨⟨⟨⟨⟨⟨⟨h1,h2⟩,h3⟩,h4⟩,h5⟩,h6⟩,h7⟩,h8⟩,h9⟩,h10⟩,h11⟩,h12⟩,h13⟩,h14⟩,h15⟩,h16⟩,h17⟩;exact ⟨⟨⟨⟨⟨⟨⟨⟨⟨⟨⟨⟨⟨⟨⟨h1,h2⟩,h3⟩,h4⟩,h5⟩,h6⟩,h7⟩,h8⟩,h9⟩,h10⟩,by omega⟩,h11⟩,h12⟩,h15⟩,h16⟩,h17⟩
 · rintro ⟨⟨⟨⟨⟨⟨⟨⟨⟨⟨⟨⟨⟨⟨⟨h1,h2⟩,h3⟩,h4⟩,h5⟩,h6⟩,h7⟩,h8⟩,h9⟩,h10⟩,h11⟩,h12⟩,h13⟩,h14⟩,h15⟩,h16⟩;exact ⟨⟨⟨⟨⟨⟨⟨⟨⟨⟨⟨⟨⟨⟨⟨⟨h1,h2⟩,h3⟩,h4⟩,h5⟩,h6⟩,h7⟩,h8⟩,h9⟩,h10⟩,h12⟩,h13⟩,by omega⟩,by omega⟩,h14⟩,h15⟩,h16⟩
theorem takF_done {c:Cfg} {n size:Int} (h:¬c.rh*size<n*c.den):∀k,takF c n k size=size
  | 0=>rfl
  | k+1=>if_neg h
theorem takF_bd {c:Cfg} {n:Int}:∀(k:Nat) (size:Int),0≤size→size≤takF c n k size∧takF c n k size≤size*2^k:=by
 intro k;induction k with
 | zero=>intro size h0;rw [takF];simp
 | succ k ih=>
  intro size h0;rw [takF];split
  · obtain ⟨a,b⟩:=ih (2*size) xo;have e:2*size*2^k=size*2^(k+1):=by rw [Int.pow_succ,Int.mul_comm 2 size,Int.mul_assoc,Int.mul_comm 2]
    omega
  · have h2:(1:Int)≤2^(k+1):=by
      have:(2:Int)^(k+1)=((2^(k+1):Nat):Int):=by push_cast;rfl
      rw [this];have:=Nat.two_pow_pos (k+1);omega
    have:=Int.mul_le_mul_of_nonneg_left h2 h0;omega
theorem takF_takes {c:Cfg} {n:Int} (h1:1≤c.rh):∀(k:Nat) (size:Int),0≤size→n*c.den≤size*2^k→n*c.den≤c.rh*takF c n k size:=by
 intro k;induction k with
 | zero=>
  intro size h0 h2;have:=Int.mul_le_mul_of_nonneg_right h1 h0;rw [takF];simp at h2;omega
 | succ k ih=>
  intro size h0 h2;rw [takF];split
  · refine ih (2*size) xo ?_;rw [Int.pow_succ] at h2;have:2*size*2^k=size*(2^k*2):=by rw [Int.mul_comm 2 size,Int.mul_assoc,Int.mul_comm 2]
    omega
  · omega
end
section
open Go.RowKit
end
section
open Go.RowKit
theorem pb_kp {S:Nat→Prop} {w w':World} {b:Nat} {vs:List Value} (h:KpS S w w') (hp:PB w b vs) (hS:S b):PB w' b vs:=
  fun j v hj=>h.cell (a:=⟨b,j,none⟩) hS (hp j v hj)
theorem OwnK.kp {S:Nat→Prop} {k:IntKind} {e:TypeId} {B:Nat} {ao:Option Addr} {n c:Nat} {w w':World} (h:OwnK k e B ao n c w) (hk:KpS S w w') (hS:∀q,B≤q→q<w.heap.size→S q):OwnK k e B ao n c w':=by
 refine h.other fun q hq=>hk q ?_
 obtain ⟨xs,hl,h1⟩:=h;exact hS q (owns_lt h1 hq).1 (owns_lt h1 hq).2
theorem OwnK.base {k:IntKind} {e:TypeId} {B B':Nat} {ao:Option Addr} {n c:Nat} {w:World} (h:OwnK k e B ao n c w) (hb:B'≤B):OwnK k e B' ao n c w:=by
 obtain ⟨xs,hl,h1⟩:=h;exact ⟨xs,hl,owns_base h1 hb⟩
theorem OwnK.not {k:IntKind} {e:TypeId} {B:Nat} {ao:Option Addr} {n c:Nat} {w:World} {S:Nat→Prop} (h:OwnK k e B ao n c w) (hS:∀q,B≤q→q<w.heap.size→¬S q):∀p,(Value.slice ao n c).ownBlock=some p→¬S p:=by
 intro p hp;obtain ⟨xs,hl,h1⟩:=h;exact hS p (owns_lt h1 hp).1 (owns_lt h1 hp).2
end
section
open Go.RowKit
theorem OwnK.any2 {k:IntKind} {e:TypeId} {B:Nat} {ao:Option Addr} {n c:Nat} {w:World} (h:OwnK k e B ao n c w) (g j:Nat) (y:Int):OwnK k e B ao n c (w.setCell ⟨g,j,none⟩ (.int k y)):=by
 have h0:=h;obtain ⟨xs,hl,h1⟩:=h;have hrow:=h1;obtain ⟨h1,⟨h2,h3⟩ | ⟨g',cap,cur,hv,hg,hh,hn,hm,hs,ht⟩⟩:=h1
 · exact ⟨xs,hl,h1,.inl ⟨h2,h3⟩⟩
 · cases hv;by_cases hgg:g'=g
   · subst hgg;by_cases hj:j<n
     · exact (OwnK.set h0 hj).2.2 y
     · have hc:=heap_setCell_same w g' j cur e (Value.int k y) hh;refine ⟨xs,hl,h1,.inr ⟨g',c,_,rfl,hg,hc,hn,hm,by simpa using hs,?_⟩⟩;rw [←ht];simp only [Array.toList_setIfInBounds,Nat.mul_one];rw [List.take_set_of_le xo]
   · exact ⟨xs,hl,owns_heap hrow fun q hq=>heap_setCell_ne _ _ _ (by cases hq;exact hgg)⟩
theorem spoil11_kp (S:Nat→Prop) (c:Cfg) (sg ld:Int) (B:Nat) (wa ka va ca:Option Addr) (wc kc vc cc:Nat) (lw lk lv lc:Nat) (w:World) (hw:OwnK .u64 27 B wa lw wc w) (hk:OwnK .i64 2 B ka lk kc w) (hv:OwnK .i64 2 B va lv vc w) (hc:OwnK .i64 3 B ca lc cc w) (hB:B≤w.heap.size) (b1:lk≤1000000000) (b2:lv≤1000000000) (b3:lw≤1000000000) (b4:lc≤1000000000) (hS:∀q,S q→q<w.heap.size) (q0:∀p,(Value.slice ka lk kc).ownBlock=some p→¬S p) (q1:∀p,(Value.slice va lv vc).ownBlock=some p→¬S p) (q2:∀p,(Value.slice wa lw wc).ownBlock=some p→¬S p) (q3:∀p,(Value.slice ca lc cc).ownBlock=some p→¬S p):
    Calls Tryz.prog 18 #[.agg #[.int .u8 c.tag,.int .i64 c.most,.int .i64 c.seg,.int .i64 c.least,.int .i64 c.den,.int .i64 c.ll,.int .i64 c.rl,.int .i64 c.rh,.int .i64 c.lh,.int .i64 sg,.slice wa lw wc,.slice ka lk kc,.slice va lv vc,.slice ca lc cc,.int .u64 ld]] w fun e w'=>(∃v,e= .returned v)∧Below B w w'∧KpS S w w':=by
 have HK:=hid hk;have HV:=hid hv;have HW:=hid hw;have HC:=hid hc;have HSS:=hid hS;have Q0:=hid q0;have Q1:=hid q1;have Q2:=hid q2;have Q3:=hid q3;have AKW:=hid (hk.apart hw xdd);have AKC:=hid (hk.apart hc xdd);have AVW:=hid (hv.apart hw xdd);have AVC:=hid (hv.apart hc xdd);have AWC:=hid (hw.apart hc xdd);have LK:=hid hk.lt;have LV:=hid hv.lt;have LW:=hid hw.lt;have LC:=hid hc.lt;clear hw hk hv hc hS q0 q1 q2 q3;go_enter Tryz.func18,Tryz.ntmps18
 go_wp2
 go_loopg [2] lk (fun g i wr=>∃k:Nat,k+g=lk∧i= .int .i64 k∧Hid (OwnK .i64 2 B ka lk kc wr)∧Hid (OwnK .i64 2 B va lv vc wr)∧Hid (OwnK .u64 27 B wa lw wc wr)∧Hid (OwnK .i64 3 B ca lc cc wr)∧wr.cell? ⟨w.heap.size,11,none⟩=some (.slice ka lk kc)∧wr.cell? ⟨w.heap.size,12,none⟩=some (.slice va lv vc)∧wr.cell? ⟨w.heap.size,10,none⟩=some (.slice wa lw wc)∧wr.cell? ⟨w.heap.size,13,none⟩=some (.slice ca lc cc)∧Hid (Below B w wr)∧Hid (KpS S w wr))
 case atStart=>
  exact ⟨0,by omega,rfl,hid (HK.out.other fun k hk=>Below.heap_alloc _ _ _ (LK.out k hk)),hid (HV.out.other fun k hk=>Below.heap_alloc _ _ _ (LV.out k hk)),hid (HW.out.other fun k hk=>Below.heap_alloc _ _ _ (LW.out k hk)),hid (HC.out.other fun k hk=>Below.heap_alloc _ _ _ (LC.out k hk)),by (exact xcw),by (exact xcw),by (exact xcw),by (exact xcw),hid ((Below.refl _ w).alloc hB _),hid (fun q hq=>Below.heap_alloc _ _ _ (HSS.out q hq))⟩
 case round=>
  obtain ⟨k0,hk,rfl,HK0,HV0,HW0,HC0,dK0,dV0,dW0,dC0,HB0,HP0⟩:=hrel;by_cases hlt:k0<lk
  · obtain ⟨g,rfl,hg1,hg2⟩:=HK0.out.form hlt;obtain ⟨⟨x,hx⟩,hf,hs⟩:=HK0.out.set hlt;have hgw:g<w.heap.size:=LK.out g rfl;have HS:=hid (hs (-7));have GV:=hid (HV0.out.any2 g k0 (-7));have GW:=hid (HW0.out.other (w':=wr.setCell ⟨g,k0,none⟩ (.int .i64 (-7))) fun l hl=>heap_setCell_ne _ _ _ (by have:=AKW.out g l rfl hl;show l≠g;omega));have GC:=hid (HC0.out.other (w':=wr.setCell ⟨g,k0,none⟩ (.int .i64 (-7))) fun l hl=>heap_setCell_ne _ _ _ (by have:=AKC.out g l rfl hl;show l≠g;omega));clear hs;go_wp2
    go_roundg (gk-1)
    case measure=>omega
    case rel=>exact ⟨k0+1,by omega,by go_num,HS,GV,GW,GC,by rw [World.cell?_setCell_other _ _ _ _ (by intro e;simp at e<;>omega)];exact dK0,by rw [World.cell?_setCell_other _ _ _ _ (by intro e;simp at e<;>omega)];exact dV0,by rw [World.cell?_setCell_other _ _ _ _ (by intro e;simp at e<;>omega)];exact dW0,by rw [World.cell?_setCell_other _ _ _ _ (by intro e;simp at e<;>omega)];exact dC0,hid (HB0.out.setCell hg1 _),hid (fun q hq=>(heap_setCell_ne _ _ _ (fun e=>Q0.out g rfl (by have e2:q=g:=e;rw [←e2];exact hq))).trans (HP0.out q hq))⟩
  · obtain rfl:k0=lk:=xo;clear hk hlt HK0 HK AKW AKC;obtain ⟨wo0,rfl⟩:∃wo,wr=wo:=⟨_,rfl⟩
    go_wp2
    go_loopg [3] lv (fun g i wr=>∃k:Nat,k+g=lv∧i= .int .i64 k∧Hid (OwnK .i64 2 B va lv vc wr)∧Hid (OwnK .u64 27 B wa lw wc wr)∧Hid (OwnK .i64 3 B ca lc cc wr)∧wr.cell? ⟨w.heap.size,12,none⟩=some (.slice va lv vc)∧wr.cell? ⟨w.heap.size,10,none⟩=some (.slice wa lw wc)∧wr.cell? ⟨w.heap.size,13,none⟩=some (.slice ca lc cc)∧Hid (Below B w wr)∧Hid (KpS S w wr))
    case atStart=>
     exact ⟨0,by omega,rfl,HV0,HW0,HC0,dV0,dW0,dC0,HB0,HP0⟩
    case round=>
     obtain ⟨k1,hk,rfl,HV1,HW1,HC1,dV1,dW1,dC1,HB1,HP1⟩:=hrel;by_cases hlt:k1<lv
     · obtain ⟨g,rfl,hg1,hg2⟩:=HV1.out.form hlt;obtain ⟨⟨x,hx⟩,hf,hs⟩:=HV1.out.set hlt;have hgw:g<w.heap.size:=LV.out g rfl;have HS:=hid (hs (-7));have GW:=hid (HW1.out.other (w':=wr.setCell ⟨g,k1,none⟩ (.int .i64 (-7))) fun l hl=>heap_setCell_ne _ _ _ (by have:=AVW.out g l rfl hl;show l≠g;omega));have GC:=hid (HC1.out.other (w':=wr.setCell ⟨g,k1,none⟩ (.int .i64 (-7))) fun l hl=>heap_setCell_ne _ _ _ (by have:=AVC.out g l rfl hl;show l≠g;omega));clear hs;go_wp2
       go_roundg (gk-1)
       case measure=>omega
       case rel=>exact ⟨k1+1,by omega,by go_num,HS,GW,GC,by rw [World.cell?_setCell_other _ _ _ _ (by intro e;simp at e<;>omega)];exact dV1,by rw [World.cell?_setCell_other _ _ _ _ (by intro e;simp at e<;>omega)];exact dW1,by rw [World.cell?_setCell_other _ _ _ _ (by intro e;simp at e<;>omega)];exact dC1,hid (HB1.out.setCell hg1 _),hid (fun q hq=>(heap_setCell_ne _ _ _ (fun e=>Q1.out g rfl (by have e2:q=g:=e;rw [←e2];exact hq))).trans (HP1.out q hq))⟩
     · obtain rfl:k1=lv:=xo;clear hk hlt HV1 HV AVW AVC;obtain ⟨wo1,rfl⟩:∃wo,wr=wo:=⟨_,rfl⟩
       go_wp2
       go_loopg [4] lw (fun g i wr=>∃k:Nat,k+g=lw∧i= .int .i64 k∧Hid (OwnK .u64 27 B wa lw wc wr)∧Hid (OwnK .i64 3 B ca lc cc wr)∧wr.cell? ⟨w.heap.size,10,none⟩=some (.slice wa lw wc)∧wr.cell? ⟨w.heap.size,13,none⟩=some (.slice ca lc cc)∧Hid (Below B w wr)∧Hid (KpS S w wr))
       case atStart=>
        exact ⟨0,by omega,rfl,HW1,HC1,dW1,dC1,HB1,HP1⟩
       case round=>
        obtain ⟨k2,hk,rfl,HW2,HC2,dW2,dC2,HB2,HP2⟩:=hrel;by_cases hlt:k2<lw
        · obtain ⟨g,rfl,hg1,hg2⟩:=HW2.out.form hlt;obtain ⟨⟨x,hx⟩,hf,hs⟩:=HW2.out.set hlt;have hgw:g<w.heap.size:=LW.out g rfl;have HS:=hid (hs 7);have GC:=hid (HC2.out.other (w':=wr.setCell ⟨g,k2,none⟩ (.int .u64 7)) fun l hl=>heap_setCell_ne _ _ _ (by have:=AWC.out g l rfl hl;show l≠g;omega));clear hs;go_wp2
          go_roundg (gk-1)
          case measure=>omega
          case rel=>exact ⟨k2+1,by omega,by go_num,HS,GC,by rw [World.cell?_setCell_other _ _ _ _ (by intro e;simp at e<;>omega)];exact dW2,by rw [World.cell?_setCell_other _ _ _ _ (by intro e;simp at e<;>omega)];exact dC2,hid (HB2.out.setCell hg1 _),hid (fun q hq=>(heap_setCell_ne _ _ _ (fun e=>Q2.out g rfl (by have e2:q=g:=e;rw [←e2];exact hq))).trans (HP2.out q hq))⟩
        · obtain rfl:k2=lw:=xo;clear hk hlt HW2 HW AWC;obtain ⟨wo2,rfl⟩:∃wo,wr=wo:=⟨_,rfl⟩
          go_wp2
          go_loopg [5] lc (fun g i wr=>∃k:Nat,k+g=lc∧i= .int .i64 k∧Hid (OwnK .i64 3 B ca lc cc wr)∧wr.cell? ⟨w.heap.size,13,none⟩=some (.slice ca lc cc)∧Hid (Below B w wr)∧Hid (KpS S w wr))
          case atStart=>
           exact ⟨0,by omega,rfl,HC2,dC2,HB2,HP2⟩
          case round=>
           obtain ⟨k3,hk,rfl,HC3,dC3,HB3,HP3⟩:=hrel;by_cases hlt:k3<lc
           · obtain ⟨g,rfl,hg1,hg2⟩:=HC3.out.form hlt;obtain ⟨⟨x,hx⟩,hf,hs⟩:=HC3.out.set hlt;have hgw:g<w.heap.size:=LC.out g rfl;have HS:=hid (hs (-7));clear hs;go_wp2
             go_roundg (gk-1)
             case measure=>omega
             case rel=>exact ⟨k3+1,by omega,by go_num,HS,by rw [World.cell?_setCell_other _ _ _ _ (by intro e;simp at e<;>omega)];exact dC3,hid (HB3.out.setCell hg1 _),hid (fun q hq=>(heap_setCell_ne _ _ _ (fun e=>Q3.out g rfl (by have e2:q=g:=e;rw [←e2];exact hq))).trans (HP3.out q hq))⟩
           · obtain rfl:k3=lc:=xo;go_wp2
             exact bodyPost_end (results_none rfl _ _ _) rfl ⟨⟨_,rfl⟩,HB3.out,HP3.out⟩
end
end Go.Proofs.YtmnlagmmbfjbeaaGreatDoor

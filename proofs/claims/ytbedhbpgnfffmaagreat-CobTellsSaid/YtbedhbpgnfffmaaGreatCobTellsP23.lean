/- Merged: IdxCheck, IdxAt, HeapNode, RangeS, HeapUp, HeapFns, HeapLeaf, HeapDep, VebPlace, DownFns, DownWayH, DownWayN. -/
import Derived.Test.YtbedhbpgnfffmaaGreatCobTellsP7
import Derived.BigRegion
import Derived.Deep.RegionHeld3
import Derived.Deep.CutRange
import Derived.Deep.CutBlock
import Derived.Laws.StructEq
import Derived.Test.YtbedhbpgnfffmaaGreatCobTellsP2
import Derived.Lib.BitFns
import Derived.Sort.LoopGhostIn
import Derived.Test.YtbedhbpgnfffmaaGreatCobTellsP3
import Derived.Laws.BitsLemmas
import Derived.Test.YtbedhbpgnfffmaaGreatCobTellsP5
import Derived.Test.YtbedhbpgnfffmaaGreatCobTellsP22
namespace Go.Proofs.YtbedhbpgnfffmaaGreat
set_option maxRecDepth 100000
set_option maxHeartbeats 40000000
set_option linter.unusedVariables false
set_option linter.unusedSimpArgs false
section
open Go.RowKit
theorem Check_bad (l:Int) (ma ca:Option Addr) (mc cc:Nat) (ms cs:List Int) (h:¬ixFit l ms cs) (w:World):
    Calls Tryz.prog 59 #[ixV l ma ms.length mc ca cs.length cc] w (Ans w (.int .i64 8)):=by
 have HR:=hid (fun w=>read_bad l ma ca mc cc ms cs h w);clear h;go_enter Tryz.func59,Tryz.ntmps59
 go_wp2_with (go_at_call 90;refine (HR.out _).mono ?_;rintro e w1 ⟨rfl,hb⟩)
 go_ret
 exact ⟨rfl,by (exact xbel)⟩
theorem nd_cells {w:World} {B g N:Nat} {a b c:Nat→Int} (h:w.ownsRow B 138 3 (.slice (some ⟨g,0,none⟩) (N+1) (N+1)) (N+1) (ndRow a b c (N+1))) {n:Nat} (hn:n<N+1):
    w.cell? ⟨g,n*3,none⟩=some (.int .i64 (a n))∧w.cell? ⟨g,n*3+1,none⟩=some (.int .i64 (b n)):=by
 have hlen:(flat3 a b c (N+1)).length=(N+1)*3:=flat3_length;obtain ⟨d0,-⟩:=own_cell h (j:=n*3) xo;obtain ⟨d1,-⟩:=own_cell h (j:=n*3+1) xo;rw [flat3_0 hn] at d0;rw [flat3_1 hn] at d1;exact ⟨d0,d1⟩
theorem joinP_iff {m c am ac bm bc:Int}:joinP m c am ac bm bc=true↔ac≤c∧bc≤c∧m=abM am bm bc∧c=abC ac bc∧¬(0<ac∧0<bc∧bm≤am):=by
 simp only [joinP,Bool.and_eq_true,decide_eq_true_eq,Bool.not_eq_true',Bool.and_eq_false_iff,decide_eq_false_iff_not];constructor
 · rintro ⟨⟨⟨h1,h2⟩,h3,h4⟩,h5⟩;exact ⟨h1,h2,h3,h4,by omega⟩
 · rintro ⟨h1,h2,h3,h4,h5⟩;exact ⟨⟨⟨h1,h2⟩,h3,h4⟩,by omega⟩
theorem all_down {p:Nat→Bool} {k N:Nat} (h:allFrom p (k+1) (N-k)=true) (hp:p k=true) (h0:0<k) (hk:k≤N):allFrom p (k-1+1) (N-(k-1))=true:=by
 rw [allFrom_iff] at h ⊢;intro m h1 h2;by_cases e:m=k
 · rw [e];exact hp
 · exact h m xo xo
theorem ndB_own {L:Nat} {ms cs:List Int} {n:Nat} (h:ndB L ms cs n=true):ownB (tlF L ms n) (tlF L cs n)=true:=by
 unfold ndB at h;rw [Bool.and_eq_true] at h;exact h.1
theorem Check_fit (L N : Nat) (l:Int) (hl:l=L) (h1:1≤L) (h2:L≤14) (hN:N+1=2^L) (ma ca:Option Addr) (mc cc:Nat) (ms cs:List Int) (hlm:ms.length=N) (hlc:cs.length=N) (w:World)
    (hm:IsRow .i64 w ma ms) (hc:IsRow .i64 w ca cs):
    Calls Tryz.prog 59 #[ixV l ma N mc ca N cc] w (Ans w (.int .i64 (if allFrom (ndB L ms cs) 1 N=true then 0 else 8))):=by
 have hp:2^L≤16384:=Nat.pow_le_pow_right xo h2;have hMb:N+1≤16384:=xo;have hN1:0<N:=by have:2^1≤2^L:=Nat.pow_le_pow_right xo h1;omega
 have HR:=hid (fun (W:World) (hb:Below w.heap.size w W)=>read_ok L N l hl h1 h2 hN ma ca mc cc ms cs hlm hlc W (hm.below hb) (hc.below hb));have HN:=hid hN;generalize hr:(if allFrom (ndB L ms cs) 1 N=true then (0:Int) else 8)=r;have HRR:=hid hr;clear hr hN hp hm hc hlm hlc hl h1 h2;go_enter Tryz.func59,Tryz.ntmps59
 go_wp2_with (first
   | (go_at_call 90;refine (HR.out _ xbel).mono ?_;rintro e w1 ⟨g,rfl,ho,hb⟩
      have hg:=(ho.lt g rfl)
      simp only [World.size_alloc] at hg hb ho;have HO:=hid ho;have HB:=hid (below_via hb ((Below.refl _ w).alloc (Nat.le_refl _) _) xo);clear ho hb))
 go_loopg [5] N (fun gk i wr=>∃k:Nat,k=gk∧k≤N∧i= .int .i64 k∧w.heap.size≤wr.heap.size∧g<wr.heap.size∧
     Hid (∃B,w.heap.size≤B∧wr.ownsRow B 138 3 (.slice (some ⟨g,0,none⟩) (N+1) (N+1)) (N+1) (ndRow (tlF L ms) (tlF L cs) (pcF L) (N+1)))∧Hid (Below w.heap.size w wr)∧Hid (allFrom (ndB L ms cs) (k+1) (N-k)=true))
 case atStart=>exact ⟨N,rfl,Nat.le_refl _,rfl,HB.out.size,hg.2,hid ⟨_,by omega,HO.out⟩,HB,hid (by rw [Nat.sub_self];rfl)⟩
 case round =>
  obtain ⟨k,rfl,hkN,rfl,hz0,hgw,HO,HB,HA⟩:=hrel;by_cases hlt:0<k
  · obtain ⟨B, hB, ho⟩ :=HO.out;obtain ⟨d0,d1⟩:=nd_cells ho (n:=k) xo;have HF:=hid (fun n (hn:n<N+1)=>nd_cells ho hn);have hb:ndB L ms cs k=(ownB (tlF L ms k) (tlF L cs k)&&(decide (2^L-1<2*k)||joinR (tlF L ms k) (tlF L cs k) (tlF L ms (2*k)) (tlF L cs (2*k)) (tlF L ms (2*k+1)) (tlF L cs (2*k+1)))):=rfl;have HBB:=hid hb;clear hb ho;obtain ⟨m,hm⟩:∃m,tlF L ms k=m:=⟨_,rfl⟩
    obtain ⟨c,hc⟩:∃c,tlF L cs k=c:=⟨_,rfl⟩
    rw [hm,hc] at HBB;rw [hm] at d0;rw [hc] at d1;have HM:=hid hm;have HC:=hid hc;clear hm hc;by_cases hown:ownB m c=true
    · have ho2 : 0 ≤ c ∧ c≤65536∧(c≠0∨m=0):=by
        simp only [ownB,Bool.and_eq_true,Bool.or_eq_true,decide_eq_true_eq] at hown;omega
      obtain ⟨ho3,ho4,ho5⟩:=ho2;have HO5:=hid ho5;clear ho5;go_upto_region 8 with fail
      generalize hW:wr.alloc _=W;have x0:W.cell? ⟨wr.heap.size,0,none⟩=some (.int .i64 m):=by rw [←hW];(exact xcw)
      have x1:W.cell? ⟨wr.heap.size,1,none⟩=some (.int .i64 c):=by rw [←hW];(exact xcw)
      have hWz:W.heap.size=wr.heap.size+1:=by rw [←hW];simp
      have HBW:=hid (by rw [←hW];exact br.alloc (Nat.le_refl _) _:Below wr.heap.size wr W);clear hW d0 d1;go_cut [45] from 19 to 99 (fun b wx=>b= .bool false∧wx=W)
      case first=>
       by_cases h0:c=0
       · have hm0:m=0:=by have:=HO5.out;omega
         have e1:(c==0)=true:=by simpa using h0
         have e2:(m != 0)=false:=by simpa using hm0
         clear h0 hm0;go_wp2
         go_meet
         case rel=>exact ⟨by simp<;>omega,rfl⟩
       · have e1:(c==0)=false:=by simpa using h0
         clear h0;go_wp2
         go_meet
         case rel=>exact ⟨by simp<;>omega,rfl⟩
      case rest=>
       obtain ⟨rfl,rfl⟩:=hcut;have hk1:((k-1:Nat):Int)=(k:Int)-1:=xo;have HK1:=hid hk1;clear hk1;by_cases h2k:N<2*k
       · go_wp2
         go_roundg (k-1)
         case measure=>omega
         case rel=>
          obtain ⟨B,hB,ho⟩:=HO.out;have hnd:ndB L ms cs k=true:=by
           have h9:2^L-1<2*k:=by have:=HN.out;omega
           rw [HBB.out,hown,decide_eq_true h9];rfl
          exact ⟨k-1,rfl,by omega,by rw [HK1.out],by omega,by omega,hid ⟨B,hB,owns_below ho HBW.out⟩,hid (HB.out.trans (HBW.out.mono hz0)),hid (all_down HA.out hnd hlt hkN)⟩
       · obtain ⟨j,hj⟩:∃j,2*k=j:=⟨_,rfl⟩
         have hjN:j+1≤N:=by
          have h8:=HN.out;have h9:2^L%2=0:=by
           have:L≠0:=fun e=>by rw [e] at h8;omega
           obtain ⟨q,rfl⟩:∃q,L=q+1:=⟨L-1,by omega⟩
           rw [Nat.pow_succ];omega
          omega
         obtain ⟨f0,f1⟩:=HF.out j xo;obtain ⟨f2,f3⟩:=HF.out (j+1) xo;have g0:=(HBW.out.cell (p:=⟨g,j*3,none⟩) hgw).trans f0;have g1:=(HBW.out.cell (p:=⟨g,j*3+1,none⟩) hgw).trans f1;have g2:=(HBW.out.cell (p:=⟨g,(j+1)*3,none⟩) hgw).trans f2;have g3:=(HBW.out.cell (p:=⟨g,(j+1)*3+1,none⟩) hgw).trans f3;have ha:=ndB_own (allFrom_iff.1 HA.out j xo xo);have hb:=ndB_own (allFrom_iff.1 HA.out (j+1) xo xo);have hbb:=HBB.out;rw [hj] at hbb;have hnl:decide (2^L-1<j)=false:=by have:=HN.out;simp;omega
         rw [hown,hnl,Bool.true_and,Bool.false_or] at hbb;generalize tlF L ms j=am at g0 ha hbb;generalize tlF L cs j=ac at g1 ha hbb;generalize tlF L ms (j+1)=bm at g2 hb hbb;generalize tlF L cs (j+1)=bc at g3 hb hbb;rw [←joinP_eq ha hb] at hbb;have HBJ:=hid hbb;have HOA:=hid ha;have HOB:=hid hb;have w1:IntKind.i64.wrap (2*(k:Int))=(j:Int):=by rw [show (2:Int)*(k:Int)=(j:Int) by omega];exact IntWalk.i64_in _ xo
         have w2:IntKind.i64.wrap ((j:Int)+1)=(j:Int)+1:=IntWalk.i64_in _ xo;have w3:((j:Int)+1).toNat=j+1:=xo;have HJ:=hid hj;clear hbb ha hb hnl f0 f1 f2 f3;go_upto_region 11 with fail
         clear hj;go_cut [7,8] from 19 to 99 (fun p q wx=>∃b7 b8:Nat,p= .pointer (some ⟨b7,0,none⟩)∧q= .pointer (some ⟨b8,0,none⟩)∧wx.cell? ⟨b7,0,none⟩=some (.int .i64 am)∧wx.cell? ⟨b7,1,none⟩=some (.int .i64 ac)∧wx.cell? ⟨b8,0,none⟩=some (.int .i64 bm)∧wx.cell? ⟨b8,1,none⟩=some (.int .i64 bc)∧
           wx.cell? ⟨wr.heap.size,0,none⟩=some (.int .i64 m)∧wx.cell? ⟨wr.heap.size,1,none⟩=some (.int .i64 c)∧b7<wx.heap.size∧b8<wx.heap.size∧wr.heap.size<wx.heap.size∧Hid (Below wr.heap.size wr wx))
         case first=>
          have hgA:g<wc.heap.size:=xo;have hgB:g<wc.heap.size+1:=xo;have p0:(wc.alloc (.cells #[.int .i64 0,.int .i64 0] 135)).cell? ⟨g,j*3,none⟩=some (.int .i64 am):=xcn;have p1:(wc.alloc (.cells #[.int .i64 0,.int .i64 0] 135)).cell? ⟨g,j*3+1,none⟩=some (.int .i64 ac):=xcn;have p2:(wc.alloc (.cells #[.int .i64 0,.int .i64 0] 135)).cell? ⟨g,(j+1)*3,none⟩=some (.int .i64 bm):=xcn;have p3:(wc.alloc (.cells #[.int .i64 0,.int .i64 0] 135)).cell? ⟨g,(j+1)*3+1,none⟩=some (.int .i64 bc):=xcn;have q0:((wc.alloc (.cells #[.int .i64 0,.int .i64 0] 135)).alloc (.cells #[.int .i64 0,.int .i64 0] 135)).cell? ⟨g,j*3,none⟩=some (.int .i64 am):=xcn;have q1:((wc.alloc (.cells #[.int .i64 0,.int .i64 0] 135)).alloc (.cells #[.int .i64 0,.int .i64 0] 135)).cell? ⟨g,j*3+1,none⟩=some (.int .i64 ac):=xcn;have q2:((wc.alloc (.cells #[.int .i64 0,.int .i64 0] 135)).alloc (.cells #[.int .i64 0,.int .i64 0] 135)).cell? ⟨g,(j+1)*3,none⟩=some (.int .i64 bm):=xcn;have q3:((wc.alloc (.cells #[.int .i64 0,.int .i64 0] 135)).alloc (.cells #[.int .i64 0,.int .i64 0] 135)).cell? ⟨g,(j+1)*3+1,none⟩=some (.int .i64 bc):=xcn;have r2:((wc.alloc (.cells #[.int .i64 0,.int .i64 0] 135)).alloc (.cells #[.int .i64 am,.int .i64 ac] 135)).cell? ⟨g,(j+1)*3,none⟩=some (.int .i64 bm):=xcn;have r3:((wc.alloc (.cells #[.int .i64 0,.int .i64 0] 135)).alloc (.cells #[.int .i64 am,.int .i64 ac] 135)).cell? ⟨g,(j+1)*3+1,none⟩=some (.int .i64 bc):=xcn;have s2:((wc.alloc (.cells #[.int .i64 am,.int .i64 ac] 135)).alloc (.cells #[.int .i64 0,.int .i64 0] 135)).cell? ⟨g,(j+1)*3,none⟩=some (.int .i64 bm):=xcn;have s3:((wc.alloc (.cells #[.int .i64 am,.int .i64 ac] 135)).alloc (.cells #[.int .i64 0,.int .i64 0] 135)).cell? ⟨g,(j+1)*3+1,none⟩=some (.int .i64 bc):=xcn;have hgC:g≤wc.heap.size:=xo;have hgD:g≠wc.heap.size:=xo;have hgE:g≠wc.heap.size+1:=xo;go_region
          all_goals (try go_wp2)
          all_goals go_meet
          case rel=>exact ⟨wr.heap.size+1,wr.heap.size+1+1,rfl,rfl,by (exact xcn),by (exact xcn),by (exact xcn),by (exact xcn),by (exact xcn),by (exact xcn),by (exact xlt),by (exact xlt),by (exact xlt),hid (by have:=HBW.out;(exact xbel))⟩
          case rel=>exact ⟨wr.heap.size+1+1,wr.heap.size+1,rfl,rfl,by (exact xcn),by (exact xcn),by (exact xcn),by (exact xcn),by (exact xcn),by (exact xcn),by (exact xlt),by (exact xlt),by (exact xlt),hid (by have:=HBW.out;(exact xbel))⟩
         case rest =>
          obtain ⟨b7,b8,rfl,rfl,y0,y1,z0,z1,x0,x1,l7,l8,l6,HBX⟩:=hcut;go_upto_region 12 with fail
          obtain ⟨z,hz⟩:∃z,joinP m c am ac bm bc=z:=⟨_,rfl⟩
          rw [hz] at HBJ;obtain ⟨x,hx⟩:∃x,abM am bm bc=x:=⟨_,rfl⟩
          obtain ⟨y,hy⟩:∃y,abC ac bc=y:=⟨_,rfl⟩
          have hoa:=HOA.out;have hob:=HOB.out;simp only [ownB,Bool.and_eq_true,Bool.or_eq_true,decide_eq_true_eq] at hoa hob;obtain ⟨⟨q1,q2⟩,-⟩:=hoa;obtain ⟨⟨q3,q4⟩,-⟩:=hob;have AB:=hid (fun W=>above_ok am ac bm bc q1 q2 q3 q4 W);rw [hx,hy] at AB;have HZ:=hid hz;have HX:=hid hx;have HY:=hid hy;have k0:=cg x0;have k1:=cg x1;have k2:=cg y0;have k3:=cg y1;have k4:=cg z0;have k5:=cg z1;have CA:=hid (fun d os=>kr wc d os (AB.out (Sort.grow (redrawn wc d) os)));clear hz hx hy;go_cut [99] from 19 to 99 (fun b wx=>b= .bool (!z)∧Hid (Below wr.heap.size wr wx))
          case first =>
           by_cases hA:c<ac
           · have eA:decide (c<ac)=true:=decide_eq_true hA;have hzv:z=false:=by have:=fun h=>joinP_iff.1 (HZ.out.trans h);cases z with|true=>exact absurd (this rfl) (by rw [HX.out,HY.out];omega)|false=>rfl
             refine wp_region_quiet_below xk xk ?_;repeat (go_big_quiet_step (exact CA.out _ _))
             refine wpQuiet_nil ?_;intro _ hw';obtain ⟨⟨dq,osq⟩,hw''⟩:=hw';subst hw'';try go_wp2
             go_meet
             case rel=>exact ⟨by rw [hzv];simp<;>omega,hid (HBX.out.trans ((below_regrown wc dq osq).mono xo))⟩
           · have eA : decide (c<ac)=false:=decide_eq_false hA;by_cases hB:c<bc
             · have eB:decide (c<bc)=true:=decide_eq_true hB;have hzv:z=false:=by have:=fun h=>joinP_iff.1 (HZ.out.trans h);cases z with|true=>exact absurd (this rfl) (by rw [HX.out,HY.out];omega)|false=>rfl
               refine wp_region_quiet_below xk xk ?_;repeat (go_big_quiet_step (exact CA.out _ _))
               refine wpQuiet_nil ?_;intro _ hw';obtain ⟨⟨dq,osq⟩,hw''⟩:=hw';subst hw'';try go_wp2
               go_meet
               case rel=>exact ⟨by rw [hzv];simp<;>omega,hid (HBX.out.trans ((below_regrown wc dq osq).mono xo))⟩
             · have eB : decide (c<bc)=false:=decide_eq_false hB;by_cases hC:m=x
               · have HC1:=hid hC;have eC:(m=x)=True:=eq_true hC;clear hC;by_cases hD:c=y
                 · have HD1:=hid hD;have eD:(c=y)=True:=eq_true hD;clear hD;by_cases h1:0<ac
                   · have e1:decide (0<ac)=true:=decide_eq_true h1;by_cases h2:0<bc
                     · have e2:decide (0<bc)=true:=decide_eq_true h2;by_cases h3:bm≤am
                       · have e3:decide (bm≤am)=true:=decide_eq_true h3;have hzv:z=false:=by have:=fun h=>joinP_iff.1 (HZ.out.trans h);cases z with|true=>exact absurd (this rfl) (by rw [HX.out,HY.out];omega)|false=>rfl
                         refine wp_region_quiet_below xk xk ?_;repeat (go_big_quiet_step (exact CA.out _ _))
                         refine wpQuiet_nil ?_;intro _ hw';obtain ⟨⟨dq,osq⟩,hw''⟩:=hw';subst hw'';try go_wp2
                         go_meet
                         case rel=>exact ⟨by rw [hzv];simp<;>omega,hid (HBX.out.trans ((below_regrown wc dq osq).mono xo))⟩
                       · have e3:decide (bm≤am)=false:=decide_eq_false h3;have hzv:z=true:=by rw [←HZ.out];exact joinP_iff.2 (by rw [HX.out,HY.out];have:=HC1.out;have:=HD1.out;omega)
                         refine wp_region_quiet_below xk xk ?_;repeat (go_big_quiet_step (exact CA.out _ _))
                         refine wpQuiet_nil ?_;intro _ hw';obtain ⟨⟨dq,osq⟩,hw''⟩:=hw';subst hw'';try go_wp2
                         go_meet
                         case rel=>exact ⟨by rw [hzv];simp<;>omega,hid (HBX.out.trans ((below_regrown wc dq osq).mono xo))⟩
                     · have e2:decide (0<bc)=false:=decide_eq_false h2;have hzv:z=true:=by rw [←HZ.out];exact joinP_iff.2 (by rw [HX.out,HY.out];have:=HC1.out;have:=HD1.out;omega)
                       refine wp_region_quiet_below xk xk ?_;repeat (go_big_quiet_step (exact CA.out _ _))
                       refine wpQuiet_nil ?_;intro _ hw';obtain ⟨⟨dq,osq⟩,hw''⟩:=hw';subst hw'';try go_wp2
                       go_meet
                       case rel=>exact ⟨by rw [hzv];simp<;>omega,hid (HBX.out.trans ((below_regrown wc dq osq).mono xo))⟩
                   · have e1:decide (0<ac)=false:=decide_eq_false h1;have hzv:z=true:=by rw [←HZ.out];exact joinP_iff.2 (by rw [HX.out,HY.out];have:=HC1.out;have:=HD1.out;omega)
                     refine wp_region_quiet_below xk xk ?_;repeat (go_big_quiet_step (exact CA.out _ _))
                     refine wpQuiet_nil ?_;intro _ hw';obtain ⟨⟨dq,osq⟩,hw''⟩:=hw';subst hw'';try go_wp2
                     go_meet
                     case rel=>exact ⟨by rw [hzv];simp<;>omega,hid (HBX.out.trans ((below_regrown wc dq osq).mono xo))⟩
                 · have hzv:z=false:=by have:=fun h=>joinP_iff.1 (HZ.out.trans h);cases z with|true=>exact absurd (this rfl) (by rw [HX.out,HY.out];omega)|false=>rfl
                   refine wp_region_quiet_below xk xk ?_;repeat (go_big_quiet_step (exact CA.out _ _))
                   refine wpQuiet_nil ?_;intro _ hw';obtain ⟨⟨dq,osq⟩,hw''⟩:=hw';subst hw'';try go_wp2
                   go_meet
                   case rel=>exact ⟨by rw [hzv];simp<;>omega,hid (HBX.out.trans ((below_regrown wc dq osq).mono xo))⟩
               · have hzv:z=false:=by have:=fun h=>joinP_iff.1 (HZ.out.trans h);cases z with|true=>exact absurd (this rfl) (by rw [HX.out,HY.out];omega)|false=>rfl
                 refine wp_region_quiet_below xk xk ?_;repeat (go_big_quiet_step (exact CA.out _ _))
                 refine wpQuiet_nil ?_;intro _ hw';obtain ⟨⟨dq,osq⟩,hw''⟩:=hw';subst hw'';try go_wp2
                 go_meet
                 case rel=>exact ⟨by rw [hzv];simp<;>omega,hid (HBX.out.trans ((below_regrown wc dq osq).mono xo))⟩
          case rest=>
           obtain ⟨rfl,HBY⟩:=hcut;have hWz:=HBY.out.size;cases z with
           | true=>
            go_wp2
            go_roundg (k-1)
            case measure=>omega
            case rel=>
             obtain ⟨B,hB,ho⟩:=HO.out;exact ⟨k-1,rfl,by omega,by rw [HK1.out],by omega,by omega,hid ⟨B,hB,owns_below ho HBY.out⟩,hid (HB.out.trans (HBY.out.mono hz0)),hid (all_down HA.out HBJ.out hlt hkN)⟩
           | false=>
            have he:(if allFrom (ndB L ms cs) 1 N=true then (0:Int) else 8)=8:=by
             rw [allFrom_not (m:=k) xo xo HBJ.out];rfl
            have he:=HRR.out.symm.trans he;subst he;go_wp2
            go_ret
            exact ⟨rfl,HB.out.trans (HBY.out.mono hz0)⟩
    · have hs:c<0∨65536<c∨(0≤c∧c≤65536∧c=0∧m≠0):=by
        simp only [ownB,Bool.and_eq_true,Bool.or_eq_true,decide_eq_true_eq] at hown;omega
      have he:(if allFrom (ndB L ms cs) 1 N=true then (0:Int) else 8)=8:=by
       rw [allFrom_not (m:=k) xo xo (by rw [HBB.out];simp [hown])];rfl
      have he:=HRR.out.symm.trans he;subst he;clear hown;rcases hs with hs|hs | ⟨hs1,hs2,hs3,hs4⟩
      · go_wp2
        go_ret
        exact ⟨rfl,by have:=HB.out;(exact xbel)⟩
      · go_wp2
        go_ret
        exact ⟨rfl,by have:=HB.out;(exact xbel)⟩
      · have e1:(c==0)=true:=by simpa using hs3
        have e2:(m != 0)=true:=by simpa using hs4
        clear hs3 hs4;go_wp2
        go_ret
        exact ⟨rfl,by have:=HB.out;(exact xbel)⟩
  · have hk0:k=0:=xo;have he:(if allFrom (ndB L ms cs) 1 N=true then (0:Int) else 8)=0:=by
     have:=HA.out;rw [hk0] at this;exact if_pos this
    have he:=HRR.out.symm.trans he;subst he;go_wp2
    go_ret
    exact ⟨rfl,HB.out⟩
theorem Check_ix (l:Int) (ma ca:Option Addr) (mc cc:Nat) (ms cs:List Int) (w:World) (hm:IsRow .i64 w ma ms) (hc:IsRow .i64 w ca cs):
    Calls Tryz.prog 59 #[ixV l ma ms.length mc ca cs.length cc] w (Ans w (.int .i64 (ixE l ms cs))):=by
 by_cases h:ixFit l ms cs
 · have e:ixE l ms cs=if allFrom (ndB l.toNat ms cs) 1 (2^l.toNat-1)=true then 0 else 8:=by
     unfold ixE ixMay;rw [decide_eq_true h,Bool.true_and]
   obtain ⟨h1,h2,h3,h4⟩:=h;rw [e,h3,h4];have hp:=Nat.two_pow_pos l.toNat;exact Check_fit l.toNat (2^l.toNat-1) l xo xo xo xo ma ca mc cc ms cs h3 h4 w hm hc
 · have e:ixE l ms cs=8:=by
     unfold ixE ixMay;rw [decide_eq_false h,Bool.false_and];rfl
   rw [e];exact Check_bad l ma ca mc cc ms cs h w
end
section
open Go.RowKit Go.Shelf
attribute [local go_sem] Oper.semAt_some
theorem node_any (l n:Int) (w:World):
    Calls Tryz.prog 144 #[.int .i64 l,.int .i64 n] w fun e w'=>e= .returned (.int .i64 (ndE l n))∧w=w':=by
 by_cases hl:1≤l∧l≤14
 · obtain ⟨h1,h2⟩:=hl;obtain ⟨hp1,hp2⟩:=pow_bdI l h2;by_cases hn:1≤n
   · by_cases hm:n<2^l.toNat
     · have hv:ndE l n=0:=by simp [ndE,h1,h2,hn,hm]
       rw [hv];clear hv;go_enter Tryz.func144,Tryz.ntmps144
       go_wp2_with (go_at_call 122;refine (tree_ok _ h1 h2 _).mono ?_;rintro e w' ⟨rfl,rfl⟩)
       go_ret
       exact ⟨rfl,rfl⟩
     · have hv:ndE l n=2:=by simp [ndE,hm]
       rw [hv];clear hv;go_enter Tryz.func144,Tryz.ntmps144
       go_wp2_with (go_at_call 122;refine (tree_ok _ h1 h2 _).mono ?_;rintro e w' ⟨rfl,rfl⟩)
       go_ret
       exact ⟨rfl,rfl⟩
   · have hv:ndE l n=2:=by simp [ndE,hn]
     rw [hv];clear hv;go_enter Tryz.func144,Tryz.ntmps144
     go_wp2_with (go_at_call 122;refine (tree_ok _ h1 h2 _).mono ?_;rintro e w' ⟨rfl,rfl⟩)
     go_ret
     exact ⟨rfl,rfl⟩
 · have hv:ndE l n=2:=by simp [ndE,hl]
   rw [hv];clear hv;go_enter Tryz.func144,Tryz.ntmps144
   go_wp2_with (go_at_call 122;refine (tree_err _ xo _).mono ?_;rintro e w' ⟨rfl,rfl⟩)
   go_ret
   exact ⟨rfl,rfl⟩
end
section
open Go.RowKit
def IterS (P:Program) (gf:Nat) (lb:Array Value) (xs:List (Array Value)) (Kp Sw:World→World→Prop) (w:World):Prop:=
  ∀ (l:Nat) (J Jx:Nat→World→Prop) (W:World),Below w.heap.size w W→
    (∀k W1 W2,J k W1→Sw W1 W2→J k W2)→(∀k W1 W2,Jx k W1→Sw W1 W2→Jx k W2)→
    (∀k W1,k<xs.length→J k W1→YieldAt Fence.wide 0 P l (xs.getD k #[]) W1 fun e W'=>
     (e= .returned (.bool true)∧J (k+1) W'∧Kp W1 W')∨(e= .returned (.bool false)∧Jx (k+1) W'))→
    J 0 W→
    CallsIn Fence.wide 0 P gf (#[.func (.yield l) #[] #[]]++lb) W fun e W'=>(∃v,e= .returned v)∧(J xs.length W'∨∃k,k≤xs.length∧Jx k W')
theorem wp_range_sw {P:Program} {g:Operand} {ps:Array Tmp} {assign body:Code} {Q:Exit→Act→World→Prop} {a:Act} {w:World}
    {gf:Nat} {lb:Array Value} (hg:a.eval g= .func (.func gf) #[] lb) (eg:∀args w,(callFunc gf args).run P w= .ok (.enter gf args) w)
    {xs:List (Array Value)} {Kp Sw:World→World→Prop} {w0:World} (hseq:IterS P gf lb xs Kp Sw w0) (hSk:∀ {A C:World},Sw A C→KeepsOthers A C) (hb0:Below w0.heap.size w0 w)
    (hKt:∀ {A B C:World},Kp A B→Kp B C→Kp A C) (hKb:∀(W:World) (l:Nat) (o o':Obj),w.heap.size≤l→W.heap[l]? =some o→o.isCells=false→Kp W (W.putObj l o'))
    (hps:∀x ∈ xs,x.size=ps.size)
    (I:Nat→World→Prop) (Ix:Code→World→Prop) (hI:∀k W W',I k W→Calm w.heap.size W W'→I k W') (hIx:∀c W W',Ix c W→Calm w.heap.size W W'→Ix c W') (hIS:∀k W W',I k W→Sw W W'→I k W') (hIxS:∀c W W',Ix c W→Sw W W'→Ix c W') (h0:I 0 w)
    (hround:∀(l k:Nat) (W:World),w.heap.size≤l→k<xs.length→I k W→
      assign.wpIn (inRd l) 0 P (Exit.then (BodyOkW P l body w.heap.size Kp I Ix k W) (fun _ _ _=>False))
        {tmps:=(ps.zip (xs.getD k #[])).foldl (fun t (p,v)=>t.setIfInBounds p v) a.tmps,defers:=[]} W)
    (hdone:∀(D:Nat) (W:World),w.heap.size≤D→I xs.length W→W.heap[D]? =some (.deferred (some []))→Q .normal {a with defers:= {target:= .collected D,args:= #[]}::a.defers} W)
    (hstop:∀(D:Nat) (c:Code) (W:World),w.heap.size≤D→Ix c W→W.heap[D]? =some (.deferred (some []))→c.wp P Q {a with defers:= {target:= .collected D,args:= #[]}::a.defers} W):
    (Code.rangeFunc g ps assign body).wp P Q a w:=by
 refine wpIn_wide (n:=0).1 (wpIn_rangeFunc ?_);intro fn hfn;obtain ⟨rec,hrec⟩:∃rec:LoopState→Option Code→Loop,rec=fun st pe=> {state:=st,pending:=pe,fn,tmps:=a.tmps,params:=ps,assign,body,defers:=w.heap.size}:=⟨_,rfl⟩
 obtain ⟨W1,hW1⟩:∃W1,(w.alloc (.deferred (some []))).alloc (.loop (rec .ready none))=W1:=⟨_,rfl⟩
 have hL1:W1.heap[w.heap.size+1]? =some (.loop (rec .ready none)):=by
  rw [←hW1];have:=World.alloc_heap_new (w.alloc (.deferred (some []))) (.loop (rec .ready none));rwa [World.size_alloc] at this
 have hK1:W1.heap[w.heap.size]? =some (.deferred (some [])):=by
  rw [←hW1];exact (Below.heap_alloc _ _ _ xsi).trans (World.alloc_heap_new w _)
 have hI1:I 0 W1:=by rw [←hW1];exact hI _ _ _ h0 ((Calm.alloc _ (Nat.le_refl _)).trans (Calm.alloc _ xsi))
 have hb1:Below w0.heap.size w0 W1:=by
  rw [←hW1];exact hb0.trans ((((Below.refl _ w).alloc (Nat.le_refl _) _).alloc xsi _).mono hb0.size)
 refine ⟨w.heap.size+1,[{target:= .collected w.heap.size,args:= #[]}],W1,{target:= .fn (.func gf) lb,args:= #[.func (.yield (w.heap.size+1)) #[] #[]]},W1,gf,
   #[.func (.yield (w.heap.size+1)) #[] #[]]++lb,W1,?_,?_,fun _ _=>trivial,?_,fun h=>(by cases h),?_⟩
 · rw [←hW1,hrec];exact run_enterLoop_outer _ _ _ _ _
 · simp only [resolve,hg];simp [go_sem]
 · simp [invoke,go_sem,eg]
 · refine (hseq (w.heap.size+1)
     (fun k W=>I k W∧W.heap[w.heap.size+1]? =some (.loop (rec .ready none))∧W.heap[w.heap.size]? =some (.deferred (some [])))
     (fun _ W=>∃c,Ix c W∧W.heap[w.heap.size+1]? =some (.loop (rec .done (some c)))∧W.heap[w.heap.size]? =some (.deferred (some [])))
     W1 hb1 ?_ ?_ ?_ ⟨hI1,hL1,hK1⟩).mono ?_
   · rintro k A C ⟨h1,h2,h3⟩ hb;exact ⟨hIS _ _ _ h1 hb,(hSk hb).same _ _ h2 (by rfl),(hSk hb).same _ _ h3 (by rfl)⟩
   · rintro k A C ⟨c,h1,h2,h3⟩ hb;exact ⟨c,hIxS _ _ _ h1 hb,(hSk hb).same _ _ h2 (by rfl),(hSk hb).same _ _ h3 (by rfl)⟩
   · -- one round
     rintro k W hkl ⟨hi,hl,hk⟩;have hlt:w.heap.size+1<W.heap.size:=(Array.getElem?_eq_some_iff.1 hl).1;have hsz:(xs.getD k #[]).size=ps.size:=by
      rw [List.getD_eq_getElem?_getD,List.getElem?_eq_getElem hkl];exact hps _ (List.getElem_mem _)
     have hy:=run_yield (P:=P) (args:=xs.getD k #[]) hl (by rw [hrec];exact hsz);rw [hrec] at hy;refine ⟨fn,_,assign,body,hy,roundIn_of_wpIn trivial (wpIn_mono (hround _ k W xo hkl hi) ?_)⟩;intro e a1 Wa hq;cases e with
     | normal=>
      obtain ⟨hks,hkpa,hbody⟩:=hq;have hl0:=hl;have hlt0:=hlt;replace hl:Wa.heap[w.heap.size+1]? =some (.loop (rec .ready none)):=hks.same _ _ hl0 (by rfl);replace hk:Wa.heap[w.heap.size]? =some (.deferred (some [])):=hks.same _ _ hk (by rfl);replace hlt:w.heap.size+1<Wa.heap.size:=(Array.getElem?_eq_some_iff.1 hl).1;refine ⟨_,run_beginRound hl (by rw [hrec]),?_⟩;have hl2:(Wa.putObj (w.heap.size+1) (.loop {rec .ready none with state:= .busy})).heap[w.heap.size+1]? =some (.loop {rec .ready none with state:= .busy}):=World.putObj_heap_same hlt;have hk2:(Wa.putObj (w.heap.size+1) (.loop {rec .ready none with state:= .busy})).heap[w.heap.size]? =some (.deferred (some [])):=(World.putObj_heap_other xo).trans hk;have hw2:Kp Wa (Wa.putObj (w.heap.size+1) (.loop {rec .ready none with state:= .busy})):=hKb _ _ _ _ xo hl rfl;have hi2:Calm w.heap.size Wa (Wa.putObj (w.heap.size+1) (.loop {rec .ready none with state:= .busy})):=Calm.putObj _ xo hl rfl;refine wpIn_mono (hbody _ hi2) ?_;have fin:∀(jump:Option Code) (W3:World),KeepsOthers (Wa.putObj (w.heap.size+1) (.loop {rec .ready none with state:= .busy})) W3→
          (Instr.endRound (w.heap.size+1) jump).run P W3= .ok (.bool jump.isNone) (W3.putObj (w.heap.size+1) (.loop (rec (if jump.isNone then .ready else .done) jump)))∧
          W3.heap[w.heap.size+1]? =some (.loop {rec .ready none with state:= .busy})∧
          (W3.putObj (w.heap.size+1) (.loop (rec (if jump.isNone then .ready else .done) jump))).heap[w.heap.size+1]? =some (.loop (rec (if jump.isNone then .ready else .done) jump))∧
          (W3.putObj (w.heap.size+1) (.loop (rec (if jump.isNone then .ready else .done) jump))).heap[w.heap.size]? =some (.deferred (some [])):=fun jump W3 hk3=>by
       have hl3:=hk3.same _ _ hl2 rfl;have:=run_endRound (P:=P) jump hl3;rw [hrec] at this ⊢;exact ⟨this,by rw [hrec] at hl3;exact hl3,World.putObj_heap_same (Array.getElem?_eq_some_iff.1 hl3).1,(World.putObj_heap_other xo).trans (hk3.same _ _ hk2 rfl)⟩
      rintro e a3 W3 hp;cases e with
      | normal=>
       obtain ⟨hk3,hkp3,hi3⟩:=hp;obtain ⟨hr,hl3,hl4,hk4⟩:=fin none W3 hk3;exact ⟨_,_,hr,.inl ⟨rfl,⟨hI _ _ _ hi3 (Calm.putObj _ xo hl3 rfl),hl4,hk4⟩,hKt (hKt (hKt hkpa hw2) hkp3) (hKb _ _ _ _ xo hl3 rfl)⟩⟩
      | ret=>
       obtain ⟨hk3,hi3⟩:=hp;obtain ⟨hr,hl3,hl4,hk4⟩:=fin (some .ret) W3 hk3;exact ⟨_,_,hr,.inr ⟨rfl,.ret,hIx _ _ _ hi3 (Calm.putObj _ xo hl3 rfl),hl4,hk4⟩⟩
      | exit id=>
       obtain ⟨hk3,hi3⟩:=hp;obtain ⟨hr,hl3,hl4,hk4⟩:=fin (some (.exit id)) W3 hk3;exact ⟨_,_,hr,.inr ⟨rfl,.exit id,hIx _ _ _ hi3 (Calm.putObj _ xo hl3 rfl),hl4,hk4⟩⟩
      | goto t=>
       obtain ⟨hk3,hi3⟩:=hp;obtain ⟨hr,hl3,hl4,hk4⟩:=fin (some (.goto t)) W3 hk3;exact ⟨_,_,hr,.inr ⟨rfl,.goto t,hIx _ _ _ hi3 (Calm.putObj _ xo hl3 rfl),hl4,hk4⟩⟩
      | panic ch=>exact hp.elim
      | outgrown=>exact hp.elim
     | ret=>exact hq.elim
     | exit id=>exact hq.elim
     | goto t=>exact hq.elim
     | panic ch=>exact hq.elim
     | outgrown=>exact hq.elim
   · -- behind the iterator
     rintro e W2 ⟨⟨v,rfl⟩,(⟨hi,hl,hk⟩ | ⟨k,_,c,hi,hl,hk⟩)⟩
     · exact ⟨none,_,by have:=run_endLoop (P:=P) hl (by rw [hrec];simp);rw [hrec] at this;exact this,hdone _ _ (Nat.le_refl _) (hI _ _ _ hi (Calm.putObj _ xo hl rfl)) ((World.putObj_heap_other xo).trans hk)⟩
     · exact ⟨some c,_,by have:=run_endLoop (P:=P) hl (by rw [hrec];simp);rw [hrec] at this;exact this,wpIn_wide.2 (hstop _ c _ (Nat.le_refl _) (hIx _ _ _ hi (Calm.putObj _ xo hl rfl)) ((World.putObj_heap_other xo).trans hk))⟩
theorem wp_range_s {P:Program} {g:Operand} {ps:Array Tmp} {assign body:Code} {Q:Exit→Act→World→Prop} {a:Act} {w:World}
    {gf:Nat} {lb:Array Value} (hg:a.eval g= .func (.func gf) #[] lb) (eg:∀args w,(callFunc gf args).run P w= .ok (.enter gf args) w)
    {xs:List (Array Value)} {Kp Sw:World→World→Prop} {w0:World} (hseq:IterS P gf lb xs Kp Sw w0) (hSk:∀ {A C:World},Sw A C→KeepsOthers A C) (hb0:Below w0.heap.size w0 w)
    (hKr:∀A:World,Kp A A) (hKt:∀ {A B C:World},Kp A B→Kp B C→Kp A C) (hKb:∀(W:World) (l:Nat) (o o':Obj),w.heap.size≤l→W.heap[l]? =some o→o.isCells=false→Kp W (W.putObj l o'))
    (hps:∀x ∈ xs,x.size=ps.size)
    (I:Nat→World→Prop) (Ix:Code→World→Prop) (hI:∀k W W',I k W→Calm w.heap.size W W'→I k W') (hIx:∀c W W',Ix c W→Calm w.heap.size W W'→Ix c W') (hIS:∀k W W',I k W→Sw W W'→I k W') (hIxS:∀c W W',Ix c W→Sw W W'→Ix c W') (h0:I 0 w)
    (hround:∀(l k:Nat) (W:World),w.heap.size≤l→k<xs.length→I k W→
      assign.wpIn (inRd l) 0 P (Exit.then (BodyOk P l body Kp I Ix k W) (fun _ _ _=>False))
        {tmps:=(ps.zip (xs.getD k #[])).foldl (fun t (p,v)=>t.setIfInBounds p v) a.tmps,defers:=[]} W)
    (hdone:∀(D:Nat) (W:World),w.heap.size≤D→I xs.length W→W.heap[D]? =some (.deferred (some []))→Q .normal {a with defers:= {target:= .collected D,args:= #[]}::a.defers} W)
    (hstop:∀(D:Nat) (c:Code) (W:World),w.heap.size≤D→Ix c W→W.heap[D]? =some (.deferred (some []))→c.wp P Q {a with defers:= {target:= .collected D,args:= #[]}::a.defers} W):
    (Code.rangeFunc g ps assign body).wp P Q a w:=by
 refine wp_range_sw hg eg hseq hSk hb0 hKt hKb hps I Ix hI hIx hIS hIxS h0 (fun l k W hl hk hi=> ?_) hdone hstop;refine wpIn_mono (hround l k W hl hk hi) ?_;intro e a1 W1 h;cases e with
 | normal=>
  obtain ⟨rfl,hb⟩:=h;exact ⟨KeepsOthers.refl _,hKr _,fun W2 hc=>hb W2 (hI _ _ _ hi hc)⟩
 | ret=>exact h.elim
 | exit id=>exact h.elim
 | goto t=>exact h.elim
 | panic ch=>exact h.elim
 | outgrown=>exact h.elim
end
section
open Go.RowKit Go.Shelf
attribute [local go_sem] Oper.semAt_some
theorem up_ok (n:Int) (w:World):
    Calls Tryz.prog 145 #[.int .i64 n] w fun e w'=>e= .returned (.func (.func 156) #[] #[.pointer (some ⟨w.heap.size,0,none⟩)])∧w.alloc (.cells #[.int .i64 n] 3)=w':=by
 go_enter Tryz.func145,Tryz.ntmps145
 go_wp2
 go_ret
 exact ⟨rfl,rfl⟩
def upRows (n:Nat):List (Array Value):=List.map (fun x:Nat=> #[.int .i64 x]) (ups n)
theorem upRows_length (n:Nat):(upRows n).length=n.log2+1:=by simp [upRows,ups_length]
theorem upRows_get {n k:Nat} (h1:1≤n) (h:k≤n.log2):(upRows n).getD k #[]= #[.int .i64 ((n/2^k:Nat):Int)]:=by
 have hk:k<(ups n).length:=by rw [ups_length];omega
 have h2:=ups_get h1 h;rw [List.getD_eq_getElem?_getD,List.getElem?_eq_getElem hk] at h2;rw [upRows,List.getD_eq_getElem?_getD,List.getElem?_map,List.getElem?_eq_getElem hk];simp only [Option.map_some,Option.getD_some] at h2 ⊢;rw [h2]
def UpSw (b:Nat) (W W':World):Prop:=∃v:Int,W'=W.setCell ⟨b,0,none⟩ (.int .i64 v)
theorem UpSw.keeps {b:Nat} {A C:World} (h:UpSw b A C):KeepsOthers A C:=by
 obtain ⟨v,rfl⟩:=h;exact KeepsOthers.setCell _ _ _
theorem up1_iter (n:Nat) (h1:1≤n) (h2:n<16384) (b:Nat) (w:World) (hb:w.cell? ⟨b,0,none⟩=some (.int .i64 n)) (hf:w.frozen? ⟨b,0,none⟩=false):
    IterS Tryz.prog 156 #[.pointer (some ⟨b,0,none⟩)] (upRows n) (fun W W'=>W'.heap[b]? =W.heap[b]?) (UpSw b) w:=by
 intro l J Jx W hW hJ hJx hY h0;have hbl:b<w.heap.size:=World.block_lt_of_cell? w _ hb;have hcW:W.cell? ⟨b,0,none⟩=some (.int .i64 n):=(hW.cell (p:=⟨b,0,none⟩) hbl).trans hb;have hfW:W.frozen? ⟨b,0,none⟩=false:=(hW.frozen (p:=⟨b,0,none⟩) hbl).trans hf;have HY:=hid hY;have HJ:=hid hJ;clear hY hJ hJx hb hf;refine callsIn_of_wp Tryz.func156 rfl trivial ?_ rfl;simp only [Tryz.ntmps156,List.size_toArray,List.length_cons,List.length_nil,Nat.reduceAdd,Nat.reduceSub,Array.replicate_succ,Array.replicate_zero,List.push_toArray,List.append_toArray,List.nil_append,List.cons_append];gi_wp2
 gi_loopg [] (n.log2+1) (fun g wr=>∃k:Nat,k+g=n.log2+1∧J k wr∧wr.cell? ⟨b,0,none⟩=some (.int .i64 ((n/2^k:Nat):Int))∧wr.frozen? ⟨b,0,none⟩=false)
 case atStart=>exact ⟨0,by omega,h0,by simpa using hcW,hfW⟩
 case round=>
  obtain ⟨k,hk,hJk,hc,hfz⟩:=hrel;obtain ⟨x,hx⟩:∃x,n/2^k=x:=⟨_,rfl⟩
  have hxn:x≤n:=by rw [←hx];exact Nat.div_le_self _ _
  have hhalf:n/2^(k+1)=x/2:=by rw [←half_pow,hx]
  by_cases hlt:k≤n.log2
  · have hpos:1≤x:=by rw [←hx];exact (half_pos h1).1 hlt
    obtain ⟨fn,tmps,assign,body,hy,hR⟩:=HY.out k wr (by rw [upRows_length];omega) hJk;rw [upRows_get h1 hlt] at hy;rw [hx] at hc hy;have HH:=hid hhalf;have HK:=hid hk;clear hx hhalf hJk hcW hfW h0 hk;gi_wp2
    refine ⟨rfl,hR.mono ?_⟩;rintro e W3 (⟨rfl,hJ3,hk3⟩ | ⟨rfl,hJx3⟩)
    · have hc3:W3.cell? ⟨b,0,none⟩=some (.int .i64 x):=by rw [World.cell?_of_block (w:=wr) hk3];exact hc
      have hf3:W3.frozen? ⟨b,0,none⟩=false:=by rw [World.frozen?_of_block (w:=wr) hk3];exact hfz
      have HJ3:=hid hJ3;clear hk3 hc hfz hJ3;gi_wp2
      gi_roundg (gk-1)
      case measure=>have:=HK.out;omega
      case rel=>
       refine ⟨k+1,by have:=HK.out;omega,HJ.out _ _ _ HJ3.out ⟨_,rfl⟩,?_,by rw [World.frozen?_setCell];exact hf3⟩;rw [World.cell?_setCell_same _ _ _ hc3,HH.out];rfl
    · gi_wp2
      refine bodyPost_end (results_none rfl _ _ _) rfl ⟨⟨_,rfl⟩,.inr ⟨k+1,by rw [upRows_length];omega,hJx3⟩⟩
  · have hz:x=0:=by
      have:=mt (half_pos (n:=n) (k:=k) h1).2 hlt;rw [hx] at this;omega
    have hc0:wr.cell? ⟨b,0,none⟩=some (.int .i64 0):=by rw [hx,hz] at hc;exact hc
    subst hz;clear hc;have hkk:k=n.log2+1:=xo;have HJ4:=hid hJk;clear hx hhalf hJk hcW hfW h0 hk;gi_wp2
    refine ⟨fun f h=>(by cases h),?_⟩;gi_wp2
    refine bodyPost_end (results_none rfl _ _ _) rfl ⟨⟨_,rfl⟩,.inl ?_⟩;rw [upRows_length,←hkk];exact HJ4.out
def Gives (w:World) (v:Value) (e:Ending) (w':World):Prop:=e= .returned v∧Below w.heap.size w w'
theorem Leaf_any (l k:Int) (w:World):
    Calls Tryz.prog 91 #[.int .i64 l,.int .i64 k] w fun e w'=>e= .returned (.tuple #[.int .i64 (lfR l k),.int .i64 (lfE l k)])∧w=w':=by
 by_cases hl:1≤l∧l≤14
 · obtain ⟨h1,h2⟩:=hl;obtain ⟨hp1,hp2⟩:=pow_bd (l.toNat-1) xo;by_cases hc:0≤k∧k<2^(l.toNat-1)
   · obtain ⟨hk,hm⟩:=hc;have hv:lfE l k=0:=by simp only [lfE,h1,h2,hk,hm,and_self,if_true]
     have hr:lfR l k=2^(l.toNat-1)+k:=by rw [lfR,hv];rfl
     rw [hv,hr];clear hv hr;go_enter Tryz.func91,Tryz.ntmps91
     go_wp2_with (go_at_call 122;refine (tree_ok _ h1 h2 _).mono ?_;rintro e w' ⟨rfl,rfl⟩)
     go_ret2
     exact ⟨rfl,rfl⟩
   · have hv:lfE l k=2:=by simp only [lfE,hc,and_false,if_false]
     have hr:lfR l k=0:=by rw [lfR,hv];rfl
     rw [hv,hr];clear hv hr;have hsp:k<0∨(0≤k∧2^(l.toNat-1)≤k):=xo;clear hc;rcases hsp with hk | ⟨hk,hm⟩
     all_goals
       go_enter Tryz.func91,Tryz.ntmps91
       go_wp2_with (go_at_call 122;refine (tree_ok _ h1 h2 _).mono ?_;rintro e w' ⟨rfl,rfl⟩)
       go_ret2
       exact ⟨rfl,rfl⟩
 · have hv:lfE l k=2:=by simp only [lfE,hl,false_and,if_false]
   have hr:lfR l k=0:=by rw [lfR,hv];rfl
   rw [hv,hr];clear hv hr;go_enter Tryz.func91,Tryz.ntmps91
   go_wp2_with (go_at_call 122;refine (tree_err _ xo _).mono ?_;rintro e w' ⟨rfl,rfl⟩)
   go_ret2
   exact ⟨rfl,rfl⟩
structure DepI (n B:Nat) (w:World) (k:Nat) (W:World):Prop where
 box:W.cell? ⟨B,0,none⟩=some (.int .i64 ((k:Int)-1))
 fz:W.frozen? ⟨B,0,none⟩=false
 bel:Below B w W
theorem rows_ps {n:Nat}:∀y ∈ upRows n,y.size=1:=by
 intro y hy;simp only [upRows,List.mem_map] at hy;obtain ⟨k,_,rfl⟩:=hy;rfl
theorem Depth_any (l n:Int) (w:World):
    Calls Tryz.prog 123 #[.int .i64 l,.int .i64 n] w (Gives w (.tuple #[.int .i64 (dpR l n),.int .i64 (ndE l n)])):=by
 by_cases h:ndE l n=0
 · obtain ⟨h1,h2,h3,h4⟩:=ndE_zero h;obtain ⟨N,rfl⟩:=Int.eq_ofNat_of_zero_le (show 0≤n by omega);have hb:=(pow_bdI l h2).2;have hr:dpR l N=(N.log2:Nat):=by rw [dpR,h];rfl
   have hw:=fun w=>node_any l N w
   rw [h] at hw;rw [h,hr];have hlog:N.log2<14:=log2_lt_of xo xo;have HW:=hid hw;have hN:N<16384:=xo;have hN1:1≤N:=xo;clear hw h hr h4 hb h3 h1 h2;refine calls_of_wp_m Tryz.func123 rfl ?_;simp only [Tryz.ntmps123,List.size_toArray,List.length_cons,List.length_nil,Nat.reduceAdd,Nat.reduceSub,Array.replicate_succ,Array.replicate_zero,List.push_toArray,List.append_toArray,List.nil_append,List.cons_append];go_wp2_with fail
   refine (HW.out _).mono ?_;rintro e w' ⟨rfl,rfl⟩;go_wp2_with fail
   refine (up_ok N _).mono ?_;rintro e w2 ⟨rfl,rfl⟩;go_wp2
   refine wp_range_s (xs:=upRows N) (Kp:=fun W W'=>W'.heap[w.heap.size+1]? =W.heap[w.heap.size+1]?) (Sw:=UpSw (w.heap.size+1)) rfl (enters_of Tryz.func156 xk rfl)
     (up1_iter N hN1 hN (w.heap.size+1) _ ?cbox ?cfz) UpSw.keeps br (fun _=>rfl) (fun h k=>k.trans h) ?kb rows_ps
     (DepI N w.heap.size w) (fun _ _=>False) ?hI (fun _ _ _ h _=>h) ?hIS (fun _ _ _ h _=>h) ?h0 ?round ?done (fun _ _ _ _ h _=>h.elim)
   case cbox=>(exact xcw)
   case cfz=>(exact xcw)
   case kb=>
    intro W l o o' hl _ _;simp at hl;exact World.putObj_heap_other xo
   case hI=>
    intro k W W' hi hc;exact ⟨hc.cell hi.box,hc.frozen hi.box hi.fz,hc.below (by simp;omega) hi.bel⟩
   case hIS=>
    rintro k W W' hi ⟨v,rfl⟩;exact ⟨by rw [World.cell?_setCell_other _ _ _ _ (by intro e;simp at e)];exact hi.box,by rw [World.frozen?_setCell];exact hi.fz,hi.bel.setCell (by show w.heap.size≤w.heap.size+1;omega) _⟩
   case h0=>
    exact ⟨by (exact xcw),by (exact xcw),((Below.refl _ w).alloc (Nat.le_refl _) _).alloc xsi _⟩
   case round=>
    intro l k W hl hk hi;rw [upRows_length] at hk;rw [upRows_get hN1 xo];gi_wp2
    refine ⟨rfl,?_⟩;intro W2 hi2;obtain ⟨hbox,hfz,hbel⟩:=hi2;have HB:=hid hbel;clear hbel hi;gi_wp2
    refine ⟨KeepsOthers.setCell _ _ _,Below.heap_setCell _ _ _ _ (by show w.heap.size+1≠w.heap.size;omega),⟨?_,by rw [World.frozen?_setCell];exact hfz,HB.out.setCell (Nat.le_refl _) _⟩⟩;rw [World.cell?_setCell_same _ _ _ hbox];congr 2
    omega
   case done=>
    intro D W hD hi hK;obtain ⟨hbox,hfz,hbel⟩:=hi;rw [upRows_length] at hbox;simp at hD;have hcalm:=Calm.putObj (B:=w.heap.size) (.deferred none) xo hK rfl;go_wp2
    refine postM_one hK (results_tmp2 rfl _ _ _) ⟨?_,hcalm.below (Nat.le_refl _) hbel⟩;simp
 · have h2:=ndE_no h;have hr:dpR l n=0:=by rw [dpR,h2];rfl
   rw [hr,h2];have hw:=fun w=>node_any l n w
   rw [h2] at hw;have HW:=hid hw;clear h h2 hw hr;refine calls_of_wp_m Tryz.func123 rfl ?_;simp only [Tryz.ntmps123,List.size_toArray,List.length_cons,List.length_nil,Nat.reduceAdd,Nat.reduceSub,Array.replicate_succ,Array.replicate_zero,List.push_toArray,List.append_toArray,List.nil_append,List.cons_append];go_wp2_with fail
   refine (HW.out _).mono ?_;rintro e w' ⟨rfl,rfl⟩;go_wp2
   exact postM_none (results_tmp2 rfl _ _ _) ⟨rfl,Below.refl _ _⟩
end
section
open Go.RowKit Go.Shelf
theorem wrap64_in {x:Int} (h0: -9223372036854775808≤x) (h1:x<9223372036854775808):wrap64 x=x:=by unfold wrap64;omega
theorem wraps_i64' (n:Int) (h₀:0≤n) (h₁:n<2^63):IntKind.i64.wrap n=n:=by rw [IntKind.wrap_i64];omega
theorem low_node {u f i:Nat} (hu:u≤13) (hf:f≤13) (huf:u+f≤13) (hi:i<2^(u+f)):
    bits BinOp.or IntKind.i64 (wrap64 (2^f)) (bits BinOp.and IntKind.i64 (2^(u+f)+(i:Int)) (wrap64 (wrap64 (2^f)-1)))=((2^f+i%2^f:Nat):Int):=by
 obtain ⟨a1,a2⟩:=pow_bd f xo;obtain ⟨b1,b2⟩:=pow_bd (u+f) xo;have hc:((2^(u+f):Nat):Int)=2^(u+f):=by push_cast;rfl
 have hc2:((2^f:Nat):Int)=2^f:=by push_cast;rfl
 rw [wrap64_in (x:=2^f) xo xo,wrap64_in (x:=2^f-1) xo xo];have hiI:(i:Int)<2^(u+f):=by rw [←hc];exact_mod_cast hi
 have h63:(2:Int)^63=9223372036854775808:=by decide
 rw [bits_mask .i64 63 xdd wraps_i64' f xo _ xo (by rw [h63];omega)];have e:(2^(u+f)+(i:Int))%2^f=((i%2^f:Nat):Int):=by
  rw [←hc,←hc2,←Int.natCast_add,←Int.natCast_emod,Nat.pow_add,Nat.mul_add_mod_self_right]
 have hr:i%2^f<2^f:=Nat.mod_lt _ (Nat.two_pow_pos f);rw [e,bits_join .i64 63 xdd wraps_i64' f _ _ xo xsi xo xo (by rw [←hc2];omega) xo];rw [Int.natCast_add,hc2]
theorem low_num (a X q Y Z:Nat) (hX:1≤X) (hX2:X≤16384) (hY:1≤Y) (hY2:Y≤16384) (hq:q≤16384) (hZ:q*(Y-1)=Z) (hV:a+(X-1+Z)≤16384):
    wrap64 ((a:Int)+wrap64 (wrap64 (wrap64 (X:Int)-1)+wrap64 (wrap64 (((X+q:Nat):Int)-wrap64 (X:Int))*wrap64 (wrap64 (Y:Int)-1))))=((a+(X-1+Z):Nat):Int):=by
 have h1:(q:Int)*((Y:Int)-1)=(Z:Int):=by rw [←hZ,Int.natCast_mul,Int.natCast_sub hY];rfl
 rw [wrap64_in (x:=(X:Int)) xo xo,wrap64_in (x:=(Y:Int)) xo xo,wrap64_in (x:=(X:Int)-1) xo xo,wrap64_in (x:=(Y:Int)-1) xo xo];rw [show ((X+q:Nat):Int)-(X:Int)=(q:Int) by omega,wrap64_in (x:=(q:Int)) xo xo,h1,wrap64_in (x:=(Z:Int)) xo xo];rw [wrap64_in (x:=(X:Int)-1+(Z:Int)) xo xo,wrap64_in xo xo];omega
theorem low_at {a u f i v:Nat} (hu:u≤13) (hf:f≤13) (huf:u+f≤13) (hv:v≤13) (hi:i<2^(u+f)) (hV:a+(2^u-1+i/2^f*(2^v-1))≤16384):
    wrap64 ((a:Int)+wrap64 (wrap64 (wrap64 (2^u)-1)+wrap64 (wrap64 ((2^(u+f)+(i:Int))/2^f-wrap64 (2^u))*wrap64 (wrap64 (2^v)-1))))=((a+(2^u-1+i/2^f*(2^v-1)):Nat):Int):=by
 have hcu:((2^u:Nat):Int)=2^u:=by push_cast;rfl
 have hcv:((2^v:Nat):Int)=2^v:=by push_cast;rfl
 have hcf:((2^f:Nat):Int)=2^f:=by push_cast;rfl
 have hcs:((2^(u+f):Nat):Int)=2^(u+f):=by push_cast;rfl
 have e:(2^(u+f)+(i:Int))/2^f=((2^u+i/2^f:Nat):Int):=by
  rw [←hcs,←hcf,←Int.natCast_add,←Int.natCast_ediv,Nat.pow_add,Nat.add_comm,Nat.add_mul_div_right _ _ (Nat.two_pow_pos f),Nat.add_comm]
 have hq:i/2^f≤16384:=Nat.le_trans (Nat.div_le_self _ _) (Nat.le_trans (Nat.le_of_lt hi) (Nat.pow_le_pow_right xo (by omega:u+f≤14)));rw [e,←hcu,←hcv];exact low_num a (2^u) (i/2^f) (2^v) _ (Nat.two_pow_pos u) (Nat.pow_le_pow_right xo (by omega:u≤14)) (Nat.two_pow_pos v) (Nat.pow_le_pow_right xo (by omega:v≤14)) hq rfl hV
def vpR (l n:Int):Int:=if ndE l n=0 then (vpos l.toNat n.toNat:Nat) else 0
theorem Place_any (l n:Int) (w:World):
    Calls Tryz.prog 92 #[.int .i64 l,.int .i64 n] w (Gives w (.tuple #[.int .i64 (vpR l n),.int .i64 (ndE l n)])):=by
 by_cases h:ndE l n=0
 · obtain ⟨h1,h2,h3,h4⟩:=ndE_zero h;have hp:=(pow_bdI l h2).2;obtain ⟨N,rfl⟩:=Int.eq_ofNat_of_zero_le (show 0≤n by omega);obtain ⟨L,rfl⟩:=Int.eq_ofNat_of_zero_le (show 0≤l by omega);have hN:N<2^L:=by
    have e:((2^L:Nat):Int)=2^L:=by push_cast;rfl
    simp only [Int.toNat_natCast] at h4;omega
   have hr:vpR L N=(vpos L N:Nat):=by rw [vpR,h];rfl
   have hd:dpR L N=(N.log2:Nat):=by rw [dpR,h];rfl
   have hD:=fun w=>Depth_any L N w
   rw [hd,h] at hD;rw [hr,h];obtain ⟨hv,-⟩:=vpos_lay (L:=L) (n:=N) xo xo hN;have hv2:vpos L N≤16384:=by
    have:2^L≤2^14:=Nat.pow_le_pow_right xo xo;omega
   have hdL:N.log2<L:=log2_lt_of xo hN;obtain ⟨k1,k2⟩:=node_dj (n:=N) xo;have hvp:pos L N.log2 (N-2^N.log2)=vpos L N:=rfl;have hNN:N=2^N.log2+(N-2^N.log2):=xo;generalize vpos L N=V at *;generalize N-2^N.log2=J at *;generalize hdd:N.log2=d at *;have HD:=hid hD;have HV:=hid hvp;have HN:=hid hNN;have HJ:=hid k2;clear hD h hp h4 hr hd hv hN hvp hNN hdd k1 k2;go_enter Tryz.func92,Tryz.ntmps92
   go_wp2
   go_step3
   go_wp2_with fail
   refine (HD.out _).mono ?_;rintro e w1 ⟨rfl,hb1⟩;have HB:=hid hb1;clear hb1;go_wp2
   go_step3
   go_wp2
   go_loopg [0,1,4,6] L (fun g x y z t wr=>∃(M e i a:Nat),M=g∧1≤M∧M≤14∧e<M∧Hid (i<2^e)∧x= .int .i64 M∧y= .int .i64 ((2^e+i:Nat):Int)∧t= .int .i64 e∧z= .int .i64 a∧Hid (a+pos M e i=V)∧Hid (Below w.heap.size w wr))
   case atStart=>exact ⟨L,d,J,0,rfl,by omega,by omega,hdL,HJ,rfl,by rw [←HN.out],rfl,rfl,hid (by rw [HV.out];omega),HB⟩
   case round=>
    obtain ⟨M,e,i,a,rfl,m1,m2,m3,HI,rfl,rfl,rfl,rfl,HP,HB⟩:=hrel;by_cases hM:M=1
    · subst hM;have hpv:=HP.out;rw [pos_one] at hpv;obtain rfl:a=V:=xo;go_wp2
      try rw [Exit.noGoto_ret]
      go_ret2
      exact ⟨rfl,HB.out⟩
    · have hM2:2≤M:=xo;obtain ⟨u,hu⟩:∃u:Nat,(M:Int)/2=u:=⟨M/2,by omega⟩
      obtain ⟨v,hv⟩:∃v:Nat,((M:Int)+1)/2=v:=⟨(M+1)/2,by omega⟩
      have hS:=fun w=>Split_ok M xo xo w
      rw [hu,hv] at hS;have HS:=hid hS;have hu2:M/2=u:=xo;have hv2:M-M/2=v:=xo;have hu7:1≤u∧u≤7:=xo;have hv7:1≤v∧v≤7:=xo;obtain ⟨u1,u7⟩:=hu7;obtain ⟨v1,v7⟩:=hv7;have huv:u<M∧v<M:=xo;obtain ⟨huM,hvM⟩:=huv;clear hS hu hv;by_cases hlt:e<u
      · have hpu:=pos_up i hM2 (by rw [hu2];exact hlt);rw [hu2] at hpu;have HP2:=hid (show a+pos u e i=V by rw [←hpu];exact HP.out);clear hpu hu2 hv2 hM;go_wp2_with fail
        refine (HS.out _).mono ?_;rintro e' w' ⟨rfl,rfl⟩;go_wp2
        go_roundg u
        case measure=>omega
        case rel=>exact ⟨u,e,i,a,rfl,by omega,by omega,hlt,HI,rfl,rfl,rfl,rfl,HP2,HB⟩
      · obtain ⟨f,hf⟩:∃f,e=u+f:=⟨e-u,by omega⟩
        have hpl:=pos_low i hM2 (by rw [hu2];exact hlt);have hv3:M-u=v:=xo;have hef:e-u=f:=xo;rw [hu2,hv3,hef] at hpl;obtain ⟨q,hq⟩:∃q,i/2^f=q:=⟨_,rfl⟩
        obtain ⟨r,hr⟩:∃r,i%2^f=r:=⟨_,rfl⟩
        rw [hq,hr] at hpl;go_wp2_with fail
        refine (HS.out _).mono ?_;rintro e' w' ⟨rfl,rfl⟩;go_wp2
        go_quiet (fail)
        go_wp2
        go_quiet (fail)
        go_wp2
        go_roundg v
        case measure=>omega
        case rel=>
         have hi:=HI.out;rw [hf] at hi;have hpv:=HP.out;rw [hpl] at hpv;refine ⟨v,f,r,a+(2^u-1+q*(2^v-1)),rfl,by omega,by omega,by omega,hid (by rw [←hr];exact Nat.mod_lt _ (Nat.two_pow_pos f)),rfl,?_,?_,?_,hid (by rw [←hpv];omega),hid (below_drewN (below_drewN HB.out _) _)⟩
         · rw [←hr,←low_node xo xo xo hi]
         · congr 1;omega
         · rw [←hq,←low_at xo xo xo xo hi (by rw [hq];omega)]
 · have h2:=ndE_no h;have hr:vpR l n=0:=by rw [vpR,h2];rfl
   have hd:dpR l n=0:=by rw [dpR,h2];rfl
   have hD:=fun w=>Depth_any l n w
   rw [hd,h2] at hD;rw [hr,h2];have HD:=hid hD;clear hD h h2 hr hd;go_enter Tryz.func92,Tryz.ntmps92
   go_wp2
   go_step3
   go_wp2_with fail
   refine (HD.out _).mono ?_;rintro e w1 ⟨rfl,hb1⟩;go_wp2
   try rw [Exit.noGoto_ret]
   go_ret2
   exact ⟨rfl,hb1⟩
end
section
open Go.RowKit
theorem Home1_ok (m c s key:Int) (b:Nat) (w:World) (hb:w.cell? ⟨b,0,none⟩=some (.int .i64 key)):
    Calls Tryz.prog 88 #[.int .i64 m,.int .i64 c,.int .i64 s,.pointer (some ⟨b,0,none⟩)] w fun e w'=>e= .returned (.bool (decide (srv key m c)))∧w=w':=by
 by_cases h:0<c
 · have e:decide (srv key m c)=decide (key≤m):=by simp [srv,h]
   rw [e];go_enter Tryz.func88,Tryz.ntmps88
   go_wp2
   go_ret
   exact ⟨by simp,rfl⟩
 · have e:decide (srv key m c)=false:=by simp [srv,h]
   rw [e];go_enter Tryz.func88,Tryz.ntmps88
   go_wp2
   go_ret
   exact ⟨by simp,rfl⟩
theorem Nth1_ok (m c s k:Int) (b:Nat) (w:World) (hb:w.cell? ⟨b,0,none⟩=some (.int .i64 k)) (h0:0≤k-s) (h1:k-s≤9223372036854775807):
    Calls Tryz.prog 61 #[.int .i64 m,.int .i64 c,.int .i64 s,.pointer (some ⟨b,0,none⟩)] w fun e w'=>e= .returned (.bool (decide (k-s<c)))∧w=w':=by
 go_enter Tryz.func61,Tryz.ntmps61
 go_wp2
 go_ret
 exact ⟨rfl,rfl⟩
def WayHome (l:Int) (ma ca:Option Addr) (mc cc N bk F D:Nat) (P:Nat→Nat→Int→Prop) (w:World) (d:Nat) (a':Act) (w':World):Prop:=
  ∃(nn:Nat) (s:Int),(∃u:Nat→Value,a'= {tmps:= #[ixV l ma N mc ca N cc,(.func (.func 88) #[] #[.pointer (some ⟨bk,0,none⟩)]),.pointer (some ⟨w.heap.size,0,none⟩),u 3,u 4,.int .i64 s,.int .i64 nn,.int .i64 F,u 8,u 9,u 10,u 11,u 12,u 13,u 14,u 15,u 16,u 17,u 18,u 19,u 20,u 21,u 22,u 23,u 24,u 25,u 26,u 27,u 28,u 29,u 30,u 31,u 32,u 33,u 34,u 35,u 36,u 37,u 38,u 39,u 40,u 41,u 42,u 43,u 44,u 45,u 46,u 47,u 48,u 49,u 50,u 51,u 52,u 53,u 54,u 55,u 56],defers:=[]})∧w'.cell? ⟨w.heap.size,0,none⟩=some (.int .i64 l)∧w'.cell? ⟨w.heap.size,1,none⟩=some (.slice ma N mc)∧w'.cell? ⟨w.heap.size,2,none⟩=some (.slice ca N cc)∧w.heap.size<w'.heap.size∧Hid (Below w.heap.size w w')∧d≤D∧2^D≤nn*2^d∧(nn+1)*2^d≤2*2^D∧Hid (P d nn s)
theorem wayHome_ok (L N D F:Nat) (l:Int) (hl:l=L) (h1:1≤L) (h2:L≤14) (hN:N+1=2^L) (hD:D+1=L) (hF:2^D=F) (ma ca:Option Addr) (mc cc:Nat) (ms cs:List Int) (hlm:ms.length=N) (hlc:cs.length=N) (w:World)
    (hm:IsRow .i64 w ma ms) (hc:IsRow .i64 w ca cs) (key:Int) (bk:Nat) (hk:w.cell? ⟨bk,0,none⟩=some (.int .i64 key)) (P:Nat→Nat→Int→Prop) (T:Int→Int→Int→Bool) (hP:P D 1 0)
    (hst:∀d n s,P (d+1) n s→(0≤s∧s≤65536∧0≤s+tlF L cs (2*n)∧s+tlF L cs (2*n)≤65536)∧if T (tlF L ms (2*n)) (tlF L cs (2*n)) s=true then P d (2*n) s else P d (2*n+1) (s+tlF L cs (2*n)))
    (hcl:∀d n s W,P (d+1) n s→W.cell? ⟨bk,0,none⟩=some (.int .i64 key)→Calls Tryz.prog 88 #[.int .i64 (tlF L ms (2*n)),.int .i64 (tlF L cs (2*n)),.int .i64 s,.pointer (some ⟨bk,0,none⟩)] W fun e w'=>e= .returned (.bool (T (tlF L ms (2*n)) (tlF L cs (2*n)) s))∧W=w'):
    Calls Tryz.prog 60 #[ixV l ma N mc ca N cc,.func (.func 88) #[] #[.pointer (some ⟨bk,0,none⟩)]] w fun e w'=>∃(n:Nat) (s:Int),e= .returned (.tuple #[.int .i64 ((n:Int)-F),.int .i64 s])∧P 0 n s∧F≤n∧n<2*F∧Below w.heap.size w w':=by
 have e0:lfE l 0=0:=by
  have hp:=pow_bd (l.toNat-1) xo;have h:1≤l∧l≤14:=xo;unfold lfE;rw [if_pos ⟨h,Int.le_refl 0,by omega⟩]
 have e1:lfR l 0=F:=by
  unfold lfR;rw [if_pos e0,show l.toNat-1=D by omega,←hF];push_cast
  omega
 have hFb:F≤8192:=by rw [←hF];exact Nat.pow_le_pow_right xo (by omega:D≤13)
 have hF0:0<F:=by rw [←hF];exact Nat.two_pow_pos D
 have LF:=hid (Leaf_any l 0);rw [e0,e1] at LF;have PL:=hid (Place_any l);have HL:=hid hl;have HST:=hid hst;have HCL:=hid hcl;have HP:=hid hP;have HM:=hid hm;have HC:=hid hc;have HLM:=hid hlm;have HLC:=hid hlc;clear e0 e1 hl hst hcl hP hm hc hlm hlc;go_enter Tryz.func60,Tryz.ntmps60
 go_wp2
 refine wp_scope_loop 0 (WayHome l ma ca mc cc N bk F D P w) rfl ?_ ?_
 · rintro d a wo ⟨nn,s,⟨u,rfl⟩,c0,c1,c2,hz,HB,hd,hb1,hb2,HPd⟩ H hH;rw [hF] at hb1 hb2;cases d with
   | zero=>
    rw [Nat.pow_zero,Nat.mul_one] at hb1 hb2;have hwn:IntKind.i64.wrap ((nn:Int)-(F:Int))=(nn:Int)-(F:Int):=IntWalk.i64_in _ xo;go_wp2
    simp only [Exit.jump];go_ret2
    exact ⟨nn,s,rfl,HPd.out,by omega,by omega,HB.out⟩
   | succ d=>
    have hR:=Nat.two_pow_pos d;have hnF:nn<F:=by
     have h9:(nn+1)*2^(d+1)=(nn+1)*2^d*2:=by rw [Nat.pow_succ,Nat.mul_assoc]
     have h8:(nn+1)*1≤(nn+1)*2^d:=Nat.mul_le_mul_left _ hR;omega
    have hn1:1≤nn:=by
     rcases Nat.eq_zero_or_pos nn with e|e
     · rw [e,Nat.zero_mul] at hb1;omega
     · exact e
    have hll:=HL.out;have hnd:ndE l (2*(nn:Int))=0:=by
     refine ndE_ok xo xo xo ?_;have:(2:Int)^l.toNat=((2^L:Nat):Int):=by rw [show l.toNat=L by omega];push_cast;rfl
     have h8:2^L=2*F:=by rw [←hD,Nat.pow_succ,hF];omega
     rw [this];omega
    obtain ⟨p,hp⟩:∃p:Nat,vpos L (2*nn)=p:=⟨_,rfl⟩
    have h2n:2*nn<2^L:=by rw [←hD,Nat.pow_succ,hF];omega
    have hpN:p<N:=by have:=(vpos_lay h1 (by omega:1≤2*nn) h2n).1;omega
    have hvp:vpR l (2*(nn:Int))=(p:Int):=by
     unfold vpR;rw [if_pos hnd,←hp,show l.toNat=L by omega,show (2*(nn:Int)).toNat=2*nn by omega]
    have P2:=hid (Place_any l (2*(nn:Int)));rw [hvp,hnd] at P2;have hpc:(pcF L (2*nn)).toNat=p:=by rw [pcF,if_neg xo,plc_get h1 xo h2n,hp];rfl
    obtain ⟨b1,o1,x1,rfl,hx1,d1,-⟩:=(HM.out.below HB.out).get (i:=p) (by have:=HLM.out;omega);obtain ⟨b2,o2,x2,rfl,hx2,d2,-⟩:=(HC.out.below HB.out).get (i:=p) (by have:=HLC.out;omega);have hf1:tlF L ms (2*nn)=x1:=by rw [tlF,if_neg xo,hpc];exact hx1.out
    have hf2:tlF L cs (2*nn)=x2:=by rw [tlF,if_neg xo,hpc];exact hx2.out
    have hs:=HST.out d nn s HPd.out;have hc1:=fun W=>HCL.out d nn s W HPd.out
    rw [hf1,hf2] at hs hc1;obtain ⟨⟨hs0,hs1,hs2,hs3⟩,hs⟩:=hs;have HS:=hid hs;have HC1:=hid hc1;have e1:nn*2^(d+1)=2*nn*2^d:=by rw [Nat.pow_succ,Nat.mul_comm 2 nn,Nat.mul_assoc,Nat.mul_comm 2]
    have e2:(nn+1)*2^(d+1)=(2*nn+1+1)*2^d:=by rw [Nat.pow_succ,show 2*nn+1+1=(nn+1)*2 by omega,Nat.mul_assoc,Nat.mul_comm 2]
    have e3:(2*nn+1)*2^d=2*nn*2^d+2^d:=by rw [Nat.add_mul,Nat.one_mul]
    have e4:(2*nn+1+1)*2^d=2*nn*2^d+2^d+2^d:=by rw [Nat.add_mul,Nat.one_mul,e3]
    have hR2:0<2^d:=hR;rw [e1] at hb1;rw [e2,e4] at hb2;have HE:Hid ((2^D≤2*nn*2^d∧(2*nn+1)*2^d≤2*2^D)∧2^D≤(2*nn+1)*2^d∧(2*nn+1+1)*2^d≤2*2^D):=by
     refine hid ?_;rw [e3,e4,hF];generalize 2*nn*2^d=A at *;generalize 2^d=R at *;omega
    clear hR2;clear hll hvp hnd hp h2n hpc hf1 hf2 hx1 hx2 hs hc1 e1 e2 e3 e4 hb1 hb2 hR;go_wp2_with (go_at_call 92;refine (P2.out _).mono ?_;rintro e w2 ⟨rfl,hb2⟩)
    have hz2:=hb2.size;replace c0:=(hb2.cell (p:=⟨w.heap.size,0,none⟩) hz).trans c0;replace c1:=(hb2.cell (p:=⟨w.heap.size,1,none⟩) hz).trans c1;replace c2:=(hb2.cell (p:=⟨w.heap.size,2,none⟩) hz).trans c2;replace d1:=(hb2.cell (World.block_lt_of_cell? _ _ d1)).trans d1;replace d2:=(hb2.cell (World.block_lt_of_cell? _ _ d2)).trans d2;have HB2:=hid (below_via hb2 HB.out xo);have ck:w2.cell? ⟨bk,0,none⟩=some (.int .i64 key):=(HB2.out.cell (World.block_lt_of_cell? _ _ hk)).trans hk;have H1:=hid (fun q=>Calls.quiet_of_same ((HC1.out (w2.drewN q) ck).mono fun _ _ h=>⟨h.1,h.2.symm⟩));obtain ⟨tv,htv⟩:∃tv:Bool,T x1 x2 s=tv:=⟨_,rfl⟩
    rw [htv] at H1;have HTV:=hid htv;clear hb2 htv HC1;go_quiet (exact H1.out _)
    have hz3:w.heap.size<(w2.drewN nq).heap.size:=by simp;omega
    cases tv with
    | true=>
     go_wp2
     refine wp_goto ?_;obtain ⟨⟨hb1,hb2⟩,hb3,hb4⟩:=HE.out;refine show (0=0∧H _ _) from ⟨rfl,hH d _ _ xo ⟨2*nn,s,frame_mk _ _ _ ?_,by (exact xcg),by (exact xcg),by (exact xcg),hz3,hid (below_drewN HB2.out _),by omega,hb1,hb2,hid ?_⟩⟩
     · rw [show ((2*nn:Nat):Int)=(nn:Int)*2 by omega];rfl
     · have:=HS.out;rw [HTV.out,if_pos rfl] at this;exact this
    | false=>
     go_wp2
     refine wp_goto ?_;obtain ⟨⟨hb1,hb2⟩,hb3,hb4⟩:=HE.out;refine show (0=0∧H _ _) from ⟨rfl,hH d _ _ xo ⟨2*nn+1,s+x2,frame_mk _ _ _ ?_,by (exact xcg),by (exact xcg),by (exact xcg),hz3,hid (below_drewN HB2.out _),by omega,hb3,hb4,hid ?_⟩⟩
     · rw [show ((2*nn+1:Nat):Int)=(nn:Int)*2+1 by omega];rfl
     · have:=HS.out;rw [HTV.out,if_neg xdd] at this;exact this
 · intro H hH hpass;go_wp2_with (go_at_call 91;refine (LF.out _).mono ?_;rintro e w' ⟨rfl,rfl⟩)
   refine wp_label ?_;go_step
   go_step
   refine hpass D _ _ ?_;refine ⟨1,0,frame_mk _ _ _ rfl,by (exact xcg),by (exact xcg),by (exact xcg),by simp,hid (br.alloc (Nat.le_refl _) _),Nat.le_refl _,by omega,by omega,HP⟩
def WayNth (l:Int) (ma ca:Option Addr) (mc cc N bk F D:Nat) (P:Nat→Nat→Int→Prop) (w:World) (d:Nat) (a':Act) (w':World):Prop:=
  ∃(nn:Nat) (s:Int),(∃u:Nat→Value,a'= {tmps:= #[ixV l ma N mc ca N cc,(.func (.func 61) #[] #[.pointer (some ⟨bk,0,none⟩)]),.pointer (some ⟨w.heap.size,0,none⟩),u 3,u 4,.int .i64 s,.int .i64 nn,.int .i64 F,u 8,u 9,u 10,u 11,u 12,u 13,u 14,u 15,u 16,u 17,u 18,u 19,u 20,u 21,u 22,u 23,u 24,u 25,u 26,u 27,u 28,u 29,u 30,u 31,u 32,u 33,u 34,u 35,u 36,u 37,u 38,u 39,u 40,u 41,u 42,u 43,u 44,u 45,u 46,u 47,u 48,u 49,u 50,u 51,u 52,u 53,u 54,u 55,u 56],defers:=[]})∧w'.cell? ⟨w.heap.size,0,none⟩=some (.int .i64 l)∧w'.cell? ⟨w.heap.size,1,none⟩=some (.slice ma N mc)∧w'.cell? ⟨w.heap.size,2,none⟩=some (.slice ca N cc)∧w.heap.size<w'.heap.size∧Hid (Below w.heap.size w w')∧d≤D∧2^D≤nn*2^d∧(nn+1)*2^d≤2*2^D∧Hid (P d nn s)
theorem wayNth_ok (L N D F:Nat) (l:Int) (hl:l=L) (h1:1≤L) (h2:L≤14) (hN:N+1=2^L) (hD:D+1=L) (hF:2^D=F) (ma ca:Option Addr) (mc cc:Nat) (ms cs:List Int) (hlm:ms.length=N) (hlc:cs.length=N) (w:World)
    (hm:IsRow .i64 w ma ms) (hc:IsRow .i64 w ca cs) (key:Int) (bk:Nat) (hk:w.cell? ⟨bk,0,none⟩=some (.int .i64 key)) (P:Nat→Nat→Int→Prop) (T:Int→Int→Int→Bool) (hP:P D 1 0)
    (hst:∀d n s,P (d+1) n s→(0≤s∧s≤65536∧0≤s+tlF L cs (2*n)∧s+tlF L cs (2*n)≤65536)∧if T (tlF L ms (2*n)) (tlF L cs (2*n)) s=true then P d (2*n) s else P d (2*n+1) (s+tlF L cs (2*n)))
    (hcl:∀d n s W,P (d+1) n s→W.cell? ⟨bk,0,none⟩=some (.int .i64 key)→Calls Tryz.prog 61 #[.int .i64 (tlF L ms (2*n)),.int .i64 (tlF L cs (2*n)),.int .i64 s,.pointer (some ⟨bk,0,none⟩)] W fun e w'=>e= .returned (.bool (T (tlF L ms (2*n)) (tlF L cs (2*n)) s))∧W=w'):
    Calls Tryz.prog 60 #[ixV l ma N mc ca N cc,.func (.func 61) #[] #[.pointer (some ⟨bk,0,none⟩)]] w fun e w'=>∃(n:Nat) (s:Int),e= .returned (.tuple #[.int .i64 ((n:Int)-F),.int .i64 s])∧P 0 n s∧F≤n∧n<2*F∧Below w.heap.size w w':=by
 have e0:lfE l 0=0:=by
  have hp:=pow_bd (l.toNat-1) xo;have h:1≤l∧l≤14:=xo;unfold lfE;rw [if_pos ⟨h,Int.le_refl 0,by omega⟩]
 have e1:lfR l 0=F:=by
  unfold lfR;rw [if_pos e0,show l.toNat-1=D by omega,←hF];push_cast
  omega
 have hFb:F≤8192:=by rw [←hF];exact Nat.pow_le_pow_right xo (by omega:D≤13)
 have hF0:0<F:=by rw [←hF];exact Nat.two_pow_pos D
 have LF:=hid (Leaf_any l 0);rw [e0,e1] at LF;have PL:=hid (Place_any l);have HL:=hid hl;have HST:=hid hst;have HCL:=hid hcl;have HP:=hid hP;have HM:=hid hm;have HC:=hid hc;have HLM:=hid hlm;have HLC:=hid hlc;clear e0 e1 hl hst hcl hP hm hc hlm hlc;go_enter Tryz.func60,Tryz.ntmps60
 go_wp2
 refine wp_scope_loop 0 (WayNth l ma ca mc cc N bk F D P w) rfl ?_ ?_
 · rintro d a wo ⟨nn,s,⟨u,rfl⟩,c0,c1,c2,hz,HB,hd,hb1,hb2,HPd⟩ H hH;rw [hF] at hb1 hb2;cases d with
   | zero=>
    rw [Nat.pow_zero,Nat.mul_one] at hb1 hb2;have hwn:IntKind.i64.wrap ((nn:Int)-(F:Int))=(nn:Int)-(F:Int):=IntWalk.i64_in _ xo;go_wp2
    simp only [Exit.jump];go_ret2
    exact ⟨nn,s,rfl,HPd.out,by omega,by omega,HB.out⟩
   | succ d=>
    have hR:=Nat.two_pow_pos d;have hnF:nn<F:=by
     have h9:(nn+1)*2^(d+1)=(nn+1)*2^d*2:=by rw [Nat.pow_succ,Nat.mul_assoc]
     have h8:(nn+1)*1≤(nn+1)*2^d:=Nat.mul_le_mul_left _ hR;omega
    have hn1:1≤nn:=by
     rcases Nat.eq_zero_or_pos nn with e|e
     · rw [e,Nat.zero_mul] at hb1;omega
     · exact e
    have hll:=HL.out;have hnd:ndE l (2*(nn:Int))=0:=by
     refine ndE_ok xo xo xo ?_;have:(2:Int)^l.toNat=((2^L:Nat):Int):=by rw [show l.toNat=L by omega];push_cast;rfl
     have h8:2^L=2*F:=by rw [←hD,Nat.pow_succ,hF];omega
     rw [this];omega
    obtain ⟨p,hp⟩:∃p:Nat,vpos L (2*nn)=p:=⟨_,rfl⟩
    have h2n:2*nn<2^L:=by rw [←hD,Nat.pow_succ,hF];omega
    have hpN:p<N:=by have:=(vpos_lay h1 (by omega:1≤2*nn) h2n).1;omega
    have hvp:vpR l (2*(nn:Int))=(p:Int):=by
     unfold vpR;rw [if_pos hnd,←hp,show l.toNat=L by omega,show (2*(nn:Int)).toNat=2*nn by omega]
    have P2:=hid (Place_any l (2*(nn:Int)));rw [hvp,hnd] at P2;have hpc:(pcF L (2*nn)).toNat=p:=by rw [pcF,if_neg xo,plc_get h1 xo h2n,hp];rfl
    obtain ⟨b1,o1,x1,rfl,hx1,d1,-⟩:=(HM.out.below HB.out).get (i:=p) (by have:=HLM.out;omega);obtain ⟨b2,o2,x2,rfl,hx2,d2,-⟩:=(HC.out.below HB.out).get (i:=p) (by have:=HLC.out;omega);have hf1:tlF L ms (2*nn)=x1:=by rw [tlF,if_neg xo,hpc];exact hx1.out
    have hf2:tlF L cs (2*nn)=x2:=by rw [tlF,if_neg xo,hpc];exact hx2.out
    have hs:=HST.out d nn s HPd.out;have hc1:=fun W=>HCL.out d nn s W HPd.out
    rw [hf1,hf2] at hs hc1;obtain ⟨⟨hs0,hs1,hs2,hs3⟩,hs⟩:=hs;have HS:=hid hs;have HC1:=hid hc1;have e1:nn*2^(d+1)=2*nn*2^d:=by rw [Nat.pow_succ,Nat.mul_comm 2 nn,Nat.mul_assoc,Nat.mul_comm 2]
    have e2:(nn+1)*2^(d+1)=(2*nn+1+1)*2^d:=by rw [Nat.pow_succ,show 2*nn+1+1=(nn+1)*2 by omega,Nat.mul_assoc,Nat.mul_comm 2]
    have e3:(2*nn+1)*2^d=2*nn*2^d+2^d:=by rw [Nat.add_mul,Nat.one_mul]
    have e4:(2*nn+1+1)*2^d=2*nn*2^d+2^d+2^d:=by rw [Nat.add_mul,Nat.one_mul,e3]
    have hR2:0<2^d:=hR;rw [e1] at hb1;rw [e2,e4] at hb2;have HE:Hid ((2^D≤2*nn*2^d∧(2*nn+1)*2^d≤2*2^D)∧2^D≤(2*nn+1)*2^d∧(2*nn+1+1)*2^d≤2*2^D):=by
     refine hid ?_;rw [e3,e4,hF];generalize 2*nn*2^d=A at *;generalize 2^d=R at *;omega
    clear hR2;clear hll hvp hnd hp h2n hpc hf1 hf2 hx1 hx2 hs hc1 e1 e2 e3 e4 hb1 hb2 hR;go_wp2_with (go_at_call 92;refine (P2.out _).mono ?_;rintro e w2 ⟨rfl,hb2⟩)
    have hz2:=hb2.size;replace c0:=(hb2.cell (p:=⟨w.heap.size,0,none⟩) hz).trans c0;replace c1:=(hb2.cell (p:=⟨w.heap.size,1,none⟩) hz).trans c1;replace c2:=(hb2.cell (p:=⟨w.heap.size,2,none⟩) hz).trans c2;replace d1:=(hb2.cell (World.block_lt_of_cell? _ _ d1)).trans d1;replace d2:=(hb2.cell (World.block_lt_of_cell? _ _ d2)).trans d2;have HB2:=hid (below_via hb2 HB.out xo);have ck:w2.cell? ⟨bk,0,none⟩=some (.int .i64 key):=(HB2.out.cell (World.block_lt_of_cell? _ _ hk)).trans hk;have H1:=hid (fun q=>Calls.quiet_of_same ((HC1.out (w2.drewN q) ck).mono fun _ _ h=>⟨h.1,h.2.symm⟩));obtain ⟨tv,htv⟩:∃tv:Bool,T x1 x2 s=tv:=⟨_,rfl⟩
    rw [htv] at H1;have HTV:=hid htv;clear hb2 htv HC1;go_quiet (exact H1.out _)
    have hz3:w.heap.size<(w2.drewN nq).heap.size:=by simp;omega
    cases tv with
    | true=>
     go_wp2
     refine wp_goto ?_;obtain ⟨⟨hb1,hb2⟩,hb3,hb4⟩:=HE.out;refine show (0=0∧H _ _) from ⟨rfl,hH d _ _ xo ⟨2*nn,s,frame_mk _ _ _ ?_,by (exact xcg),by (exact xcg),by (exact xcg),hz3,hid (below_drewN HB2.out _),by omega,hb1,hb2,hid ?_⟩⟩
     · rw [show ((2*nn:Nat):Int)=(nn:Int)*2 by omega];rfl
     · have:=HS.out;rw [HTV.out,if_pos rfl] at this;exact this
    | false=>
     go_wp2
     refine wp_goto ?_;obtain ⟨⟨hb1,hb2⟩,hb3,hb4⟩:=HE.out;refine show (0=0∧H _ _) from ⟨rfl,hH d _ _ xo ⟨2*nn+1,s+x2,frame_mk _ _ _ ?_,by (exact xcg),by (exact xcg),by (exact xcg),hz3,hid (below_drewN HB2.out _),by omega,hb3,hb4,hid ?_⟩⟩
     · rw [show ((2*nn+1:Nat):Int)=(nn:Int)*2+1 by omega];rfl
     · have:=HS.out;rw [HTV.out,if_neg xdd] at this;exact this
 · intro H hH hpass;go_wp2_with (go_at_call 91;refine (LF.out _).mono ?_;rintro e w' ⟨rfl,rfl⟩)
   refine wp_label ?_;go_step
   go_step
   refine hpass D _ _ ?_;refine ⟨1,0,frame_mk _ _ _ rfl,by (exact xcg),by (exact xcg),by (exact xcg),by simp,hid (br.alloc (Nat.le_refl _) _),Nat.le_refl _,by omega,by omega,HP⟩
end
end Go.Proofs.YtbedhbpgnfffmaaGreat

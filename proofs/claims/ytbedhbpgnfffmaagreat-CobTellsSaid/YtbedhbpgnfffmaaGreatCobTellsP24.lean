/- Merged: DownHome, CbJn, Spoil09, CbSp, CbTells, CbTlWk, Open, OpenIx. -/
import Derived.Test.YtbedhbpgnfffmaaGreatCobTellsP6
import Derived.Test.YtbedhbpgnfffmaaGreatCobTellsP23
import Derived.Test.YtbedhbpgnfffmaaGreatCobTellsP22
import Derived.Test.YtbedhbpgnfffmaaGreatCobTellsP10
import Derived.Test.YtbedhbpgnfffmaaGreatCobTellsP16
import Derived.Laws.StructEq
import Derived.Test.YtbedhbpgnfffmaaGreatCobTellsP1
import Derived.ProofKit
import Derived.OpenShut
import Derived.ShutString
import Derived.ChangeOld
import Derived.Below
import Derived.Lib.SmallJoins
namespace Go.Proofs.YtbedhbpgnfffmaaGreat
set_option maxRecDepth 100000
set_option maxHeartbeats 40000000
set_option linter.unusedVariables false
set_option linter.unusedSimpArgs false
section
open Go.RowKit
theorem Home_ix (l key:Int) (ma ca:Option Addr) (mc cc:Nat) (ms cs:List Int) (w:World) (hm:IsRow .i64 w ma ms) (hc:IsRow .i64 w ca cs):
    Calls Tryz.prog 57 #[ixV l ma ms.length mc ca cs.length cc,.int .i64 key] w (Ans w (.tuple #[.int .i64 (homT l ms cs key).1,.int .i64 (homT l ms cs key).2.1,.int .i64 (homT l ms cs key).2.2])):=by
 have CK:=hid (fun (W:World) (hb:Below w.heap.size w W)=>Check_ix l ma ca mc cc ms cs W (hm.below hb) (hc.below hb));by_cases hmay:ixMay l ms cs=true
 · have e0:ixE l ms cs=0:=if_pos hmay;obtain ⟨L,D,N,F,hl,h1,h2,hN,hD,hF,hNF,hFb,hF0,hL,hLD,hlm,hlc,hg⟩:=ixMay_parts hmay;have et:homT l ms cs key=homeL key (lvs (tlF L ms) (tlF L cs) D 1) 0 0:=by rw [homT,if_pos hmay,lvsR,hLD,hL]
   rw [et];rw [hlm,hlc,e0] at CK;rw [hlm,hlc];obtain ⟨b1,o1,x1,rfl,hx1,d1,-⟩:=hm.get (i:=0) xo;obtain ⟨b2,o2,x2,rfl,hx2,d2,-⟩:=hc.get (i:=0) xo;have r1:tlF L ms 1=x1:=(tlF_root h1 ms).trans hx1.out;have r2:tlF L cs 1=x2:=(tlF_root h1 cs).trans hx2.out;obtain ⟨q1,q2,-⟩:=own_facts hg.own;rw [r2] at q1 q2;rw [Nat.add_zero] at d1 d2;have hN0:0<N:=xo;by_cases hs:srv key x1 x2
   · have WY:=hid (fun (W:World) (hb:Below w.heap.size w W) (bk:Nat) (hk:W.cell? ⟨bk,0,none⟩=some (.int .i64 key))=>
       wayHome_ok L N D F l hl h1 h2 hN hD hF (some ⟨b1,o1,none⟩) (some ⟨b2,o2,none⟩) mc cc ms cs hlm hlc W (hm.below hb) (hc.below hb) key bk hk (HomeP key (tlF L ms) (tlF L cs) D) (fun m c s=>decide (srv key m c)) (HomeP.root hg (by rw [r1,r2];exact hs))
         (fun d n s h=>h.step) (fun d n s W' h hk'=>Home1_ok _ _ s key bk W' hk'))
     obtain ⟨hs1,hs2⟩:=hs;have g1:(x2==0)=false:=by simp;omega
     have HF:=hid hF;clear hmay hN hD hF hL hLD hlm hlc hg et r1 r2 hx1 hx2 e0 hl h1 h2 hNF;go_enter Tryz.func57,Tryz.ntmps57
     go_wp2_with fail
     refine (CK.out _ xbel).mono ?_;rintro e w1 ⟨rfl,hb1⟩;have hz_w1:=hb1.size;try simp only [World.size_alloc,World.size_setCell] at hz_w1
     have c_t0:w1.cell? ⟨w.heap.size,0,none⟩=some (.int .i64 l):=xjt hb1 xlt xcn;have c_t1:w1.cell? ⟨w.heap.size,1,none⟩=some (.slice (some ⟨b1,o1,none⟩) N mc):=xjt hb1 xlt xcn;have c_t2:w1.cell? ⟨w.heap.size,2,none⟩=some (.slice (some ⟨b2,o2,none⟩) N cc):=xjt hb1 xlt xcn;have z_t:w.heap.size<w1.heap.size:=xo;have c_k0:w1.cell? ⟨w.heap.size+1,0,none⟩=some (.int .i64 key):=xjt hb1 xlt xcn;have z_k:w.heap.size+1<w1.heap.size:=xo;have hB1:Below w.heap.size w w1:=xbel;replace d1:=(hB1.cell (World.block_lt_of_cell? _ _ d1)).trans d1;replace d2:=(hB1.cell (World.block_lt_of_cell? _ _ d2)).trans d2;have HB1:=hid hB1;clear hm hc hB1 hb1;go_wp2
     go_big_quiet (fail)
     go_wp2_with (go_at_call 60;refine (WY.out _ (below_drewN HB1.out _) _ xcg).mono ?_;rintro e w2 ⟨n,s,rfl,hP,hn1,hn2,hb2⟩)
     have HP:=hid hP;have HB2:=hid (below_via hb2 (below_drewN HB1.out _) (by simp;omega));clear hP hb2;go_wp2
     go_ret3
     rw [HP.out.last HF.out];exact ⟨rfl,HB2.out⟩
   · have ef:=homeL_fail hg (key:=key) (by rw [r1,r2];exact hs) 0 0;rw [ef];have hsp:x2=0∨(0<x2∧x1<key):=by
      unfold srv at hs;by_cases h0:x2=0
      · exact .inl h0
      · exact .inr ⟨by omega,by omega⟩
     clear hmay hN hD hF hL hLD hlm hlc hg et r1 r2 hx1 hx2 e0 hl h1 h2 hNF hs ef;rcases hsp with rfl | ⟨h0,h1⟩
     · go_enter Tryz.func57,Tryz.ntmps57
       go_wp2_with fail
       refine (CK.out _ xbel).mono ?_;rintro e w1 ⟨rfl,hb1⟩;have hz_w1:=hb1.size;try simp only [World.size_alloc,World.size_setCell] at hz_w1
       replace c_t0:w1.cell? ⟨w.heap.size,0,none⟩=some (.int .i64 l):=xjt hb1 xlt xcn;replace c_t1:w1.cell? ⟨w.heap.size,1,none⟩=some (.slice (some ⟨b1,o1,none⟩) N mc):=xjt hb1 xlt xcn;replace c_t2:w1.cell? ⟨w.heap.size,2,none⟩=some (.slice (some ⟨b2,o2,none⟩) N cc):=xjt hb1 xlt xcn;replace z_t:w.heap.size<w1.heap.size:=xo;replace c_k0:w1.cell? ⟨w.heap.size+1,0,none⟩=some (.int .i64 key):=xjt hb1 xlt xcn;replace z_k:w.heap.size+1<w1.heap.size:=xo;have hB1:Below w.heap.size w w1:=xbel;replace d1:=(hB1.cell (World.block_lt_of_cell? _ _ d1)).trans d1;replace d2:=(hB1.cell (World.block_lt_of_cell? _ _ d2)).trans d2;have HB1:=hid hB1;clear hm hc hB1 hb1;go_wp2
       go_big_quiet (fail)
       go_wp2
       go_ret3
       exact ⟨rfl,below_drewN HB1.out _⟩
     · have g1:(x2==0)=false:=by simp;omega
       go_enter Tryz.func57,Tryz.ntmps57
       go_wp2_with fail
       refine (CK.out _ xbel).mono ?_;rintro e w1 ⟨rfl,hb1⟩;have hz_w1:=hb1.size;try simp only [World.size_alloc,World.size_setCell] at hz_w1
       replace c_t0:w1.cell? ⟨w.heap.size,0,none⟩=some (.int .i64 l):=xjt hb1 xlt xcn;replace c_t1:w1.cell? ⟨w.heap.size,1,none⟩=some (.slice (some ⟨b1,o1,none⟩) N mc):=xjt hb1 xlt xcn;replace c_t2:w1.cell? ⟨w.heap.size,2,none⟩=some (.slice (some ⟨b2,o2,none⟩) N cc):=xjt hb1 xlt xcn;replace z_t:w.heap.size<w1.heap.size:=xo;replace c_k0:w1.cell? ⟨w.heap.size+1,0,none⟩=some (.int .i64 key):=xjt hb1 xlt xcn;replace z_k:w.heap.size+1<w1.heap.size:=xo;have hB1:Below w.heap.size w w1:=xbel;replace d1:=(hB1.cell (World.block_lt_of_cell? _ _ d1)).trans d1;replace d2:=(hB1.cell (World.block_lt_of_cell? _ _ d2)).trans d2;have HB1:=hid hB1;clear hm hc hB1 hb1;go_wp2
       go_big_quiet (fail)
       go_wp2
       go_ret3
       exact ⟨rfl,below_drewN HB1.out _⟩
 · have e0:ixE l ms cs=8:=if_neg hmay;have et:homT l ms cs key=(0,0,8):=if_neg hmay;rw [e0] at CK;rw [et];clear e0 et hmay hm hc;go_enter Tryz.func57,Tryz.ntmps57
   go_wp2_with fail
   refine (CK.out _ xbel).mono ?_;rintro e w1 ⟨rfl,hb1⟩;go_wp2
   go_ret3
   exact ⟨rfl,by (exact xbel)⟩
theorem Nth_ix (l k:Int) (hk1: -9223372036854775808≤k) (hk2:k≤9223372036854775807) (ma ca:Option Addr) (mc cc:Nat) (ms cs:List Int) (w:World) (hm:IsRow .i64 w ma ms) (hc:IsRow .i64 w ca cs):
    Calls Tryz.prog 38 #[ixV l ma ms.length mc ca cs.length cc,.int .i64 k] w (Ans w (.tuple #[.int .i64 (nthT l ms cs k).1,.int .i64 (nthT l ms cs k).2.1,.int .i64 (nthT l ms cs k).2.2])):=by
 have CK:=hid (fun (W:World) (hb:Below w.heap.size w W)=>Check_ix l ma ca mc cc ms cs W (hm.below hb) (hc.below hb));by_cases hmay:ixMay l ms cs=true
 · have e0:ixE l ms cs=0:=if_pos hmay;obtain ⟨L,D,N,F,hl,h1,h2,hN,hD,hF,hNF,hFb,hF0,hL,hLD,hlm,hlc,hg⟩:=ixMay_parts hmay;have et:nthT l ms cs k=if k<0 then (0,0,290) else nthL (lvs (tlF L ms) (tlF L cs) D 1) 0 k:=by rw [nthT,if_pos hmay,lvsR,hLD,hL]
   rw [et];rw [hlm,hlc,e0] at CK;rw [hlm,hlc];obtain ⟨b2,o2,x2,rfl,hx2,d2,-⟩:=hc.get (i:=0) xo;have r2:tlF L cs 1=x2:=(tlF_root h1 cs).trans hx2.out;obtain ⟨q1,q2,-⟩:=own_facts hg.own;rw [r2] at q1 q2;rw [Nat.add_zero] at d2;have hN0:0<N:=xo;by_cases hs:0≤k∧k<x2
   · obtain ⟨hs1,hs2⟩:=hs;have WY:=hid (fun (W:World) (hb:Below w.heap.size w W) (bk:Nat) (hk:W.cell? ⟨bk,0,none⟩=some (.int .i64 k))=>
      wayNth_ok L N D F l hl h1 h2 hN hD hF ma (some ⟨b2,o2,none⟩) mc cc ms cs hlm hlc W (hm.below hb) (hc.below hb) k bk hk (NthP k (tlF L ms) (tlF L cs) D) (fun m c s=>decide (k-s<c)) (NthP.root hg hs1 (by rw [r2];exact hs2))
        (fun d n s h=>h.step) (fun d n s W' h hk'=>Nth1_ok _ _ s k bk W' hk' (by have:=h.2.1;omega) (by have:=h.2.2.2.1;omega)))
     rw [if_neg xo];have HF:=hid hF;clear hmay hN hD hF hL hLD hlm hlc hg et r2 hx2 e0 hl h1 h2 hNF;have g1:decide (k<0)=false:=by simp;omega
     go_enter Tryz.func38,Tryz.ntmps38
     go_wp2_with fail
     refine (CK.out _ xbel).mono ?_;rintro e w1 ⟨rfl,hb1⟩;have hz_w1:=hb1.size;try simp only [World.size_alloc,World.size_setCell] at hz_w1
     have c_t0:w1.cell? ⟨w.heap.size,0,none⟩=some (.int .i64 l):=xjt hb1 xlt xcn;have c_t1:w1.cell? ⟨w.heap.size,1,none⟩=some (.slice ma N mc):=xjt hb1 xlt xcn;have c_t2:w1.cell? ⟨w.heap.size,2,none⟩=some (.slice (some ⟨b2,o2,none⟩) N cc):=xjt hb1 xlt xcn;have z_t:w.heap.size<w1.heap.size:=xo;have c_k0:w1.cell? ⟨w.heap.size+1,0,none⟩=some (.int .i64 k):=xjt hb1 xlt xcn;have z_k:w.heap.size+1<w1.heap.size:=xo;have hB1:Below w.heap.size w w1:=xbel;replace d2:=(hB1.cell (World.block_lt_of_cell? _ _ d2)).trans d2;have HB1:=hid hB1;clear hm hc hB1 hb1;go_wp2
     go_big_quiet (fail)
     go_wp2_with (go_at_call 60;refine (WY.out _ (below_drewN HB1.out _) _ xcg).mono ?_;rintro e w2 ⟨n,s,rfl,hP,hn1,hn2,hb2⟩)
     have ck:w2.cell? ⟨w.heap.size+1,0,none⟩=some (.int .i64 k):=(hb2.cell (p:=⟨w.heap.size+1,0,none⟩) (by simp;omega)).trans xcg;have hps:=hP.2.1;have hp0:=hP.2.2.2.1;have HP:=hid hP;have HB2:=hid (below_via hb2 (below_drewN HB1.out _) (by simp;omega));have hwr:IntKind.i64.wrap (k-s)=k-s:=IntWalk.i64_in _ xo;clear hP hb2;go_wp2
     go_big_quiet (fail)
     go_wp2
     go_ret3
     rw [HP.out.last HF.out];exact ⟨rfl,below_drewN HB2.out _⟩
   · have ef:(if k<0 then ((0,0,290):Int×Int×Int) else nthL (lvs (tlF L ms) (tlF L cs) D 1) 0 k)=(0,0,290):=by
       split
       · rfl
       · exact nthL_fail hg (by rw [r2];omega) 0
     rw [ef];have hsp:k<0∨(0≤k∧x2≤k):=xo;clear hmay hN hD hF hL hLD hlm hlc hg et r2 hx2 e0 hl h1 h2 hNF hs ef;rcases hsp with h0 | ⟨h0,h1⟩
     · have g1:decide (k<0)=true:=by simp [h0]
       go_enter Tryz.func38,Tryz.ntmps38
       go_wp2_with fail
       refine (CK.out _ xbel).mono ?_;rintro e w1 ⟨rfl,hb1⟩;have hz_w1:=hb1.size;try simp only [World.size_alloc,World.size_setCell] at hz_w1
       replace c_t0:w1.cell? ⟨w.heap.size,0,none⟩=some (.int .i64 l):=xjt hb1 xlt xcn;replace c_t1:w1.cell? ⟨w.heap.size,1,none⟩=some (.slice ma N mc):=xjt hb1 xlt xcn;replace c_t2:w1.cell? ⟨w.heap.size,2,none⟩=some (.slice (some ⟨b2,o2,none⟩) N cc):=xjt hb1 xlt xcn;replace z_t:w.heap.size<w1.heap.size:=xo;replace c_k0:w1.cell? ⟨w.heap.size+1,0,none⟩=some (.int .i64 k):=xjt hb1 xlt xcn;replace z_k:w.heap.size+1<w1.heap.size:=xo;have hB1:Below w.heap.size w w1:=xbel;replace d2:=(hB1.cell (World.block_lt_of_cell? _ _ d2)).trans d2;have HB1:=hid hB1;clear hm hc hB1 hb1;go_wp2
       go_big_quiet (fail)
       go_wp2
       go_ret3
       exact ⟨rfl,below_drewN HB1.out _⟩
     · have g1:decide (k<0)=false:=by simp;omega
       go_enter Tryz.func38,Tryz.ntmps38
       go_wp2_with fail
       refine (CK.out _ xbel).mono ?_;rintro e w1 ⟨rfl,hb1⟩;have hz_w1:=hb1.size;try simp only [World.size_alloc,World.size_setCell] at hz_w1
       replace c_t0:w1.cell? ⟨w.heap.size,0,none⟩=some (.int .i64 l):=xjt hb1 xlt xcn;replace c_t1:w1.cell? ⟨w.heap.size,1,none⟩=some (.slice ma N mc):=xjt hb1 xlt xcn;replace c_t2:w1.cell? ⟨w.heap.size,2,none⟩=some (.slice (some ⟨b2,o2,none⟩) N cc):=xjt hb1 xlt xcn;replace z_t:w.heap.size<w1.heap.size:=xo;replace c_k0:w1.cell? ⟨w.heap.size+1,0,none⟩=some (.int .i64 k):=xjt hb1 xlt xcn;replace z_k:w.heap.size+1<w1.heap.size:=xo;have hB1:Below w.heap.size w w1:=xbel;replace d2:=(hB1.cell (World.block_lt_of_cell? _ _ d2)).trans d2;have HB1:=hid hB1;clear hm hc hB1 hb1;go_wp2
       go_big_quiet (fail)
       go_wp2
       go_ret3
       exact ⟨rfl,below_drewN HB1.out _⟩
 · have e0:ixE l ms cs=8:=if_neg hmay;have et:nthT l ms cs k=(0,0,8):=if_neg hmay;rw [e0] at CK;rw [et];clear e0 et hmay hm hc;go_enter Tryz.func38,Tryz.ntmps38
   go_wp2_with fail
   refine (CK.out _ xbel).mono ?_;rintro e w1 ⟨rfl,hb1⟩;go_wp2
   go_ret3
   exact ⟨rfl,by (exact xbel)⟩
end
section
open Go.RowKit Go.Shelf
theorem prs_len65 {s:SlC} (h:slMay s=true) {a b:Nat} (hb:b≤s.ks.length):(prs s a b).length≤65536:=by
 obtain ⟨S,M,hS,h4,h64,hk,hv,hc,hM,hSM,hM2,hw,-⟩:=slHead_facts (c:=s) (by unfold slMay at h;simp only [Bool.and_eq_true] at h;exact h.1.1);have:=prs_le (c:=s) (a:=a) (b:=b);omega
theorem seg_facts {s:SlC} (h:slMay s=true):∃S:Nat,s.seg=(S:Int)∧s.seg.toNat=S∧S≤64∧s.ks.length≤65536:=by
 obtain ⟨S,M,hS,h4,h64,hk,hv,hc,hM,hSM,hM2,hw,-⟩:=slHead_facts (c:=s) (by unfold slMay at h;simp only [Bool.and_eq_true] at h;exact h.1.1);exact ⟨S,hS,by omega,h64,by omega⟩
theorem seg_iter {r:CobR} {A:CobA} {w:World} (h:InC w r A) (hE:r.E=0) (i:Nat) (hle:(i+1)*r.s.seg.toNat≤r.s.ks.length) (b1 b2 bu:Nat) (W:World) (hb:Below w.heap.size w W)
    (c1:W.cell? ⟨b1,0,none⟩=some (.pointer (some ⟨bu,0,none⟩))) (c2:W.cell? ⟨b2,0,none⟩=some (.int .i64 i)) (hx:BX W bu 76 (cobL r A)):
    Iter Tryz.prog 62 #[.pointer (some ⟨b1,0,none⟩),.pointer (some ⟨b2,0,none⟩)] (leafX (prs r.s (i*r.s.seg.toNat) ((i+1)*r.s.seg.toNat))) KpC W:=by
 have hp:=(CobR.ok hE).1;have hm:=slMay_of hp;obtain ⟨S,hS,hS2,h64,hk⟩:=seg_facts hm;have h4:4≤S:=by
  obtain ⟨S',M,hS',h4',-⟩:=slHead_facts (c:=r.s) (by unfold slMay at hm;simp only [Bool.and_eq_true] at hm;exact hm.1.1);omega
 rw [hS2] at hle ⊢;have h1:(i+1)*S=i*S+S:=Nat.succ_mul _ _;have h2:i≤i*S:=Nat.le_mul_of_pos_right _ xo;refine leaf1_iter r A i (S:Int) ((i*S:Nat):Int) (((i+1)*S:Nat):Int) _ (Nat.le_trans (prs_len65 hm hle) xdd) hS (by push_cast;rfl) (by push_cast;rfl) xo xo xo xo xo b1 b2 bu W c1 c2 hx (hid fun W' hB=> ?_);have:=Pairs_ok r.s A.sa (Nat.le_trans h.sz.w xdd) (Nat.le_trans h.sz.k xdd) ((i*S:Nat):Int) (((i+1)*S:Nat):Int) W' ((h.sl.below hb).below hB);have e:partE r.s ((i*S:Nat):Int) (((i+1)*S:Nat):Int)=0:=by rw [partE,if_pos hm,if_pos ⟨by omega,by omega,by omega⟩]
 rw [prsR,if_pos e,e,Int.toNat_natCast,Int.toNat_natCast] at this;exact this
theorem cFrom {r:CobR} {A:CobA} {w:World} (key:Int) (h:InC w r A) (hE:r.E=0) (bu:Nat) (hx:BX w bu 76 (cobL r A)):
    Calls Tryz.prog 33 #[.pointer (some ⟨bu,0,none⟩),.int .i64 key] w (AnsB w (.tuple #[prV (ceP r.L key),.int .i64 (belL r.L key),.int .i64 (ceE r.L key)])):=by
 obtain ⟨hp,hl,hm,hc⟩:=CobR.ok hE;have hb:=pm_bld hp h.sz.c;obtain ⟨t1,t2,t3,t4⟩:=bld_root hb;have HM:=fun W (hB:Below w.heap.size w W)=>Home_ix r.l key A.ma A.ca A.mc A.cc r.ms r.cs W (h.m.below hB) (h.n.below hB)
 have eh:homT r.l r.ms r.cs key=homT (bldL r.s) (bldM r.s) (bldC r.s) key:=by rw [hl,hm,hc]
 rw [eh] at HM;rcases cb_home hb key with ⟨h1,h2,h3⟩ | ⟨i,A',M,B,h1,e,hM,ha,hex,hle⟩
 · have e1:ceP r.L key=(0,0):=by rw [ceP,CobR.L,h2];rfl
   have e2:belL r.L key=r.L.length:=h3;have e3:ceE r.L key=6:=by rw [ceE,CobR.L,h2];rfl
   rw [e1,e2,e3];rw [h1] at HM;exact from_none r A key w bu hx 6 _ xdd h.n (by rw [hc];exact t2) (by rw [hc];exact t1) (hid HM)
 · have hr:=seek_ris (pm_zero hp).2;rw [h1] at HM;have hA:A'.length≤65536:=by
    have:=prs_len65 (slMay_of hp) (a:=0) (Nat.le_refl r.s.ks.length);rw [e,List.length_append] at this;omega
   have hce:ceE r.L key=0:=by
    obtain ⟨p,hpM,hkp⟩:=hex;cases q:ceL r.L key with
    | some x=>rw [ceE,q];rfl
    | none=>
     have:=List.find?_eq_none.1 q p (by show p ∈ r.L;rw [CobR.L,e];exact List.mem_append.2 (.inr (List.mem_append.2 (.inl hpM))));exact absurd hkp (by simpa using this)
   rw [hce];refine from_in r A key w bu hx i (A'.length:Int) M (ceP r.L key) (belL r.L key) (by rw [hM];exact prs_len65 (slMay_of hp) hle) xo xo (fun k hk hlow hp'=> ?_) (fun hall=> ?_) (hid HM) (hid fun W b1 b2 hB c1 c2 hx'=> ?_)
   · obtain ⟨g1,g2⟩:=ce_hit hr e ha hk hlow hp';refine ⟨?_,?_⟩
     · rw [ceP,CobR.L,g1];rfl
     · rw [CobR.L,g2];push_cast;rfl
   · obtain ⟨p,hpM,hkp⟩:=hex;obtain ⟨j,hj,rfl⟩:=List.getElem_of_mem hpM;have:=hall j hj;rw [List.getD_eq_getElem?_getD,List.getElem?_eq_getElem hj,Option.getD_some] at this;omega
   · rw [hM];exact seg_iter h hE i hle b1 b2 bu W hB c1 c2 hx'
theorem cGet (r:CobR) (A:CobA) (key:Int) (w:World) (h:InC w r A):Calls Tryz.prog 9 #[cobV r A,.int .i64 key] w (AnsB w (.tuple #[.int .i64 (r.gV key).1,.int .i64 (r.gV key).2])):=by
 have CK:=fun W (hB:Below w.heap.size w W)=>cCheck r A W (h.below hB)
 by_cases hE:r.E=0
 · rw [hE] at CK;have FR:=fun W bu (hB:Below w.heap.size w W) hx=>cFrom (w:=W) key (h.below hB) hE bu hx
   have hr:=seek_ris (pm_zero (CobR.ok hE).1).2;have hf:=fnd_ce hr key;cases q:ceL r.L key with
   | none=>
    have e3:ceE r.L key=6:=by rw [ceE,q];rfl
    have hg:r.gV key=(0,6):=by rw [CobR.gV,if_pos hE,CobR.L,hf];rw [CobR.L] at q;rw [q];rfl
    rw [hg];rw [e3] at FR;exact cbGet_n r A key w _ _ 6 xdd (hid CK) (hid FR)
   | some p=>
    have e3:ceE r.L key=0:=by rw [ceE,q];rfl
    have e1:ceP r.L key=p:=by rw [ceP,q];rfl
    rw [e3,e1] at FR;by_cases hk:p.1=key
    · have hg:r.gV key=(p.2,0):=by rw [CobR.gV,if_pos hE,CobR.L,hf];rw [CobR.L] at q;rw [q];simp [hk]
      rw [hg];exact cbGet_y r A key w p _ hk (hid CK) (hid FR)
    · have hg:r.gV key=(0,6):=by rw [CobR.gV,if_pos hE,CobR.L,hf];rw [CobR.L] at q;rw [q];simp [hk]
      rw [hg];exact cbGet_k r A key w p _ hk (hid CK) (hid FR)
 · have hg:r.gV key=(0,r.E):=if_neg hE;rw [hg];exact cbGet_e r A key w r.E hE (hid CK)
theorem cRank (r:CobR) (A:CobA) (key:Int) (w:World) (h:InC w r A):Calls Tryz.prog 11 #[cobV r A,.int .i64 key] w (AnsB w (.tuple #[.int .i64 (r.rV key).1,.int .i64 (r.rV key).2])):=by
 have CK:=fun W (hB:Below w.heap.size w W)=>cCheck r A W (h.below hB)
 by_cases hE:r.E=0
 · have hg:r.rV key=((belL r.L key:Int),0):=if_pos hE;rw [hE] at CK;rw [hg];exact cbRank_y r A key w _ _ _ (hid CK) (hid fun W bu hB hx=>cFrom (w:=W) key (h.below hB) hE bu hx)
 · have hg:r.rV key=(0,r.E):=if_neg hE;rw [hg];exact cbRank_e r A key w r.E hE (hid CK)
theorem cNext (r:CobR) (A:CobA) (key:Int) (w:World) (h:InC w r A):Calls Tryz.prog 13 #[cobV r A,.int .i64 key] w (AnsB w (.tuple #[prV (r.nV key).1,.int .i64 (r.nV key).2])):=by
 have CK:=fun W (hB:Below w.heap.size w W)=>cCheck r A W (h.below hB)
 by_cases hE:r.E=0
 · have hg:r.nV key=(ceP r.L key,ceE r.L key):=if_pos hE;rw [hE] at CK;rw [hg];exact cbNext_y r A key w _ _ _ (hid CK) (hid fun W bu hB hx=>cFrom (w:=W) key (h.below hB) hE bu hx)
 · have hg:r.nV key=((0,0),r.E):=if_neg hE;rw [hg];exact cbNext_e r A key w r.E hE (hid CK)
theorem cSelect (r:CobR) (A:CobA) (k:Int) (hk1: -9223372036854775808≤k) (hk2:k≤9223372036854775807) (w:World) (h:InC w r A):Calls Tryz.prog 15 #[cobV r A,.int .i64 k] w (AnsB w (.tuple #[prV (r.sV k).1,.int .i64 (r.sV k).2])):=by
 have CK:=fun W (hB:Below w.heap.size w W)=>cCheck r A W (h.below hB)
 by_cases hE:r.E=0
 · obtain ⟨hp,hl,hm,hc⟩:=CobR.ok hE;have hb:=pm_bld hp h.sz.c;rw [hE] at CK;have NT:=fun W (hB:Below w.heap.size w W)=>Nth_ix r.l k hk1 hk2 A.ma A.ca A.mc A.cc r.ms r.cs W (h.m.below hB) (h.n.below hB)
   have eh:nthT r.l r.ms r.cs k=nthT (bldL r.s) (bldM r.s) (bldC r.s) k:=by rw [hl,hm,hc]
   rw [eh] at NT;rcases cb_nth hb k with ⟨h1,h2⟩ | ⟨i,q,A',M,B,h1,e,hM,hq,hk,hle⟩
   · have hg:r.sV k=((0,0),290):=by rw [CobR.sV,if_pos hE];exact if_pos h1
     rw [hg];rw [h2] at NT;exact cbSel_n r A k w 290 xdd (hid CK) (hid NT)
   · have hlen:r.L.length=A'.length+(M.length+B.length):=by rw [CobR.L,e,List.length_append,List.length_append]
     have hg:r.sV k=(M.getD q (0,0),0):=by
      rw [CobR.sV,if_pos hE,if_neg xo,hk,Int.toNat_natCast,CobR.L,e];congr 1
      rw [List.getD_eq_getElem?_getD,List.getElem?_append_right xo,Nat.add_sub_cancel_left,List.getElem?_append_left hq,List.getD_eq_getElem?_getD]
     rw [hg];rw [h1] at NT;refine cbSel_y r A k w i q M (by rw [hM];exact prs_len65 (slMay_of hp) hle) hq _ rfl (hid CK) (hid NT) (hid fun W b1 b2 bu hB c1 c2 hx=> ?_);rw [hM];exact seg_iter h hE i hle b1 b2 bu W hB c1 c2 hx
 · have hg:r.sV k=((0,0),r.E):=if_neg hE;rw [hg];exact cbSel_e r A k w r.E hE (hid CK)
theorem L_len {r:CobR} (hE:r.E=0):r.L.length≤100000:=Nat.le_trans (prs_len65 (slMay_of (CobR.ok hE).1) (Nat.le_refl _)) xdd
theorem rGet (r:CobR) (A:CobA) (key:Int) (w:World) (h:InC w r A):Calls Tryz.prog 10 #[cobV r A,.int .i64 key] w (AnsB w (.tuple #[.int .i64 (r.gV key).1,.int .i64 (r.gV key).2])):=by
 have CK:=fun W (hB:Below w.heap.size w W)=>rCheck r A W (h.below hB)
 by_cases hE:r.E=0
 · rw [hE] at CK;have:=Get21_c r A key w (valV r.L key).1 (valV r.L key).2 (hid CK) (hid fun W hB=>Val11_ok (CobR.ok hE).1 A.sa key W (h.sl.below hB));have hg:r.gV key=(if (valV r.L key).2=true then (valV r.L key).1 else 0,if (valV r.L key).2=true then 0 else 6):=by
    rw [CobR.gV,if_pos hE,valV];cases fndL r.L key<;>rfl
   rw [hg];exact this
 · have hg:r.gV key=(0,r.E):=if_neg hE;rw [hg];exact Get21_e r A key w r.E hE (hid CK)
theorem rRank (r:CobR) (A:CobA) (key:Int) (w:World) (h:InC w r A):Calls Tryz.prog 12 #[cobV r A,.int .i64 key] w (AnsB w (.tuple #[.int .i64 (r.rV key).1,.int .i64 (r.rV key).2])):=by
 have CK:=fun W (hB:Below w.heap.size w W)=>rCheck r A W (h.below hB)
 by_cases hE:r.E=0
 · have hg:r.rV key=((belL r.L key:Int),0):=if_pos hE;rw [hE] at CK;rw [hg];exact Rank21_y r A key w r.L _ (hid CK) (hid fun W hB=>Prs11_ok (CobR.ok hE).1 A.sa W (h.sl.below hB)) (hid fun W la pl hB hi=>Below10_ok r.L la pl key (L_len hE) W hi)
 · have hg:r.rV key=(0,r.E):=if_neg hE;rw [hg];exact Rank21_e r A key w r.E hE (hid CK)
theorem rNext (r:CobR) (A:CobA) (key:Int) (w:World) (h:InC w r A):Calls Tryz.prog 14 #[cobV r A,.int .i64 key] w (AnsB w (.tuple #[prV (r.nV key).1,.int .i64 (r.nV key).2])):=by
 have CK:=fun W (hB:Below w.heap.size w W)=>rCheck r A W (h.below hB)
 by_cases hE:r.E=0
 · rw [hE] at CK;have:=Next21_c r A key w r.L (ceP r.L key) (ceL r.L key).isSome (hid CK) (hid fun W hB=>Prs11_ok (CobR.ok hE).1 A.sa W (h.sl.below hB)) (hid fun W la pl hB hi=>Ceil12_ok r.L la pl key (L_len hE) W hi);have hg:r.nV key=(if (ceL r.L key).isSome=true then ceP r.L key else (0,0),if (ceL r.L key).isSome=true then 0 else 6):=by
    rw [CobR.nV,if_pos hE,ceE,ceP];cases ceL r.L key<;>rfl
   rw [hg];exact this
 · have hg:r.nV key=((0,0),r.E):=if_neg hE;rw [hg];exact Next21_e r A key w r.E hE (hid CK)
theorem rSelect (r:CobR) (A:CobA) (k:Int) (w:World) (h:InC w r A):Calls Tryz.prog 16 #[cobV r A,.int .i64 k] w (AnsB w (.tuple #[prV (r.sV k).1,.int .i64 (r.sV k).2])):=by
 have CK:=fun W (hB:Below w.heap.size w W)=>rCheck r A W (h.below hB)
 by_cases hE:r.E=0
 · rw [hE] at CK;have PR:=fun W (hB:Below w.heap.size w W)=>Prs11_ok (CobR.ok hE).1 A.sa W (h.sl.below hB)
   by_cases h0:k<0
   · have hg:r.sV k=((0,0),290):=by rw [CobR.sV,if_pos hE];exact if_pos (.inl h0)
     rw [hg];exact Sel21_n r A k w r.L (L_len hE) h0 (hid CK) (hid PR)
   · by_cases h1:(r.L.length:Int)≤k
     · have hg:r.sV k=((0,0),290):=by rw [CobR.sV,if_pos hE];exact if_pos (.inr h1)
       rw [hg];exact Sel21_g r A k w r.L (L_len hE) xo h1 (hid CK) (hid PR)
     · obtain ⟨i,rfl⟩:∃i:Nat,k=i:=⟨k.toNat,by omega⟩
       have hg:r.sV (i:Int)=(r.L.getD i (0,0),0):=by rw [CobR.sV,if_pos hE,if_neg xo,Int.toNat_natCast]
       rw [hg];exact Sel21_y r A i w r.L (L_len hE) xo _ rfl (hid CK) (hid PR)
 · have hg:r.sV k=((0,0),r.E):=if_neg hE;rw [hg];exact Sel21_e r A k w r.E hE (hid CK)
end
section
open Go.RowKit
def OwnK (k:IntKind) (e:TypeId) (B:Nat) (ao:Option Addr) (n c:Nat) (w:World):Prop:=∃xs:List Int,xs.length=n∧w.ownsRow B e 1 (.slice ao n c) n (xs.map (Value.int k))
theorem OwnK.form {k:IntKind} {e:TypeId} {B:Nat} {ao:Option Addr} {n c:Nat} {w:World} (h:OwnK k e B ao n c w) {j:Nat} (hj:j<n):∃g,ao=some ⟨g,0,none⟩∧B≤g∧g<w.heap.size:=by
 obtain ⟨xs,hl,h1,⟨h2,h3⟩ | ⟨g,cap,cur,hv,hg,hh,_⟩⟩:=h
 · omega
 · cases hv;exact ⟨g,rfl,hg,(Array.getElem?_eq_some_iff.1 hh).1⟩
theorem OwnK.set {k:IntKind} {e:TypeId} {B g n c:Nat} {w:World} (h:OwnK k e B (some ⟨g,0,none⟩) n c w) {j:Nat} (hj:j<n):
    (∃v,w.cell? ⟨g,j,none⟩=some v)∧w.frozen? ⟨g,j,none⟩=false∧∀y:Int,OwnK k e B (some ⟨g,0,none⟩) n c (w.setCell ⟨g,j,none⟩ (.int k y)):=by
 obtain ⟨xs,rfl,h1⟩:=h;obtain ⟨⟨x,_,hx⟩,hf,hs⟩:=row_cell h1 hj;refine ⟨⟨_,hx⟩,hf,fun y=>⟨xs.set j y,by simp,?_⟩⟩;have:=hs y;rw [List.length_set] at this;exact this
theorem OwnK.other {k:IntKind} {e:TypeId} {B:Nat} {ao:Option Addr} {n c:Nat} {w w':World} (h:OwnK k e B ao n c w) (hh:∀k,(Value.slice ao n c).ownBlock=some k→w'.heap[k]? =w.heap[k]?):OwnK k e B ao n c w':=by
 obtain ⟨xs,hl,h1⟩:=h;exact ⟨xs,hl,owns_heap h1 hh⟩
theorem OwnK.apart {k k':IntKind} {e e':TypeId} {B B':Nat} {ao bo:Option Addr} {n c m d:Nat} {w:World} (h:OwnK k e B ao n c w) (h':OwnK k' e' B' bo m d w) (hne:e≠e'):∀p q,(Value.slice ao n c).ownBlock=some p→(Value.slice bo m d).ownBlock=some q→p≠q:=by
 obtain ⟨xs,hl,h1⟩:=h;obtain ⟨ys,hm,h2⟩:=h';intro p q hp hq e;rcases owns_apart h1 h2 hne with h|h
 · rw [h] at hp;cases hp
 · exact h (by rw [hp,hq,e])
theorem OwnK.lt {k:IntKind} {e:TypeId} {B:Nat} {ao:Option Addr} {n c:Nat} {w:World} (h:OwnK k e B ao n c w):∀p,(Value.slice ao n c).ownBlock=some p→p<w.heap.size:=by
 obtain ⟨xs,hl,h1⟩:=h;exact fun p hp=>(owns_lt h1 hp).2
theorem OwnK.any {k:IntKind} {e:TypeId} {B:Nat} {ao:Option Addr} {n c:Nat} {w:World} (h:OwnK k e B ao n c w) (g j:Nat) (y:Int):OwnK k e B ao n c (w.setCell ⟨g,j,none⟩ (.int k y)):=by
 have h0:=h;obtain ⟨xs,hl,h1⟩:=h;have hrow:=h1;obtain ⟨h1,⟨h2,h3⟩ | ⟨g',cap,cur,hv,hg,hh,hn,hm,hs,ht⟩⟩:=h1
 · exact ⟨xs,hl,h1,.inl ⟨h2,h3⟩⟩
 · cases hv;by_cases hgg:g'=g
   · subst hgg;by_cases hj:j<n
     · exact (OwnK.set h0 hj).2.2 y
     · have hc:=heap_setCell_same w g' j cur e (Value.int k y) hh;refine ⟨xs,hl,h1,.inr ⟨g',c,_,rfl,hg,hc,hn,hm,by simpa using hs,?_⟩⟩;rw [←ht];simp only [Array.toList_setIfInBounds,Nat.mul_one];rw [List.take_set_of_le xo]
   · exact ⟨xs,hl,owns_heap hrow fun q hq=>heap_setCell_ne _ _ _ (by cases hq;exact hgg)⟩
def KpM (M:Nat) (w w':World):Prop:=∀q,M≤q→q<w.heap.size→w'.heap[q]? =w.heap[q]?
theorem KpM.alloc (M:Nat) (w:World) (o:Obj):KpM M w (w.alloc o):=fun q _ hq=>Below.heap_alloc _ _ _ hq
theorem KpM.store {M:Nat} {w wr:World} {g j:Nat} (h:KpM M w wr) (hg:g<M) (v:Value):KpM M w (wr.setCell ⟨g,j,none⟩ v):=fun q h1 h2=>(heap_setCell_ne _ _ _ (by show q≠g;omega)).trans (h q h1 h2)
def Spd (B M:Nat) (w w':World):Prop:=Below B w w'∧KpM M w w'
theorem Spd.ow {B M B' M':Nat} {w w':World} {e:TypeId} {v:Value} {n:Nat} {xs:List Value} (h:Spd B M w w') (ho:w.ownsRow B' e 1 v n xs) (hm:∀k,v.ownBlock=some k→k<M') (hd:M'≤B∨M≤B'):w'.ownsRow B' e 1 v n xs:=
  owns_heap ho fun k hk=>by
   have h1:=ho.lt k hk;have h2:=hm k hk;rcases hd with hd|hd
   · exact h.1.block k xo
   · exact h.2 k xo xo
theorem OwC.spd {w w':World} {B M B' M':Nat} {r:CobR} {A:CobA} (h:OwC w B' M' r A) (k:Spd B M w w') (hd:M'≤B∨M≤B'):OwC w' B' M' r A:=
  ⟨k.ow h.o1 h.m1 hd,k.ow h.o2 h.m2 hd,k.ow h.o3 h.m3 hd,k.ow h.o4 h.m4 hd,k.ow h.o5 h.m5 hd,k.ow h.o6 h.m6 hd,h.m1,h.m2,h.m3,h.m4,h.m5,h.m6,h.sz⟩
theorem Spd.bx {w w':World} {B M b:Nat} {t:TypeId} {vs:List Value} (k:Spd B M w w') (h:BX w b t vs) (hd:b<B∨M≤b):BX w' b t vs:=by
 rcases hd with hd|hd
 · exact (k.1.block b hd).trans h
 · exact (k.2 b hd (bx_lt h)).trans h
theorem spoil21_kc (c:Cfg) (sg ld il:Int) (B M:Nat) (wa ka va ca na ma:Option Addr) (wc kc vc cc gc pc lw lk lv lc lg lp:Nat) (w:World) (hk:OwnK .i64 2 B ka lk kc w) (hc:OwnK .i64 3 B ca lc cc w) (hp:OwnK .i64 2 B ma lp pc w) (hg:OwnK .i64 3 B na lg gc w) (hB:B≤w.heap.size) (hM:M≤w.heap.size) (lk_:∀p,(Value.slice ka lk kc).ownBlock=some p→p<M) (lc_:∀p,(Value.slice ca lc cc).ownBlock=some p→p<M) (la_:∀p,(Value.slice ma lp pc).ownBlock=some p→p<M) (lg_:∀p,(Value.slice na lg gc).ownBlock=some p→p<M) (b1:lk≤1000000000) (b2:lc≤1000000000) (b3:lp≤1000000000) (b4:lg≤1000000000):
    Calls Tryz.prog 21 #[.agg #[.int .u8 c.tag,.int .i64 c.most,.int .i64 c.seg,.int .i64 c.least,.int .i64 c.den,.int .i64 c.ll,.int .i64 c.rl,.int .i64 c.rh,.int .i64 c.lh,.int .i64 sg,.slice wa lw wc,.slice ka lk kc,.slice va lv vc,.slice ca lc cc,.int .u64 ld,.int .i64 il,.slice ma lp pc,.slice na lg gc]] w fun e w'=>(∃v,e= .returned v)∧Spd B M w w':=by
 have HK:=hid hk;have HC:=hid hc;have HA:=hid hp;have HG:=hid hg;have LK:=hid lk_;have LC:=hid lc_;have LA:=hid la_;have LG:=hid lg_;clear hk hc hp hg lk_ lc_ la_ lg_;go_enter Tryz.func21,Tryz.ntmps21
 go_wp2
 go_loopg [2] lk (fun g i wr=>∃k:Nat,k+g=lk∧i= .int .i64 k∧Hid (OwnK .i64 2 B ka lk kc wr)∧Hid (OwnK .i64 3 B ca lc cc wr)∧Hid (OwnK .i64 2 B ma lp pc wr)∧Hid (OwnK .i64 3 B na lg gc wr)∧wr.cell? ⟨w.heap.size,11,none⟩=some (.slice ka lk kc)∧wr.cell? ⟨w.heap.size,13,none⟩=some (.slice ca lc cc)∧wr.cell? ⟨w.heap.size,16,none⟩=some (.slice ma lp pc)∧wr.cell? ⟨w.heap.size,17,none⟩=some (.slice na lg gc)∧Hid (Below B w wr∧KpM M w wr))
 case atStart=>exact ⟨0,by omega,rfl,hid (HK.out.other fun k hk=>Below.heap_alloc _ _ _ (Nat.lt_of_lt_of_le (LK.out k hk) hM)),hid (HC.out.other fun k hk=>Below.heap_alloc _ _ _ (Nat.lt_of_lt_of_le (LC.out k hk) hM)),hid (HA.out.other fun k hk=>Below.heap_alloc _ _ _ (Nat.lt_of_lt_of_le (LA.out k hk) hM)),hid (HG.out.other fun k hk=>Below.heap_alloc _ _ _ (Nat.lt_of_lt_of_le (LG.out k hk) hM)),by (exact xcw),by (exact xcw),by (exact xcw),by (exact xcw),hid ⟨(Below.refl _ w).alloc hB _,KpM.alloc M w _⟩⟩
 case round=>
  obtain ⟨k0,hk0,rfl,IK0,IC0,IA0,IG0,dK0,dC0,dA0,dG0,HB0⟩:=hrel;by_cases hlt0:k0<lk
  · obtain ⟨g,rfl,hg1,hg2⟩:=IK0.out.form hlt0;obtain ⟨⟨x,hx⟩,hf,-⟩:=IK0.out.set hlt0;have hgM:g<M:=LK.out g rfl;have hgw:g<w.heap.size:=Nat.lt_of_lt_of_le hgM hM;have SK:=hid (IK0.out.any g k0 (-7));have SC:=hid (IC0.out.any g k0 (-7));have SA:=hid (IA0.out.any g k0 (-7));have SG:=hid (IG0.out.any g k0 (-7));have zK:(wr.setCell ⟨g,k0,none⟩ (.int .i64 (-7))).cell? ⟨w.heap.size,11,none⟩=some (.slice (some ⟨g,0,none⟩) lk kc):=by rw [World.cell?_setCell_other _ _ _ _ (by intro e;simp at e<;>omega)];exact dK0
    have zC:(wr.setCell ⟨g,k0,none⟩ (.int .i64 (-7))).cell? ⟨w.heap.size,13,none⟩=some (.slice ca lc cc):=by rw [World.cell?_setCell_other _ _ _ _ (by intro e;simp at e<;>omega)];exact dC0
    have zA:(wr.setCell ⟨g,k0,none⟩ (.int .i64 (-7))).cell? ⟨w.heap.size,16,none⟩=some (.slice ma lp pc):=by rw [World.cell?_setCell_other _ _ _ _ (by intro e;simp at e<;>omega)];exact dA0
    have zG:(wr.setCell ⟨g,k0,none⟩ (.int .i64 (-7))).cell? ⟨w.heap.size,17,none⟩=some (.slice na lg gc):=by rw [World.cell?_setCell_other _ _ _ _ (by intro e;simp at e<;>omega)];exact dG0
    have ZB:=hid (And.intro (HB0.out.1.setCell (show B≤(⟨g,k0,none⟩:Addr).block from hg1) (.int .i64 (-7))) (HB0.out.2.store (j:=k0) hgM (.int .i64 (-7))));have HZ:=hid (And.intro zK (And.intro zC (And.intro zA zG)));clear zK zC zA zG;go_wp2
    go_roundg (gk-1)
    case measure=>omega
    case rel=>exact ⟨k0+1,by omega,by go_num,SK,SC,SA,SG,HZ.out.1,HZ.out.2.1,HZ.out.2.2.1,HZ.out.2.2.2,ZB⟩
  · obtain rfl:lk=k0:=xo;obtain ⟨wo0,hwo0⟩:∃wo,wr=wo:=⟨_,rfl⟩
    subst hwo0;go_wp2
    go_loopg [3] lc (fun g i wr=>∃k:Nat,k+g=lc∧i= .int .i64 k∧Hid (OwnK .i64 2 B ka lk kc wr)∧Hid (OwnK .i64 3 B ca lc cc wr)∧Hid (OwnK .i64 2 B ma lp pc wr)∧Hid (OwnK .i64 3 B na lg gc wr)∧wr.cell? ⟨w.heap.size,11,none⟩=some (.slice ka lk kc)∧wr.cell? ⟨w.heap.size,13,none⟩=some (.slice ca lc cc)∧wr.cell? ⟨w.heap.size,16,none⟩=some (.slice ma lp pc)∧wr.cell? ⟨w.heap.size,17,none⟩=some (.slice na lg gc)∧Hid (Below B w wr∧KpM M w wr))
    case atStart=>exact ⟨0,by omega,rfl,IK0,IC0,IA0,IG0,dK0,dC0,dA0,dG0,HB0⟩
    case round=>
     obtain ⟨k1,hk1,rfl,IK1,IC1,IA1,IG1,dK1,dC1,dA1,dG1,HB1⟩:=hrel;by_cases hlt1:k1<lc
     · obtain ⟨g,rfl,hg1,hg2⟩:=IC1.out.form hlt1;obtain ⟨⟨x,hx⟩,hf,-⟩:=IC1.out.set hlt1;have hgM:g<M:=LC.out g rfl;have hgw:g<w.heap.size:=Nat.lt_of_lt_of_le hgM hM;have SK:=hid (IK1.out.any g k1 (-7));have SC:=hid (IC1.out.any g k1 (-7));have SA:=hid (IA1.out.any g k1 (-7));have SG:=hid (IG1.out.any g k1 (-7));have zK:(wr.setCell ⟨g,k1,none⟩ (.int .i64 (-7))).cell? ⟨w.heap.size,11,none⟩=some (.slice ka lk kc):=by rw [World.cell?_setCell_other _ _ _ _ (by intro e;simp at e<;>omega)];exact dK1
       have zC:(wr.setCell ⟨g,k1,none⟩ (.int .i64 (-7))).cell? ⟨w.heap.size,13,none⟩=some (.slice (some ⟨g,0,none⟩) lc cc):=by rw [World.cell?_setCell_other _ _ _ _ (by intro e;simp at e<;>omega)];exact dC1
       have zA:(wr.setCell ⟨g,k1,none⟩ (.int .i64 (-7))).cell? ⟨w.heap.size,16,none⟩=some (.slice ma lp pc):=by rw [World.cell?_setCell_other _ _ _ _ (by intro e;simp at e<;>omega)];exact dA1
       have zG:(wr.setCell ⟨g,k1,none⟩ (.int .i64 (-7))).cell? ⟨w.heap.size,17,none⟩=some (.slice na lg gc):=by rw [World.cell?_setCell_other _ _ _ _ (by intro e;simp at e<;>omega)];exact dG1
       have ZB:=hid (And.intro (HB1.out.1.setCell (show B≤(⟨g,k1,none⟩:Addr).block from hg1) (.int .i64 (-7))) (HB1.out.2.store (j:=k1) hgM (.int .i64 (-7))));have HZ:=hid (And.intro zK (And.intro zC (And.intro zA zG)));clear zK zC zA zG;go_wp2
       go_roundg (gk-1)
       case measure=>omega
       case rel=>exact ⟨k1+1,by omega,by go_num,SK,SC,SA,SG,HZ.out.1,HZ.out.2.1,HZ.out.2.2.1,HZ.out.2.2.2,ZB⟩
     · obtain rfl:lc=k1:=xo;obtain ⟨wo1,hwo1⟩:∃wo,wr=wo:=⟨_,rfl⟩
       subst hwo1;go_wp2
       go_loopg [4] lp (fun g i wr=>∃k:Nat,k+g=lp∧i= .int .i64 k∧Hid (OwnK .i64 2 B ka lk kc wr)∧Hid (OwnK .i64 3 B ca lc cc wr)∧Hid (OwnK .i64 2 B ma lp pc wr)∧Hid (OwnK .i64 3 B na lg gc wr)∧wr.cell? ⟨w.heap.size,11,none⟩=some (.slice ka lk kc)∧wr.cell? ⟨w.heap.size,13,none⟩=some (.slice ca lc cc)∧wr.cell? ⟨w.heap.size,16,none⟩=some (.slice ma lp pc)∧wr.cell? ⟨w.heap.size,17,none⟩=some (.slice na lg gc)∧Hid (Below B w wr∧KpM M w wr))
       case atStart=>exact ⟨0,by omega,rfl,IK1,IC1,IA1,IG1,dK1,dC1,dA1,dG1,HB1⟩
       case round=>
        obtain ⟨k2,hk2,rfl,IK2,IC2,IA2,IG2,dK2,dC2,dA2,dG2,HB2⟩:=hrel;by_cases hlt2:k2<lp
        · obtain ⟨g,rfl,hg1,hg2⟩:=IA2.out.form hlt2;obtain ⟨⟨x,hx⟩,hf,-⟩:=IA2.out.set hlt2;have hgM:g<M:=LA.out g rfl;have hgw:g<w.heap.size:=Nat.lt_of_lt_of_le hgM hM;have SK:=hid (IK2.out.any g k2 (-7));have SC:=hid (IC2.out.any g k2 (-7));have SA:=hid (IA2.out.any g k2 (-7));have SG:=hid (IG2.out.any g k2 (-7));have zK:(wr.setCell ⟨g,k2,none⟩ (.int .i64 (-7))).cell? ⟨w.heap.size,11,none⟩=some (.slice ka lk kc):=by rw [World.cell?_setCell_other _ _ _ _ (by intro e;simp at e<;>omega)];exact dK2
          have zC:(wr.setCell ⟨g,k2,none⟩ (.int .i64 (-7))).cell? ⟨w.heap.size,13,none⟩=some (.slice ca lc cc):=by rw [World.cell?_setCell_other _ _ _ _ (by intro e;simp at e<;>omega)];exact dC2
          have zA:(wr.setCell ⟨g,k2,none⟩ (.int .i64 (-7))).cell? ⟨w.heap.size,16,none⟩=some (.slice (some ⟨g,0,none⟩) lp pc):=by rw [World.cell?_setCell_other _ _ _ _ (by intro e;simp at e<;>omega)];exact dA2
          have zG:(wr.setCell ⟨g,k2,none⟩ (.int .i64 (-7))).cell? ⟨w.heap.size,17,none⟩=some (.slice na lg gc):=by rw [World.cell?_setCell_other _ _ _ _ (by intro e;simp at e<;>omega)];exact dG2
          have ZB:=hid (And.intro (HB2.out.1.setCell (show B≤(⟨g,k2,none⟩:Addr).block from hg1) (.int .i64 (-7))) (HB2.out.2.store (j:=k2) hgM (.int .i64 (-7))));have HZ:=hid (And.intro zK (And.intro zC (And.intro zA zG)));clear zK zC zA zG;go_wp2
          go_roundg (gk-1)
          case measure=>omega
          case rel=>exact ⟨k2+1,by omega,by go_num,SK,SC,SA,SG,HZ.out.1,HZ.out.2.1,HZ.out.2.2.1,HZ.out.2.2.2,ZB⟩
        · obtain rfl:lp=k2:=xo;obtain ⟨wo2,hwo2⟩:∃wo,wr=wo:=⟨_,rfl⟩
          subst hwo2;go_wp2
          go_loopg [5] lg (fun g i wr=>∃k:Nat,k+g=lg∧i= .int .i64 k∧Hid (OwnK .i64 2 B ka lk kc wr)∧Hid (OwnK .i64 3 B ca lc cc wr)∧Hid (OwnK .i64 2 B ma lp pc wr)∧Hid (OwnK .i64 3 B na lg gc wr)∧wr.cell? ⟨w.heap.size,11,none⟩=some (.slice ka lk kc)∧wr.cell? ⟨w.heap.size,13,none⟩=some (.slice ca lc cc)∧wr.cell? ⟨w.heap.size,16,none⟩=some (.slice ma lp pc)∧wr.cell? ⟨w.heap.size,17,none⟩=some (.slice na lg gc)∧Hid (Below B w wr∧KpM M w wr))
          case atStart=>exact ⟨0,by omega,rfl,IK2,IC2,IA2,IG2,dK2,dC2,dA2,dG2,HB2⟩
          case round=>
           obtain ⟨k3,hk3,rfl,IK3,IC3,IA3,IG3,dK3,dC3,dA3,dG3,HB3⟩:=hrel;by_cases hlt3:k3<lg
           · obtain ⟨g,rfl,hg1,hg2⟩:=IG3.out.form hlt3;obtain ⟨⟨x,hx⟩,hf,-⟩:=IG3.out.set hlt3;have hgM:g<M:=LG.out g rfl;have hgw:g<w.heap.size:=Nat.lt_of_lt_of_le hgM hM;have SK:=hid (IK3.out.any g k3 (-7));have SC:=hid (IC3.out.any g k3 (-7));have SA:=hid (IA3.out.any g k3 (-7));have SG:=hid (IG3.out.any g k3 (-7));have zK:(wr.setCell ⟨g,k3,none⟩ (.int .i64 (-7))).cell? ⟨w.heap.size,11,none⟩=some (.slice ka lk kc):=by rw [World.cell?_setCell_other _ _ _ _ (by intro e;simp at e<;>omega)];exact dK3
             have zC:(wr.setCell ⟨g,k3,none⟩ (.int .i64 (-7))).cell? ⟨w.heap.size,13,none⟩=some (.slice ca lc cc):=by rw [World.cell?_setCell_other _ _ _ _ (by intro e;simp at e<;>omega)];exact dC3
             have zA:(wr.setCell ⟨g,k3,none⟩ (.int .i64 (-7))).cell? ⟨w.heap.size,16,none⟩=some (.slice ma lp pc):=by rw [World.cell?_setCell_other _ _ _ _ (by intro e;simp at e<;>omega)];exact dA3
             have zG:(wr.setCell ⟨g,k3,none⟩ (.int .i64 (-7))).cell? ⟨w.heap.size,17,none⟩=some (.slice (some ⟨g,0,none⟩) lg gc):=by rw [World.cell?_setCell_other _ _ _ _ (by intro e;simp at e<;>omega)];exact dG3
             have ZB:=hid (And.intro (HB3.out.1.setCell (show B≤(⟨g,k3,none⟩:Addr).block from hg1) (.int .i64 (-7))) (HB3.out.2.store (j:=k3) hgM (.int .i64 (-7))));have HZ:=hid (And.intro zK (And.intro zC (And.intro zA zG)));clear zK zC zA zG;go_wp2
             go_roundg (gk-1)
             case measure=>omega
             case rel=>exact ⟨k3+1,by omega,by go_num,SK,SC,SA,SG,HZ.out.1,HZ.out.2.1,HZ.out.2.2.1,HZ.out.2.2.2,ZB⟩
           · obtain rfl:lg=k3:=xo;go_wp2
             first|go_ret|skip
             exact bodyPost_end (results_none rfl _ _ _) rfl ⟨⟨_,rfl⟩,HB3.out⟩
theorem spoil21_kp (r:CobR) (A:CobA) (B M:Nat) (w:World) (h:OwC w B M r A) (hB:B≤w.heap.size) (hM:M≤w.heap.size):Calls Tryz.prog 21 #[cobV r A] w fun e w'=>(∃v,e= .returned v)∧Spd B M w w':=
  spoil21_kc r.c r.s.seg r.s.laid r.l B M A.sa.wa A.sa.ka A.sa.va A.sa.ca A.ca A.ma A.sa.wc A.sa.kc A.sa.vc A.sa.cc A.cc A.mc r.s.ws.length r.s.ks.length r.s.vs.length r.s.cs.length r.cs.length r.ms.length w ⟨r.s.ks,rfl,h.o2⟩ ⟨r.s.cs,rfl,h.o4⟩ ⟨r.ms,rfl,h.o5⟩ ⟨r.cs,rfl,h.o6⟩ hB hM h.m2 h.m4 h.m5 h.m6 (Nat.le_trans h.sz.k xdd) (Nat.le_trans h.sz.c xdd) (Nat.le_trans h.sz.m xdd) (Nat.le_trans h.sz.n xdd)
end
section
open Go.RowKit Go.Shelf Go.Sort
open Go.Lib
def okB (B M:Nat):List (Nat×TypeId×List Value)→Prop
  | []=>True
  | x::l=>(x.1<B∨M≤x.1)∧okB B M l
theorem BXs.spd {w w':World} {B M:Nat} {l:List (Nat×TypeId×List Value)} (h:BXs w l) (k:Spd B M w w') (hd:okB B M l):BXs w' l:=by
 induction l with
 | nil=>trivial
 | cons y l ih=>exact ⟨k.bx h.1 hd.1,ih h.2 hd.2⟩
def OWs (w:World):List (Nat×Nat×CobR×CobA)→Prop
  | []=>True
  | x::l=>OwC w x.1 x.2.1 x.2.2.1 x.2.2.2∧OWs w l
theorem OWs.cons' {w:World} {B M:Nat} {r:CobR} {A:CobA} {l:List (Nat×Nat×CobR×CobA)} (k:OWs w l) (h:OwC w B M r A):OWs w ((B,M,r,A)::l):=⟨h,k⟩
theorem OWs.at {w:World} {l:List (Nat×Nat×CobR×CobA)} (h:OWs w l) (i:Nat) {x:Nat×Nat×CobR×CobA} (hx:l[i]? =some x):OwC w x.1 x.2.1 x.2.2.1 x.2.2.2:=by
 induction l generalizing i with
 | nil=>simp at hx
 | cons y l ih=>
  cases i with
  | zero=>simp at hx;subst hx;exact h.1
  | succ i=>exact ih h.2 i (by simpa using hx)
theorem OWs.below {w w':World} {l:List (Nat×Nat×CobR×CobA)} (h:OWs w l) (hb:Below w.heap.size w w'):OWs w' l:=by
 induction l with
 | nil=>trivial
 | cons y l ih=>exact ⟨h.1.below hb,ih h.2⟩
theorem pr_eql (p:Int×Int) (w:World):(binOp .eql 52 (.agg (prL p).toArray) (.agg (prL p).toArray)).run Tryz.prog w= .ok (.bool true) w:=by
 have u3:=Tryz.underlying2;have a3:=Tryz.isAgg2;have z3:=Tryz.sizeOf2;have hS:Tryz.prog.underlying 52=some (.struct (Tryz.prog.fieldsOf 52)):=by kernel_rfl
 have hp:Tryz.prog.stoodInHeld 52=false:=by kernel_rfl
 simp only [prL];rw [run_eql_struct,show (10000:Nat)=9999+1 from rfl,run_equalIn_agg w 9999 52 _ _ hS hp];simp only [Program.fieldsOf,Tryz.underlying52];go_simp
theorem pr_eqlV (p:Int×Int) (w:World):(binOp .eql 52 (prV p) (prV p)).run Tryz.prog w= .ok (.bool true) w:=pr_eql p w
attribute [local go_sem high] pr_eql pr_eqlV
theorem CT_g1 (r r':CobR) (A A':CobA) (key k:Int) (w:World)
    (GR:Hid (∀(W:World),Below w.heap.size w W→Calls Tryz.prog 4 #[cobV r A,.int .i64 600] W (AnsB W (.bool true)))):
    Calls Tryz.prog 3 #[cobV r A,cobV r' A',.int .i64 key,.int .i64 k] w (AnsB w (.bool true)):=by
 dsimp only [cobV] at *;go_enter Tryz.func3,Tryz.ntmps3
 go_upto_region 1 with (fail)
 generalize hw0:(w.alloc _).alloc _=w0;obtain ⟨hb0,hx⟩:=bxs_two (l1:=cobL r A) (l2:=cobL r' A') hw0;have HX:Hid (BXs w0 [(w.heap.size+1,35,cobL r' A'),(w.heap.size,35,cobL r A)]):=hid hx;have HB:=hid hb0;have hz0:=hb0.size;clear hw0 hb0 hx;have hl_o:w.heap.size+1<w0.heap.size:=bx_lt (HX.out.at 0 rfl);have hl_m:w.heap.size<w0.heap.size:=bx_lt (HX.out.at 1 rfl);go_wp2_with (first|(refine wpl_load 35 (.tmp 4) (w.heap.size) (cobL r A) xk rfl rfl Tryz.underlying35 rfl xk (bx_pb (HX.out.at 1 rfl)) ?_))
 refine (GR.out _ HB.out).mono ?_;rintro e w1 ⟨rfl,hb⟩;replace HX:=hid (HX.out.below hb);replace HB:=xv hb HB;have hz1:=hb.size;clear hb;go_wp2
 go_ret
 exact ⟨rfl,HB.out⟩
theorem CT_g2 (r r':CobR) (A A':CobA) (key k:Int) (w:World)
    (GR:Hid (∀(W:World),Below w.heap.size w W→Calls Tryz.prog 4 #[cobV r A,.int .i64 600] W (AnsB W (.bool false))))
    (GS:Hid (∀(W:World),Below w.heap.size w W→Calls Tryz.prog 4 #[cobV r' A',.int .i64 600] W (AnsB W (.bool true)))):
    Calls Tryz.prog 3 #[cobV r A,cobV r' A',.int .i64 key,.int .i64 k] w (AnsB w (.bool true)):=by
 dsimp only [cobV] at *;go_enter Tryz.func3,Tryz.ntmps3
 go_upto_region 1 with (fail)
 generalize hw0:(w.alloc _).alloc _=w0;obtain ⟨hb0,hx⟩:=bxs_two (l1:=cobL r A) (l2:=cobL r' A') hw0;have HX:Hid (BXs w0 [(w.heap.size+1,35,cobL r' A'),(w.heap.size,35,cobL r A)]):=hid hx;have HB:=hid hb0;have hz0:=hb0.size;clear hw0 hb0 hx;have hl_o:w.heap.size+1<w0.heap.size:=bx_lt (HX.out.at 0 rfl);have hl_m:w.heap.size<w0.heap.size:=bx_lt (HX.out.at 1 rfl);go_wp2_with (first|(refine wpl_load 35 (.tmp 4) (w.heap.size) (cobL r A) xk rfl rfl Tryz.underlying35 rfl xk (bx_pb (HX.out.at 1 rfl)) ?_))
 refine (GR.out _ HB.out).mono ?_;rintro e w1 ⟨rfl,hb⟩;replace HX:=hid (HX.out.below hb);replace HB:=xv hb HB;have hz1:=hb.size;clear hb;go_wp2_with (first|(refine wpl_load 35 (.tmp 5) (w.heap.size+1) (cobL r' A') xk rfl rfl Tryz.underlying35 rfl xk (bx_pb (HX.out.at 0 rfl)) ?_))
 refine (GS.out _ HB.out).mono ?_;rintro e w2 ⟨rfl,hb⟩;replace HX:=hid (HX.out.below hb);replace HB:=xv hb HB;have hz2:=hb.size;clear hb;go_wp2
 go_ret
 exact ⟨rfl,HB.out⟩
theorem CT_main (r r' nr:CobR) (A A':CobA) (key k E v ev n en2 ep eq en:Int) (p q:Int×Int) (b:Bool) (w:World)
    (GR:Hid (∀(W:World),Below w.heap.size w W→Calls Tryz.prog 4 #[cobV r A,.int .i64 600] W (AnsB W (.bool false))))
    (GS:Hid (∀(W:World),Below w.heap.size w W→Calls Tryz.prog 4 #[cobV r' A',.int .i64 600] W (AnsB W (.bool false))))
    (IN:Hid (∀W,Below w.heap.size w W→InC W r A)) (IN':Hid (∀W,Below w.heap.size w W→InC W r' A'))
    (TW:Hid (∀(W:World),Below w.heap.size w W→Calls Tryz.prog 5 #[cobV r A] W (FrC1 W r)))
    (KT:Hid (∀(W:World) (B:CobA),Below w.heap.size w W→InC W r B→Calls Tryz.prog 6 #[cobV r B] W (FrC1 W r)))
    (KN:Hid (∀(W:World),Below w.heap.size w W→Calls Tryz.prog 7 #[.agg (cfL r.c).toArray] W (FrC W nr en)))
    (RN:Hid (∀(W:World),Below w.heap.size w W→Calls Tryz.prog 8 #[.agg (cfL r.c).toArray] W (FrC W nr en)))
    (KG:Hid (∀(W:World) (B:CobA),Below w.heap.size w W→InC W r B→Calls Tryz.prog 9 #[cobV r B,.int .i64 key] W (AnsB W (.tuple #[.int .i64 v,.int .i64 ev]))))
    (RG:Hid (∀(W:World),Below w.heap.size w W→Calls Tryz.prog 10 #[cobV r A,.int .i64 key] W (AnsB W (.tuple #[.int .i64 v,.int .i64 ev]))))
    (KR:Hid (∀(W:World) (B:CobA),Below w.heap.size w W→InC W r B→Calls Tryz.prog 11 #[cobV r B,.int .i64 key] W (AnsB W (.tuple #[.int .i64 n,.int .i64 en2]))))
    (RR:Hid (∀(W:World),Below w.heap.size w W→Calls Tryz.prog 12 #[cobV r A,.int .i64 key] W (AnsB W (.tuple #[.int .i64 n,.int .i64 en2]))))
    (KX:Hid (∀(W:World) (B:CobA),Below w.heap.size w W→InC W r B→Calls Tryz.prog 13 #[cobV r B,.int .i64 key] W (AnsB W (.tuple #[prV p,.int .i64 ep]))))
    (RX:Hid (∀(W:World),Below w.heap.size w W→Calls Tryz.prog 14 #[cobV r A,.int .i64 key] W (AnsB W (.tuple #[prV p,.int .i64 ep]))))
    (KS:Hid (∀(W:World) (B:CobA),Below w.heap.size w W→InC W r B→Calls Tryz.prog 15 #[cobV r B,.int .i64 k] W (AnsB W (.tuple #[prV q,.int .i64 eq]))))
    (RS:Hid (∀(W:World),Below w.heap.size w W→Calls Tryz.prog 16 #[cobV r A,.int .i64 k] W (AnsB W (.tuple #[prV q,.int .i64 eq]))))
    (KC:Hid (∀(W:World) (B:CobA),Below w.heap.size w W→InC W r B→Calls Tryz.prog 17 #[cobV r B] W (AnsB W (.int .i64 E))))
    (RC:Hid (∀(W:World),Below w.heap.size w W→Calls Tryz.prog 18 #[cobV r A] W (AnsB W (.int .i64 E))))
    (S0:Hid (∀(W:World) (B:CobA),Below w.heap.size w W→InC W r B→Calls Tryz.prog 19 #[cobV r B,cobV r' A'] W (AnsB W (.bool b))))
    (S1:Hid (∀(W:World),Below w.heap.size w W→Calls Tryz.prog 20 #[cobV r A,cobV r' A'] W (AnsB W (.bool b))))
    (S2:Hid (∀(W:World) (B:CobA),Below w.heap.size w W→InC W r B→Calls Tryz.prog 19 #[cobV r B,cobV r A] W (AnsB W (.bool true))))
    (S3:Hid (∀(W:World) (B:CobA),Below w.heap.size w W→InC W r B→Calls Tryz.prog 20 #[cobV r B,cobV r A] W (AnsB W (.bool true))))
    (S4:Hid (∀(W:World) (B D:CobA),Below w.heap.size w W→InC W nr B→InC W nr D→Calls Tryz.prog 20 #[cobV nr B,cobV nr D] W (AnsB W (.bool true)))):
    Calls Tryz.prog 3 #[cobV r A,cobV r' A',.int .i64 key,.int .i64 k] w (AnsB w (.bool true)):=by
 dsimp only [cobV] at *;go_enter Tryz.func3,Tryz.ntmps3
 go_upto_region 1 with (fail)
 generalize hw0:(w.alloc _).alloc _=w0;obtain ⟨hb0,hx⟩:=bxs_two (l1:=cobL r A) (l2:=cobL r' A') hw0;have HX:Hid (BXs w0 [(w.heap.size+1,35,cobL r' A'),(w.heap.size,35,cobL r A)]):=hid hx;have HB:=hid hb0;have hz0:=hb0.size;clear hw0 hb0 hx;have hl_o:w.heap.size+1<w0.heap.size:=bx_lt (HX.out.at 0 rfl);have hl_m:w.heap.size<w0.heap.size:=bx_lt (HX.out.at 1 rfl);go_wp2_with (first|(refine wpl_load 35 (.tmp 4) (w.heap.size) (cobL r A) xk rfl rfl Tryz.underlying35 rfl xk (bx_pb (HX.out.at 1 rfl)) ?_))
 refine (GR.out _ HB.out).mono ?_;rintro e w1 ⟨rfl,hb⟩;replace HX:=hid (HX.out.below hb);replace HB:=xv hb HB;have hz1:=hb.size;clear hb;go_wp2_with (first|(refine wpl_load 35 (.tmp 5) (w.heap.size+1) (cobL r' A') xk rfl rfl Tryz.underlying35 rfl xk (bx_pb (HX.out.at 0 rfl)) ?_))
 refine (GS.out _ HB.out).mono ?_;rintro e w2 ⟨rfl,hb⟩;replace HX:=hid (HX.out.below hb);replace HB:=xv hb HB;have hz2:=hb.size;clear hb;have HO:Hid (OWs w2 []):=hid trivial;go_wp2_with (first|(refine wpl_load 35 (.tmp 4) (w.heap.size) (cobL r A) xk rfl rfl Tryz.underlying35 rfl xk (bx_pb (HX.out.at 1 rfl)) ?_))
 refine (TW.out _ HB.out).mono ?_;rintro e w3 ⟨A0,rfl,ho,hb⟩;replace HX:=hid (HX.out.below hb);replace HB:=xv hb HB;have hz3:=hb.size;replace HO:=hid (HO.out.below hb);replace HO:=hid (HO.out.cons' ho);clear hb ho;go_upto_region 4 with (first|(refine wpl_store_new 35 (.tmp 9) (.tmp 39) (zcobL).toArray (cobL r A0).toArray rfl rfl rfl rfl xk rfl (cobL_one _ _) ?_))
 have hx:=bx_new w3 (cobL r A0) 35;have hb:=(Below.refl w3.heap.size w3).alloc (Nat.le_refl _) (.cells (cobL r A0).toArray 35);generalize w3.alloc _=w4 at *;replace HX:=hid (HX.out.below hb);replace HB:=xv hb HB;have hz4:=hb.size;replace HO:=hid (HO.out.below hb);have hl_own:=bx_lt hx;replace HX:=hid (HX.out.cons' hx);clear hx hb;go_wp2_with (first|(refine wpl_load 35 (.tmp 9) (w3.heap.size) (cobL r A0) xk rfl rfl Tryz.underlying35 rfl xk (bx_pb (HX.out.at 0 rfl)) ?_))
 refine (KT.out _ _ HB.out (HO.out.at 0 rfl).inC).mono ?_;rintro e w5 ⟨A1,rfl,ho,hb⟩;replace HX:=hid (HX.out.below hb);replace HB:=xv hb HB;have hz5:=hb.size;replace HO:=hid (HO.out.below hb);replace HO:=hid (HO.out.cons' ho);clear hb ho;go_upto_region 5 with (first|(refine wpl_store_new 35 (.tmp 10) (.tmp 41) (zcobL).toArray (cobL r A1).toArray rfl rfl rfl rfl xk rfl (cobL_one _ _) ?_))
 have hx:=bx_new w5 (cobL r A1) 35;have hb:=(Below.refl w5.heap.size w5).alloc (Nat.le_refl _) (.cells (cobL r A1).toArray 35);generalize w5.alloc _=w6 at *;replace HX:=hid (HX.out.below hb);replace HB:=xv hb HB;have hz6:=hb.size;replace HO:=hid (HO.out.below hb);have hl_t:=bx_lt hx;replace HX:=hid (HX.out.cons' hx);clear hx hb;go_wp2_with (first|(refine wpl_load_mid 23 (.tmp 44) (w.heap.size) 0 (cfL r.c) xk rfl rfl Tryz.underlying23 rfl xk (bx_part (HX.out.at 3 rfl) 0 rfl) ?_))
 refine (KN.out _ HB.out).mono ?_;rintro e w7 ⟨A2,rfl,ho,hb⟩;replace HX:=hid (HX.out.below hb);replace HB:=xv hb HB;have hz7:=hb.size;replace HO:=hid (HO.out.below hb);replace HO:=hid (HO.out.cons' ho);clear hb ho;go_upto_region 6 with (first|(refine wpl_store_new 35 (.tmp 11) (.tmp 47) (zcobL).toArray (cobL nr A2).toArray rfl rfl rfl rfl xk rfl (cobL_one _ _) ?_))
 have hx:=bx_new w7 (cobL nr A2) 35;have hb:=(Below.refl w7.heap.size w7).alloc (Nat.le_refl _) (.cells (cobL nr A2).toArray 35);generalize w7.alloc _=w8 at *;replace HX:=hid (HX.out.below hb);replace HB:=xv hb HB;have hz8:=hb.size;replace HO:=hid (HO.out.below hb);have hl_x:=bx_lt hx;replace HX:=hid (HX.out.cons' hx);clear hx hb;go_wp2_with (first|(refine wpl_load_mid 23 (.tmp 51) (w.heap.size) 0 (cfL r.c) xk rfl rfl Tryz.underlying23 rfl xk (bx_part (HX.out.at 4 rfl) 0 rfl) ?_))
 refine (RN.out _ HB.out).mono ?_;rintro e w9 ⟨A3,rfl,ho,hb⟩;replace HX:=hid (HX.out.below hb);replace HB:=xv hb HB;have hz9:=hb.size;replace HO:=hid (HO.out.below hb);replace HO:=hid (HO.out.cons' ho);clear hb ho;go_upto_region 7 with (first|(refine wpl_store_new 35 (.tmp 13) (.tmp 54) (zcobL).toArray (cobL nr A3).toArray rfl rfl rfl rfl xk rfl (cobL_one _ _) ?_))
 have hx:=bx_new w9 (cobL nr A3) 35;have hb:=(Below.refl w9.heap.size w9).alloc (Nat.le_refl _) (.cells (cobL nr A3).toArray 35);generalize w9.alloc _=w10 at *;replace HX:=hid (HX.out.below hb);replace HB:=xv hb HB;have hz10:=hb.size;replace HO:=hid (HO.out.below hb);have hl_y:=bx_lt hx;replace HX:=hid (HX.out.cons' hx);clear hx hb;go_wp2_with (first|(refine wpl_load 35 (.tmp 9) (w3.heap.size) (cobL r A0) xk rfl rfl Tryz.underlying35 rfl xk (bx_pb (HX.out.at 3 rfl)) ?_))
 refine (KG.out _ _ HB.out (HO.out.at 3 rfl).inC).mono ?_;rintro e w11 ⟨rfl,hb⟩;replace HX:=hid (HX.out.below hb);replace HB:=xv hb HB;have hz11:=hb.size;replace HO:=hid (HO.out.below hb);clear hb;go_wp2_with (first|(refine wpl_load 35 (.tmp 4) (w.heap.size) (cobL r A) xk rfl rfl Tryz.underlying35 rfl xk (bx_pb (HX.out.at 5 rfl)) ?_))
 refine (RG.out _ HB.out).mono ?_;rintro e w12 ⟨rfl,hb⟩;replace HX:=hid (HX.out.below hb);replace HB:=xv hb HB;have hz12:=hb.size;replace HO:=hid (HO.out.below hb);clear hb;go_wp2_with (first|(refine wpl_load 35 (.tmp 9) (w3.heap.size) (cobL r A0) xk rfl rfl Tryz.underlying35 rfl xk (bx_pb (HX.out.at 3 rfl)) ?_))
 refine (KR.out _ _ HB.out (HO.out.at 3 rfl).inC).mono ?_;rintro e w13 ⟨rfl,hb⟩;replace HX:=hid (HX.out.below hb);replace HB:=xv hb HB;have hz13:=hb.size;replace HO:=hid (HO.out.below hb);clear hb;go_wp2_with (first|(refine wpl_load 35 (.tmp 4) (w.heap.size) (cobL r A) xk rfl rfl Tryz.underlying35 rfl xk (bx_pb (HX.out.at 5 rfl)) ?_))
 refine (RR.out _ HB.out).mono ?_;rintro e w14 ⟨rfl,hb⟩;replace HX:=hid (HX.out.below hb);replace HB:=xv hb HB;have hz14:=hb.size;replace HO:=hid (HO.out.below hb);clear hb;go_wp2_with (first|(refine wpl_load 35 (.tmp 9) (w3.heap.size) (cobL r A0) xk rfl rfl Tryz.underlying35 rfl xk (bx_pb (HX.out.at 3 rfl)) ?_))
 refine (KX.out _ _ HB.out (HO.out.at 3 rfl).inC).mono ?_;rintro e w15 ⟨rfl,hb⟩;replace HX:=hid (HX.out.below hb);replace HB:=xv hb HB;have hz15:=hb.size;replace HO:=hid (HO.out.below hb);clear hb;go_upto_region 12 with (first|(refine wpl_store_new 52 (.tmp 23) (.tmp 84) (prL (0,0)).toArray (prL p).toArray rfl rfl rfl rfl xk rfl (prL_one _) ?_))
 have hx:=bx_new w15 (prL p) 52;have hb:=(Below.refl w15.heap.size w15).alloc (Nat.le_refl _) (.cells (prL p).toArray 52);generalize w15.alloc _=w16 at *;replace HX:=hid (HX.out.below hb);replace HB:=xv hb HB;have hz16:=hb.size;replace HO:=hid (HO.out.below hb);have hl_p1:=bx_lt hx;replace HX:=hid (HX.out.cons' hx);clear hx hb;go_wp2_with (first|(refine wpl_load 35 (.tmp 4) (w.heap.size) (cobL r A) xk rfl rfl Tryz.underlying35 rfl xk (bx_pb (HX.out.at 6 rfl)) ?_))
 refine (RX.out _ HB.out).mono ?_;rintro e w17 ⟨rfl,hb⟩;replace HX:=hid (HX.out.below hb);replace HB:=xv hb HB;have hz17:=hb.size;replace HO:=hid (HO.out.below hb);clear hb;go_upto_region 13 with (first|(refine wpl_store_new 52 (.tmp 25) (.tmp 90) (prL (0,0)).toArray (prL p).toArray rfl rfl rfl rfl xk rfl (prL_one _) ?_))
 have hx:=bx_new w17 (prL p) 52;have hb:=(Below.refl w17.heap.size w17).alloc (Nat.le_refl _) (.cells (prL p).toArray 52);generalize w17.alloc _=w18 at *;replace HX:=hid (HX.out.below hb);replace HB:=xv hb HB;have hz18:=hb.size;replace HO:=hid (HO.out.below hb);have hl_p2:=bx_lt hx;replace HX:=hid (HX.out.cons' hx);clear hx hb;go_wp2_with (first|(refine wpl_load 35 (.tmp 9) (w3.heap.size) (cobL r A0) xk rfl rfl Tryz.underlying35 rfl xk (bx_pb (HX.out.at 5 rfl)) ?_))
 refine (KS.out _ _ HB.out (HO.out.at 3 rfl).inC).mono ?_;rintro e w19 ⟨rfl,hb⟩;replace HX:=hid (HX.out.below hb);replace HB:=xv hb HB;have hz19:=hb.size;replace HO:=hid (HO.out.below hb);clear hb;go_upto_region 14 with (first|(refine wpl_store_new 52 (.tmp 27) (.tmp 96) (prL (0,0)).toArray (prL q).toArray rfl rfl rfl rfl xk rfl (prL_one _) ?_))
 have hx:=bx_new w19 (prL q) 52;have hb:=(Below.refl w19.heap.size w19).alloc (Nat.le_refl _) (.cells (prL q).toArray 52);generalize w19.alloc _=w20 at *;replace HX:=hid (HX.out.below hb);replace HB:=xv hb HB;have hz20:=hb.size;replace HO:=hid (HO.out.below hb);have hl_q1:=bx_lt hx;replace HX:=hid (HX.out.cons' hx);clear hx hb;go_wp2_with (first|(refine wpl_load 35 (.tmp 4) (w.heap.size) (cobL r A) xk rfl rfl Tryz.underlying35 rfl xk (bx_pb (HX.out.at 8 rfl)) ?_))
 refine (RS.out _ HB.out).mono ?_;rintro e w21 ⟨rfl,hb⟩;replace HX:=hid (HX.out.below hb);replace HB:=xv hb HB;have hz21:=hb.size;replace HO:=hid (HO.out.below hb);clear hb;go_upto_region 15 with (first|(refine wpl_store_new 52 (.tmp 29) (.tmp 102) (prL (0,0)).toArray (prL q).toArray rfl rfl rfl rfl xk rfl (prL_one _) ?_))
 have hx:=bx_new w21 (prL q) 52;have hb:=(Below.refl w21.heap.size w21).alloc (Nat.le_refl _) (.cells (prL q).toArray 52);generalize w21.alloc _=w22 at *;replace HX:=hid (HX.out.below hb);replace HB:=xv hb HB;have hz22:=hb.size;replace HO:=hid (HO.out.below hb);have hl_q2:=bx_lt hx;replace HX:=hid (HX.out.cons' hx);clear hx hb;have K0:=hid (fun d os=>kr w22 d os (KC.out _ _ (below_via (below_regrown w22 d os) HB.out HB.out.size) ((HO.out.at 3 rfl).inC.below (below_regrown w22 d os))));have K1:=hid (fun d os=>kr w22 d os (RC.out _ (below_via (below_regrown w22 d os) HB.out HB.out.size)));have K2:=hid (fun d os=>kr w22 d os (S0.out _ _ (below_via (below_regrown w22 d os) HB.out HB.out.size) ((HO.out.at 3 rfl).inC.below (below_regrown w22 d os))));have K3:=hid (fun d os=>kr w22 d os (S1.out _ (below_via (below_regrown w22 d os) HB.out HB.out.size)));have K4:=hid (fun d os=>kr w22 d os (S2.out _ _ (below_via (below_regrown w22 d os) HB.out HB.out.size) ((HO.out.at 3 rfl).inC.below (below_regrown w22 d os))));have K5:=hid (fun d os=>kr w22 d os (S3.out _ _ (below_via (below_regrown w22 d os) HB.out HB.out.size) ((HO.out.at 2 rfl).inC.below (below_regrown w22 d os))));have K6:=hid (fun d os=>kr w22 d os (S4.out _ _ _ (below_via (below_regrown w22 d os) HB.out HB.out.size) ((HO.out.at 1 rfl).inC.below (below_regrown w22 d os)) ((HO.out.at 0 rfl).inC.below (below_regrown w22 d os))));have g1:(E==E)=true:=by simp
 have g2:(b==b)=true:=by simp
 have g3:(en==en)=true:=by simp
 refine wp_region_quiet_below xk xk ?_;repeat (first|go_big_quiet_skip|(go_big_quiet_want;refine quiet_load 35 (.tmp 9) (w3.heap.size) (cobL r A0) rfl rfl Tryz.underlying35 rfl xk (fun w9 hC=>by obtain ⟨⟨dd,oo⟩,rfl⟩:=hC;exact bx_pb (HX.out.at 7 rfl |> fun h=>bx_below (below_regrown _ dd oo) h (bx_lt h))) ?_;(conv=>arg 1;simp only [Act.put,List.setIfInBounds_toArray,List.set_cons_succ,List.set_cons_zero]);go_big_quiet_on)|(go_big_quiet_want;refine quiet_load 35 (.tmp 4) (w.heap.size) (cobL r A) rfl rfl Tryz.underlying35 rfl xk (fun w9 hC=>by obtain ⟨⟨dd,oo⟩,rfl⟩:=hC;exact bx_pb (HX.out.at 9 rfl |> fun h=>bx_below (below_regrown _ dd oo) h (bx_lt h))) ?_;(conv=>arg 1;simp only [Act.put,List.setIfInBounds_toArray,List.set_cons_succ,List.set_cons_zero]);go_big_quiet_on)|(go_big_quiet_want;refine quiet_load 35 (.tmp 5) (w.heap.size+1) (cobL r' A') rfl rfl Tryz.underlying35 rfl xk (fun w9 hC=>by obtain ⟨⟨dd,oo⟩,rfl⟩:=hC;exact bx_pb (HX.out.at 8 rfl |> fun h=>bx_below (below_regrown _ dd oo) h (bx_lt h))) ?_;(conv=>arg 1;simp only [Act.put,List.setIfInBounds_toArray,List.set_cons_succ,List.set_cons_zero]);go_big_quiet_on)|(go_big_quiet_want;refine quiet_load 35 (.tmp 10) (w5.heap.size) (cobL r A1) rfl rfl Tryz.underlying35 rfl xk (fun w9 hC=>by obtain ⟨⟨dd,oo⟩,rfl⟩:=hC;exact bx_pb (HX.out.at 6 rfl |> fun h=>bx_below (below_regrown _ dd oo) h (bx_lt h))) ?_;(conv=>arg 1;simp only [Act.put,List.setIfInBounds_toArray,List.set_cons_succ,List.set_cons_zero]);go_big_quiet_on)|(go_big_quiet_want;refine quiet_load 35 (.tmp 11) (w7.heap.size) (cobL nr A2) rfl rfl Tryz.underlying35 rfl xk (fun w9 hC=>by obtain ⟨⟨dd,oo⟩,rfl⟩:=hC;exact bx_pb (HX.out.at 5 rfl |> fun h=>bx_below (below_regrown _ dd oo) h (bx_lt h))) ?_;(conv=>arg 1;simp only [Act.put,List.setIfInBounds_toArray,List.set_cons_succ,List.set_cons_zero]);go_big_quiet_on)|(go_big_quiet_want;refine quiet_load 35 (.tmp 13) (w9.heap.size) (cobL nr A3) rfl rfl Tryz.underlying35 rfl xk (fun w9 hC=>by obtain ⟨⟨dd,oo⟩,rfl⟩:=hC;exact bx_pb (HX.out.at 4 rfl |> fun h=>bx_below (below_regrown _ dd oo) h (bx_lt h))) ?_;(conv=>arg 1;simp only [Act.put,List.setIfInBounds_toArray,List.set_cons_succ,List.set_cons_zero]);go_big_quiet_on)|go_big_quiet_step (first|with_reducible exact K0.out _ _|with_reducible exact K1.out _ _|with_reducible exact K2.out _ _|with_reducible exact K3.out _ _|with_reducible exact K4.out _ _|with_reducible exact K5.out _ _|with_reducible exact K6.out _ _|exact K0.out _ _|exact K1.out _ _|exact K2.out _ _|exact K3.out _ _|exact K4.out _ _|exact K5.out _ _|exact K6.out _ _))
 refine wpQuiet_nil ?_;intro _ hw';obtain ⟨⟨dq,osq⟩,hw''⟩:=hw';subst hw'';have hbq:=below_regrown w22 dq osq;clear K0 K1 K2 K3 K4 K5 K6;generalize Sort.grow (redrawn w22 dq) osq=w23 at *;replace HX:=hid (HX.out.below hbq);replace HB:=xv hbq HB;have hz23:=hbq.size;replace HO:=hid (HO.out.below hbq);clear hbq;have Ow:=(HO.out.at 3 rfl)
 have Ot:=(HO.out.at 2 rfl)
 clear HO;go_wp2_with (first|(refine wpl_load 35 (.tmp 10) (w5.heap.size) (cobL r A1) xk rfl rfl Tryz.underlying35 rfl xk (bx_pb (HX.out.at 6 rfl)) ?_))
 refine (spoil21_kp r A1 _ _ _ Ot xo xo).mono ?_;rintro e w24 ⟨⟨v24,rfl⟩,hs⟩;clear Ot;replace HX:=hid (HX.out.spd hs (by simp only [okB,and_true];(repeat' apply And.intro)<;>omega));replace Ow:=Ow.spd hs xo;replace HB:=hid (HB.out.trans (hs.1.mono xo));have hz24:=hs.1.size;clear hs;have g4:(v==v)=true:=by simp
 have g5:(ev==ev)=true:=by simp
 have g6:(n==n)=true:=by simp
 have g7:(en2==en2)=true:=by simp
 have g8:(ep==ep)=true:=by simp
 have g9:(eq==eq)=true:=by simp
 go_wp2_with (first|(refine wpl_load 52 (.tmp 23) (w15.heap.size) (prL p) xk rfl rfl Tryz.underlying52 rfl xk (bx_pb (HX.out.at 3 rfl)) ?_)|(refine wpl_load 52 (.tmp 25) (w17.heap.size) (prL p) xk rfl rfl Tryz.underlying52 rfl xk (bx_pb (HX.out.at 2 rfl)) ?_)|(refine wpl_load 52 (.tmp 27) (w19.heap.size) (prL q) xk rfl rfl Tryz.underlying52 rfl xk (bx_pb (HX.out.at 1 rfl)) ?_)|(refine wpl_load 52 (.tmp 29) (w21.heap.size) (prL q) xk rfl rfl Tryz.underlying52 rfl xk (bx_pb (HX.out.at 0 rfl)) ?_)|(refine wpl_load 35 (.tmp 9) (w3.heap.size) (cobL r A0) xk rfl rfl Tryz.underlying35 rfl xk (bx_pb (HX.out.at 7 rfl)) ?_)|(refine wpl_load 35 (.tmp 4) (w.heap.size) (cobL r A) xk rfl rfl Tryz.underlying35 rfl xk (bx_pb (HX.out.at 9 rfl)) ?_))
 refine (S3.out _ _ HB.out Ow.inC).mono ?_;rintro e w25 ⟨rfl,hb⟩;replace HB:=xv hb HB;clear hb;go_wp2
 go_ret
 exact ⟨rfl,HB.out⟩
end
section
open Go.RowKit Go.Shelf
theorem ixEq_refl (l:Int) (ms cs:List Int):ixEq l ms cs l ms cs=true:=by simp [ixEq]
theorem same_refl (r:CobR):r.same r=true:=by
 unfold CobR.same pmB cfB sameB;simp [ixEq_refl]
theorem i64_rng {n:Int} (h:(Lit.int .i64 n).wf=true): -9223372036854775808≤n∧n<9223372036854775808:=by
 simp [Lit.wf,IntKind.min,IntKind.max,IntKind.signed,IntKind.bits] at h;omega
theorem CobTells_walk (w:World) (r:CobR) (A:CobA) (h:RawC w r A) (r':CobR) (A':CobA) (h':RawC w r' A') (key k:Int) (hkw:(Lit.int .i64 k).wf=true):
    Calls Tryz.prog 3 #[cobV r A,cobV r' A',.int .i64 key,.int .i64 k] w (AnsB w (.bool true)):=by
 have hk:=i64_rng hkw;cases hg:r.gr with
 | true=>exact CT_g1 r r' A A' key k w (hid fun W _=>hg ▸ rGreat r A W)
 | false=>
  cases hg':r'.gr with
  | true=>exact CT_g2 r r' A A' key k w (hid fun W _=>hg ▸ rGreat r A W) (hid fun W _=>hg' ▸ rGreat r' A' W)
  | false=>
   have hi:=h.inC hg;have hi':=h'.inC hg';have sr:=same_refl r;have sn:=same_refl (newR r.c);exact CT_main r r' (newR r.c) A A' key k r.E (r.gV key).1 (r.gV key).2 (r.rV key).1 (r.rV key).2 (r.nV key).2 (r.sV k).2 (cfE r.c) (r.nV key).1 (r.sV k).1 (r.same r') w (hid fun W _=>hg ▸ rGreat r A W) (hid fun W _=>hg' ▸ rGreat r' A' W)
     (hid fun W hB=>hi.below hB) (hid fun W hB=>hi'.below hB)
     (hid fun W hB=>rTwin r A W (hi.below hB) h.cz h.mn h.nn) (hid fun W B hB hb=>cTwin r B W hb)
     (hid fun W hB=>cNew r.c W) (hid fun W hB=>rNew r.c W)
     (hid fun W B hB hb=>cGet r B key W hb) (hid fun W hB=>rGet r A key W (hi.below hB))
     (hid fun W B hB hb=>cRank r B key W hb) (hid fun W hB=>rRank r A key W (hi.below hB))
     (hid fun W B hB hb=>cNext r B key W hb) (hid fun W hB=>rNext r A key W (hi.below hB))
     (hid fun W B hB hb=>cSelect r B k hk.1 xo W hb) (hid fun W hB=>rSelect r A k W (hi.below hB))
     (hid fun W B hB hb=>cCheck r B W hb) (hid fun W hB=>rCheck r A W (hi.below hB))
     (hid fun W B hB hb=>cSame r r' B A' W hb (hi'.below hB)) (hid fun W hB=>rSame r r' A A' W (hi.below hB) (hi'.below hB))
     (hid fun W B hB hb=>sr ▸ cSame r r B A W hb (hi.below hB)) (hid fun W B hB hb=>sr ▸ rSame r r B A W hb (hi.below hB))
     (hid fun W B D hB hb hd=>sn ▸ rSame (newR r.c) (newR r.c) B D W hb hd)
end
section
open Go.ChangeShapes Go.WideShapes Go.ChangeAt Go.RowKit Go.Joins
theorem open_rowK {H:Type} {enc:TypeId×Value→H} {w:World} {fuel:Nat} {base:Nat} {spare:Nat→Bool} {held:Bool} {t e:TypeId} {k:IntKind} {cs:List Value} {x:DataW H×List MemPlace}
    (ht:Tryz.prog.underlying t=some (.slice e)) (he:Tryz.prog.underlying e=some (.int k)) (hc:Tryz.prog.cellsOf e=1) (h:DataW.trod enc Tryz.prog w base spare held fuel t cs=some x):
    ∃(ao:Option Addr) (xs:List Int) (cap:Nat),cs=[.slice ao xs.length cap]∧IsRow k w ao xs∧(ao=none→cap=0)∧xs.length≤maxLen∧(∀n ∈ xs,(Lit.int k n).wf=true):=by
 rcases open_ints ht he hc h with ⟨rfl,rfl⟩ | ⟨a,len,cap,zs,rfl,hb,hl,hm,hz,rfl,hc,hw⟩
 · exact ⟨none,[],0,rfl,fun i hi=>by simp at hi,fun _=>rfl,by simp,by simp⟩
 · have hlen:len≤zs.length:=by rw [hz];split<;>omega
   refine ⟨some a,zs.take len,cap,by simp [hlen],?_,fun h=>(by cases h),by simp;omega,fun n hn=>hw n (List.mem_of_mem_take hn)⟩;intro i hi;have hi':i<len:=by simp at hi;omega
   obtain ⟨b,off,sp⟩:=a;have h0:=hc 0 xo;obtain rfl:sp=none:=by simpa [Addr.add] using World.cell?_spot h0
   refine ⟨b,off,rfl,?_,fun j hj=> ?_⟩
   · have:=World.block_lt_of_cell? w _ h0;simpa [Addr.add] using this
   · have hj':j<len:=by simp at hj;omega
     have:=hc j xo;rw [Addr.add_lit] at this;rw [this];simp [List.getD_eq_getElem?_getD,List.getElem?_take,hj']
end
end Go.Proofs.YtbedhbpgnfffmaaGreat

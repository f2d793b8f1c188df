/- Merged: PrsIt, Fits, SlChk, Prs. -/
import Derived.Test.YtbedhbpgnfffmaaGreatCobTellsP3
import Derived.Test.YtbedhbpgnfffmaaGreatCobTellsP2
import Derived.Test.YtbedhbpgnfffmaaGreatCobTellsP1
namespace Go.Proofs.YtbedhbpgnfffmaaGreat
set_option maxRecDepth 100000
set_option maxHeartbeats 40000000
set_option linter.unusedVariables false
set_option linter.unusedSimpArgs false
section
open Go.RowKit Go.Shelf
attribute [local go_sem] Oper.semAt_some
theorem cntW_succ {ws:List Int} {a b:Nat} (h:a≤b):cntW ws a (b+1)=cntW ws a b+if bitW ws b=true then 1 else 0:=by
 rw [←plsW_length,←plsW_length,plsW_succ h,List.length_append];split<;>rfl
theorem cntW_mono {ws:List Int} {a b c:Nat} (h:b≤c):cntW ws a b≤cntW ws a c:=by
 induction c with
 | zero=>rw [show b=0 by omega];exact Nat.le_refl _
 | succ c ih=>
  by_cases e:b=c+1
  · rw [e];exact Nat.le_refl _
  · by_cases h2:a≤c
    · rw [cntW_succ h2];have:=ih xo;omega
    · rw [cntW_none xo];omega
theorem prs_length (c:SlC) (a b:Nat):(prs c a b).length=cntW c.ws a b:=by rw [prs,List.length_map,plsW_length]
theorem prs_succ {c:SlC} {a b:Nat} (h:a≤b):prs c a (b+1)=prs c a b++if bitW c.ws b=true then [(c.ks.getD b 0,c.vs.getD b 0)] else []:=by
 unfold prs;rw [plsW_succ h,List.map_append];split<;>rfl
theorem prs_split {c:SlC} {a b d:Nat} (h1:a≤b) (h2:b≤d):∃r,prs c a d=prs c a b++r:=by
 induction d with
 | zero=>exact ⟨[],by rw [show b=0 by omega,List.append_nil]⟩
 | succ d ih=>
  by_cases e:b=d+1
  · exact ⟨[],by rw [e,List.append_nil]⟩
  · obtain ⟨r,hr⟩:=ih xo;rw [prs_succ xo,hr,List.append_assoc];exact ⟨_,rfl⟩
def pairsL (l:List (Int×Int)):List (Array Value):=l.map fun p=> #[.agg #[.int .i64 p.1,.int .i64 p.2]]
theorem pairsL_length (l:List (Int×Int)):(pairsL l).length=l.length:=by simp [pairsL]
theorem pairsL_at {c:SlC} {a b d:Nat} (h1:a≤b) (h2:b+1≤d) (hb:bitW c.ws b=true):(pairsL (prs c a d)).getD (cntW c.ws a b) #[]= #[.agg #[.int .i64 (c.ks.getD b 0),.int .i64 (c.vs.getD b 0)]]:=by
 obtain ⟨r,hr⟩:=prs_split (c:=c) (show a≤b+1 by omega) h2;rw [hr,prs_succ h1,if_pos hb,pairsL,List.map_append,List.map_append,List.getD_eq_getElem?_getD,List.append_assoc,List.getElem?_append_right (by rw [List.length_map,prs_length];exact Nat.le_refl _)];rw [List.length_map,prs_length,Nat.sub_self];rfl
theorem cell_at_drew {W W':World} (h:∃q,W'=W.drewN q) {p:Addr} {v:Value} (hc:W.cell? p=some v):W'.cell? p=some v:=by
 obtain ⟨q,rfl⟩:=h;exact hc
theorem is_ok (wa:Option Addr) (lw wc:Nat) (ws:List Int) (hu:U64s ws) (i:Nat) (hlw:ws.length=lw) (hi:i/64<lw) (hi2:i≤1000000000000) (b:Nat) (w:World) (hw:IsRow .u64 w wa ws) (c1:w.cell? ⟨b,1,none⟩=some (.slice wa lw wc)):
    Calls Tryz.prog 127 #[.pointer (some ⟨b,0,none⟩),.int .i64 i] w fun e w'=>e= .returned (.bool (bitW ws i))∧w=w':=by
 obtain ⟨bb,off,x,rfl,hx,hc,-⟩:=hw.get (i:=i/64) xo;have hg:=hu.get (i/64);rw [hx.out] at hg;have hb:bitW ws i=bitI x (i%64):=by rw [bitW,hx.out]
 have hand:=bitI_and hg.1 hg.2 (i%64);obtain ⟨q,hq⟩:∃q,i/64=q:=⟨_,rfl⟩
 obtain ⟨r,hr⟩:∃r,i%64=r:=⟨_,rfl⟩
 have hqI:(i:Int)/64=(q:Int):=xo;have hrI:(i:Int)%64=(r:Int):=xo;have hr64:r<64:=xo;rw [hr] at hand hb;rw [hq] at hc hi;rw [hb];generalize bitI x r=bt at *;clear hx hb hw hu hq hr hlw;cases bt with
 | true=>
  rw [if_pos rfl] at hand;go_enter Tryz.func127,Tryz.ntmps127
  go_wp2
  go_ret
  exact ⟨rfl,rfl⟩
 | false=>
  rw [if_neg xdd] at hand;go_enter Tryz.func127,Tryz.ntmps127
  go_wp2
  go_ret
  exact ⟨rfl,rfl⟩
structure PrBox (W:World) (b1 b2 b3:Nat) (c:SlC) (a:SlA) (lo hi:Nat):Prop where
 lo:W.cell? ⟨b1,0,none⟩=some (.int .i64 lo)
 hi:W.cell? ⟨b2,0,none⟩=some (.int .i64 hi)
 c0:W.cell? ⟨b3,0,none⟩=some (.int .i64 c.seg)
 c1:W.cell? ⟨b3,1,none⟩=some (.slice a.wa c.ws.length a.wc)
 c2:W.cell? ⟨b3,2,none⟩=some (.slice a.ka c.ks.length a.kc)
 c3:W.cell? ⟨b3,3,none⟩=some (.slice a.va c.vs.length a.vc)
 c4:W.cell? ⟨b3,4,none⟩=some (.slice a.ca c.cs.length a.cc)
 c5:W.cell? ⟨b3,5,none⟩=some (.int .u64 c.laid)
theorem PrBox.below {W W':World} {b1 b2 b3:Nat} {c:SlC} {a:SlA} {lo hi:Nat} (h:PrBox W b1 b2 b3 c a lo hi) (hb:Below W.heap.size W W'):PrBox W' b1 b2 b3 c a lo hi:=
  have t {p v} (hc:W.cell? p=some v):W'.cell? p=some v:=(hb.cell (World.block_lt_of_cell? _ _ hc)).trans hc
  ⟨t h.lo,t h.hi,t h.c0,t h.c1,t h.c2,t h.c3,t h.c4,t h.c5⟩
theorem PrBox.kept {S:Nat→Prop} {W W':World} {b1 b2 b3:Nat} {c:SlC} {a:SlA} {lo hi:Nat} (h:PrBox W b1 b2 b3 c a lo hi) (hk:KpS S W W') (s1:S b1) (s2:S b2) (s3:S b3):PrBox W' b1 b2 b3 c a lo hi:=
  ⟨hk.cell (a:=⟨b1,0,none⟩) s1 h.lo,hk.cell (a:=⟨b2,0,none⟩) s2 h.hi,hk.cell (a:=⟨b3,0,none⟩) s3 h.c0,hk.cell (a:=⟨b3,1,none⟩) s3 h.c1,hk.cell (a:=⟨b3,2,none⟩) s3 h.c2,hk.cell (a:=⟨b3,3,none⟩) s3 h.c3,hk.cell (a:=⟨b3,4,none⟩) s3 h.c4,hk.cell (a:=⟨b3,5,none⟩) s3 h.c5⟩
structure SlS (S:Nat→Prop) (c:SlC) (a:SlA):Prop where
 w:∀x,a.wa=some x→0<c.ws.length→S x.block
 k:∀x,a.ka=some x→0<c.ks.length→S x.block
 v:∀x,a.va=some x→0<c.vs.length→S x.block
theorem pairs1_iter (c:SlC) (a:SlA) (hu:U64s c.ws) (lo hi:Nat) (hlh:lo≤hi) (hkn:hi≤c.ks.length) (hvn:c.vs.length=c.ks.length) (hwn:c.ks.length≤64*c.ws.length) (hn:c.ks.length≤65536) (S:Nat→Prop) (b1 b2 b3:Nat) (s1:S b1) (s2:S b2) (s3:S b3) (hS:SlS S c a)
    (w:World) (hw:IsRow .u64 w a.wa c.ws) (hk:IsRow .i64 w a.ka c.ks) (hv:IsRow .i64 w a.va c.vs) (hbx:PrBox w b1 b2 b3 c a lo hi):
    Iter Tryz.prog 126 #[.pointer (some ⟨b1,0,none⟩),.pointer (some ⟨b2,0,none⟩),.pointer (some ⟨b3,0,none⟩)] (pairsL (prs c lo hi)) (KpS S) w:=by
 intro l J Jx W hW hJ hJx hY h0;have HY:=hid hY;have HJ:=hid hJ;have HBX:=hid (hbx.below hW);have HW:=hid (hw.below hW);have HK:=hid (hk.below hW);have HV:=hid (hv.below hW);have HS:=hid hS;have HPL:=hid ((pairsL_length _).trans (prs_length c lo hi));have HPA:=hid (fun b (h1:lo≤b) (h2:b+1≤hi) hb=>pairsL_at (c:=c) h1 h2 hb);have HCS:=hid (fun b (h1:lo≤b)=>cntW_succ (ws:=c.ws) h1);have HCM:=hid (fun b (h1:b≤hi)=>cntW_mono (ws:=c.ws) (a:=lo) h1);have HC0:=hid (cntW_none (ws:=c.ws) (Nat.le_refl lo));clear hY hJ hJx hw hk hv hS hbx;refine callsIn_of_wp Tryz.func126 rfl trivial ?_ rfl;simp only [Tryz.ntmps126,List.size_toArray,List.length_cons,List.length_nil,Nat.reduceAdd,Nat.reduceSub,Array.replicate_succ,Array.replicate_zero,List.push_toArray,List.append_toArray,List.nil_append,List.cons_append];have q1:=HBX.out.lo;gi_wp2
 gi_loopg [5] (hi-lo) (fun g iv wr=>∃i:Nat,i+g=hi∧lo≤i∧iv= .int .i64 i∧Hid (J (cntW c.ws lo i) wr)∧Hid (PrBox wr b1 b2 b3 c a lo hi)∧Hid (IsRow .u64 wr a.wa c.ws)∧Hid (IsRow .i64 wr a.ka c.ks)∧Hid (IsRow .i64 wr a.va c.vs))
 case atStart=>exact ⟨lo,by omega,Nat.le_refl _,rfl,hid (by rw [HC0.out];exact h0),HBX,HW,HK,HV⟩
 case round=>
  obtain ⟨i,hi',hli,rfl,HJ0,HB,HRW,HRK,HRV⟩:=hrel;by_cases hlt:i<hi
  · obtain ⟨bw,ow,x,hae,-,cw,zw⟩:=HRW.out.get (i:=i/64) xo;obtain ⟨bk,ok,kx,hke,hkx,ck,zk⟩:=HRK.out.get (i:=i) xo;obtain ⟨bv,ov,vx,hve,hvx,cv,zv⟩:=HRV.out.get (i:=i) xo;have hpa:=HPA.out i hli xo;rw [hkx.out,hvx.out] at hpa;have hcs:=HCS.out i hli;obtain ⟨k,hk⟩:∃k,cntW c.ws lo i=k:=⟨_,rfl⟩
    obtain ⟨m,hm⟩:∃m,cntW c.ws lo hi=m:=⟨_,rfl⟩
    have hkm:bitW c.ws i=true→k<m:=by
     intro hb;have h1:=HCM.out (i+1) xo;rw [hcs,if_pos hb] at h1;omega
    rw [hk] at HJ0 hpa hcs;have HPL2:=hid (HPL.out.trans hm);have hiw:i/64<c.ws.length:=xo;obtain ⟨bt,hbt⟩:∃bt,bitW c.ws i=bt:=⟨_,rfl⟩
    have hisok:=fun W' (hw:IsRow .u64 W' a.wa c.ws) b (h1:W'.cell? ⟨b,1,none⟩=some (.slice a.wa c.ws.length a.wc))=>is_ok a.wa c.ws.length a.wc c.ws hu i rfl hiw xo b W' hw h1
    rw [hbt] at hisok hpa hcs hkm;have HIO:=hid hisok;have HB0:=HB.out;obtain ⟨q1,q2,c0,c1,c2,c3,c4,c5⟩:=HB0;have HNW:=hid hiw;obtain ⟨seg,ws,ks,vs,cs,laid⟩:=c;obtain ⟨wa,ka,va,ca,wc,kc,vc,cc⟩:=a;dsimp only at *;subst hae hke hve;obtain ⟨n,hnn⟩:∃n,ks.length=n:=⟨_,rfl⟩
    have c3':=c3;rw [hvn,hnn] at c3';have c2':=c2;rw [hnn] at c2';have hin:i<n:=xo;have HI2:=hid hi';have HKM:=hid hkm;have HCS2:=hid hcs;have HRW2:=hid (HRW.out.alloc (.cells #[.int .i64 seg,.slice (some ⟨bw,ow,none⟩) ws.length wc,.slice (some ⟨bk,ok,none⟩) ks.length kc,.slice (some ⟨bv,ov,none⟩) vs.length vc,.slice ca cs.length cc,.int .u64 laid] 177));clear hk hm hcs hkm;gi_wp2
    have HBel:Below wr.heap.size wr (wr.alloc (.cells #[.int .i64 seg,.slice (some ⟨bw,ow,none⟩) ws.length wc,.slice (some ⟨bk,ok,none⟩) n kc,.slice (some ⟨bv,ov,none⟩) n vc,.slice ca cs.length cc,.int .u64 laid] 177)):=br.alloc (Nat.le_refl _) _;have c1q:(wr.alloc (.cells #[.int .i64 seg,.slice (some ⟨bw,ow,none⟩) ws.length wc,.slice (some ⟨bk,ok,none⟩) n kc,.slice (some ⟨bv,ov,none⟩) n vc,.slice ca cs.length cc,.int .u64 laid] 177)).cell? ⟨wr.heap.size,1,none⟩=some (.slice (some ⟨bw,ow,none⟩) ws.length wc):=xcw;generalize (wr.alloc (.cells #[.int .i64 seg,.slice (some ⟨bw,ow,none⟩) ws.length wc,.slice (some ⟨bk,ok,none⟩) n kc,.slice (some ⟨bv,ov,none⟩) n vc,.slice ca cs.length cc,.int .u64 laid] 177))=wq at *;replace c2:=(HBel.cell (World.block_lt_of_cell? _ _ c2')).trans c2';replace c3:=(HBel.cell (World.block_lt_of_cell? _ _ c3')).trans c3';replace ck:=(HBel.cell (World.block_lt_of_cell? _ _ ck)).trans ck;replace cv:=(HBel.cell (World.block_lt_of_cell? _ _ cv)).trans cv;have HBL:=hid HBel;have HIS:=hid (fun w' (hJ:∃q,w'=wq.drewN q)=>HIO.out w' (by obtain ⟨q,rfl⟩:=hJ;exact (HRW.out.below HBL.out).drewN q) wr.heap.size (cell_at_drew hJ c1q));clear HBel c0 c5 c4 c1 q1 q2 c2' c3' hisok cw HRW2;cases bt with
    | true=>
     refine wpIn_region_facts 15 xk (N:=33) rfl xk xk xdd (fun w'=>∃q,w'=wq.drewN q) (Ext 29) (factAt [.is (.int .i64 i),.is (.bool true),.is (.bool true),.is (.func (.yield l) #[] #[]),.is (.pointer (some ⟨b3,2,none⟩)),.is (.slice (some ⟨bk,ok,none⟩) n kc),.is (.int .i64 i),.is (.pointer (some ⟨bk,ok+i,none⟩)),.is (.int .i64 kx),.is (.pointer (some ⟨b3,3,none⟩)),.is (.slice (some ⟨bv,ov,none⟩) n vc),.is (.int .i64 i),.is (.pointer (some ⟨bv,ov+i,none⟩)),.is (.int .i64 vx),.is (.agg #[.int .i64 kx,.int .i64 vx])]) (factAt_stays _) ⟨1,rfl⟩ ?steps ?fin
     case steps=>
      refine ⟨?o0,?o1,?o2,?o3,?o4,?o5,?o6,?o7,?o8,?o9,?o10,?o11,?o12,?o13,?o14,trivial⟩<;>intro u a w' ev hJ hd K hK
      case o0=>
       rw [if_pos (wanted_free rfl)];have e5:tg a 5= .int .i64 i:=ev 5 xdd;have HK:=hid hK;clear hK ev hd;go_simp;exact HK.out _ _ xzc hJ rfl (Ext.refl _ _)
      case o1=>
       rw [if_pos (wanted_free rfl)];have e6:tg a 6= .pointer (some ⟨wr.heap.size,0,none⟩):=ev 6 xdd;have e15:tg a 15= .int .i64 i:=(ev 15 xdd).trans (hd 0 _ xk rfl);have HK:=hid hK;have HI:=hid (HIS.out w' hJ);have HJ:=hid hJ;clear hK ev hd hJ;go_simp;refine ⟨trivial,rfl,(callsIn_wide.2 HI.out).mono ?_⟩;rintro e w'' ⟨rfl,rfl⟩;exact HK.out _ _ xzc HJ.out rfl (Ext.refl _ _)
      case o2=>
       rw [if_pos (wanted_free rfl)];have e16:tg a 16= .bool true:=(ev 16 xdd).trans (hd 1 _ xk rfl);have HK:=hid hK;clear hK ev hd;go_simp;exact HK.out _ _ xzc hJ rfl (Ext.refl _ _)
      case o3=>
       have eg:a.tmps.getD 17 undef= .bool true:=(ev 17 xdd).trans (hd 2 _ xk rfl);rw [if_pos (wanted_yes (j:=2) (t:=17) (b:=true) rfl xk eg)];have e0:tg a 0= .func (.yield l) #[] #[]:=ev 0 xdd;have HK:=hid hK;clear hK ev hd eg;go_simp;exact HK.out _ _ xzc hJ rfl (Ext.refl _ _)
      case o4=>
       have eg:a.tmps.getD 17 undef= .bool true:=(ev 17 xdd).trans (hd 2 _ xk rfl);rw [if_pos (wanted_yes (j:=2) (t:=17) (b:=true) rfl xk eg)];have e3:tg a 3= .pointer (some ⟨b3,0,none⟩):=ev 3 xdd;have HK:=hid hK;clear hK ev hd eg;go_simp;exact HK.out _ _ xzc hJ rfl (Ext.refl _ _)
      case o5=>
       have eg:a.tmps.getD 17 undef= .bool true:=(ev 17 xdd).trans (hd 2 _ xk rfl);rw [if_pos (wanted_yes (j:=2) (t:=17) (b:=true) rfl xk eg)];have e19:tg a 19= .pointer (some ⟨b3,2,none⟩):=(ev 19 xdd).trans (hd 4 _ xk rfl);have g0:=(cell_at_drew hJ c2)
       have HK:=hid hK;clear hK ev hd eg;go_simp;exact HK.out _ _ xzc hJ rfl (Ext.refl _ _)
      case o6=>
       have eg:a.tmps.getD 17 undef= .bool true:=(ev 17 xdd).trans (hd 2 _ xk rfl);rw [if_pos (wanted_yes (j:=2) (t:=17) (b:=true) rfl xk eg)];have e5:tg a 5= .int .i64 i:=ev 5 xdd;have HK:=hid hK;clear hK ev hd eg;go_simp;exact HK.out _ _ xzc hJ rfl (Ext.refl _ _)
      case o7=>
       have eg:a.tmps.getD 17 undef= .bool true:=(ev 17 xdd).trans (hd 2 _ xk rfl);rw [if_pos (wanted_yes (j:=2) (t:=17) (b:=true) rfl xk eg)];have e20:tg a 20= .slice (some ⟨bk,ok,none⟩) n kc:=(ev 20 xdd).trans (hd 5 _ xk rfl);have e21:tg a 21= .int .i64 i:=(ev 21 xdd).trans (hd 6 _ xk rfl);have HK:=hid hK;clear hK ev hd eg;go_simp;exact HK.out _ _ xzc hJ rfl (Ext.refl _ _)
      case o8=>
       have eg:a.tmps.getD 17 undef= .bool true:=(ev 17 xdd).trans (hd 2 _ xk rfl);rw [if_pos (wanted_yes (j:=2) (t:=17) (b:=true) rfl xk eg)];have e22:tg a 22= .pointer (some ⟨bk,ok+i,none⟩):=(ev 22 xdd).trans (hd 7 _ xk rfl);have g0:=(cell_at_drew hJ ck)
       have HK:=hid hK;clear hK ev hd eg;go_simp;exact HK.out _ _ xzc hJ rfl (Ext.refl _ _)
      case o9=>
       have eg:a.tmps.getD 17 undef= .bool true:=(ev 17 xdd).trans (hd 2 _ xk rfl);rw [if_pos (wanted_yes (j:=2) (t:=17) (b:=true) rfl xk eg)];have e3:tg a 3= .pointer (some ⟨b3,0,none⟩):=ev 3 xdd;have HK:=hid hK;clear hK ev hd eg;go_simp;exact HK.out _ _ xzc hJ rfl (Ext.refl _ _)
      case o10=>
       have eg:a.tmps.getD 17 undef= .bool true:=(ev 17 xdd).trans (hd 2 _ xk rfl);rw [if_pos (wanted_yes (j:=2) (t:=17) (b:=true) rfl xk eg)];have e24:tg a 24= .pointer (some ⟨b3,3,none⟩):=(ev 24 xdd).trans (hd 9 _ xk rfl);have g0:=(cell_at_drew hJ c3)
       have HK:=hid hK;clear hK ev hd eg;go_simp;exact HK.out _ _ xzc hJ rfl (Ext.refl _ _)
      case o11=>
       have eg:a.tmps.getD 17 undef= .bool true:=(ev 17 xdd).trans (hd 2 _ xk rfl);rw [if_pos (wanted_yes (j:=2) (t:=17) (b:=true) rfl xk eg)];have e5:tg a 5= .int .i64 i:=ev 5 xdd;have HK:=hid hK;clear hK ev hd eg;go_simp;exact HK.out _ _ xzc hJ rfl (Ext.refl _ _)
      case o12=>
       have eg:a.tmps.getD 17 undef= .bool true:=(ev 17 xdd).trans (hd 2 _ xk rfl);rw [if_pos (wanted_yes (j:=2) (t:=17) (b:=true) rfl xk eg)];have e25:tg a 25= .slice (some ⟨bv,ov,none⟩) n vc:=(ev 25 xdd).trans (hd 10 _ xk rfl);have e26:tg a 26= .int .i64 i:=(ev 26 xdd).trans (hd 11 _ xk rfl);have HK:=hid hK;clear hK ev hd eg;go_simp;exact HK.out _ _ xzc hJ rfl (Ext.refl _ _)
      case o13=>
       have eg:a.tmps.getD 17 undef= .bool true:=(ev 17 xdd).trans (hd 2 _ xk rfl);rw [if_pos (wanted_yes (j:=2) (t:=17) (b:=true) rfl xk eg)];have e27:tg a 27= .pointer (some ⟨bv,ov+i,none⟩):=(ev 27 xdd).trans (hd 12 _ xk rfl);have g0:=(cell_at_drew hJ cv)
       have HK:=hid hK;clear hK ev hd eg;go_simp;exact HK.out _ _ xzc hJ rfl (Ext.refl _ _)
      case o14=>
       have eg:a.tmps.getD 17 undef= .bool true:=(ev 17 xdd).trans (hd 2 _ xk rfl);rw [if_pos (wanted_yes (j:=2) (t:=17) (b:=true) rfl xk eg)];have e23:tg a 23= .int .i64 kx:=(ev 23 xdd).trans (hd 8 _ xk rfl);have e28:tg a 28= .int .i64 vx:=(ev 28 xdd).trans (hd 13 _ xk rfl);have f23:a.tmps[23]?.getD undef= .int .i64 kx:=by rw [←Array.getD_eq_getD_getElem?];exact e23
       have f28:a.tmps[28]?.getD undef= .int .i64 vx:=by rw [←Array.getD_eq_getD_getElem?];exact e28
       have HK:=hid hK;clear hK ev hd eg;go_simp;exact HK.out _ _ xzc hJ rfl (Ext.refl _ _)
     case fin=>
      intro u w3 hJ hG;have h17:u 17= .bool true:=hG 2 _ rfl;have h18:u 18= .func (.yield l) #[] #[]:=hG 3 _ rfl;have h29:u 29= .agg #[.int .i64 kx,.int .i64 vx]:=hG 14 _ rfl;have hBq:Below wr.heap.size wr w3:=by obtain ⟨q,rfl⟩:=hJ;exact below_drewN HBL.out q
      have HBQ:=hid hBq;have hkm:=HKM.out rfl;obtain ⟨fn,tmps,assign,body,hy,hR⟩:=HY.out k w3 (by rw [HPL2.out];exact hkm) (HJ.out _ _ _ HJ0.out hBq);rw [hpa rfl] at hy;clear hG c2 c3 ck cv hJ hpa hBq;simp only [mixFrame,mixL,dstsOf,List.take_succ_cons,List.take_zero,List.filterMap_cons,List.filterMap_nil,List.contains_cons,List.contains_nil,Nat.reduceBEq,Bool.or_false,Bool.false_or,Bool.or_true,Bool.true_or,if_true,if_false,Bool.false_eq_true,Nat.reduceAdd,Nat.zero_add,List.drop_succ_cons,List.drop_zero,h17,h18,h29];gi_wp2
      refine ⟨rfl,hR.mono ?_⟩;rintro e W3 (⟨rfl,hJ3,hk3⟩ | ⟨rfl,hJx3⟩)
      · have HB3:=hid ((HB.out.below HBQ.out).kept hk3 s1 s2 s3);have HW3:=hid (hk3.row HS.out.w (HRW.out.below HBQ.out));have HK3:=hid (hk3.row HS.out.k (HRK.out.below HBQ.out));have HV3:=hid (hk3.row HS.out.v (HRV.out.below HBQ.out));have HJ3:=hid hJ3;clear hJ3 hk3 hy hR;gi_wp2
        gi_roundg (gk-1)
        case measure=>have:=HI2.out;omega
        case rel=>
         refine ⟨i+1,by have:=HI2.out;omega,by omega,by go_num,hid ?_,HB3,HW3,HK3,HV3⟩;have e9:=HCS2.out;simp only [if_true] at e9;rw [e9];exact HJ3.out
      · have HJ3:=hid hJx3;clear hJx3 hy hR;gi_wp2
        exact bodyPost_ret (results_none rfl _ _ _) rfl ⟨⟨_,rfl⟩,.inr ⟨k+1,by rw [HPL2.out];omega,HJ3.out⟩⟩
    | false=>
     refine wpIn_region_facts 15 xk (N:=33) rfl xk xk xdd (fun w'=>∃q,w'=wq.drewN q) (Ext 29) (factAt [.is (.int .i64 i),.is (.bool false),.is (.bool false),.is undef,.is undef,.is undef,.is undef,.is undef,.is undef,.is undef,.is undef,.is undef,.is undef,.is undef,.is undef]) (factAt_stays _) ⟨1,rfl⟩ ?steps ?fin
     case steps=>
      refine ⟨?o0,?o1,?o2,?o3,?o4,?o5,?o6,?o7,?o8,?o9,?o10,?o11,?o12,?o13,?o14,trivial⟩<;>intro u a w' ev hJ hd K hK
      case o0=>
       rw [if_pos (wanted_free rfl)];have e5:tg a 5= .int .i64 i:=ev 5 xdd;have HK:=hid hK;clear hK ev hd;go_simp;exact HK.out _ _ xzc hJ rfl (Ext.refl _ _)
      case o1=>
       rw [if_pos (wanted_free rfl)];have e6:tg a 6= .pointer (some ⟨wr.heap.size,0,none⟩):=ev 6 xdd;have e15:tg a 15= .int .i64 i:=(ev 15 xdd).trans (hd 0 _ xk rfl);have HK:=hid hK;have HI:=hid (HIS.out w' hJ);have HJ:=hid hJ;clear hK ev hd hJ;go_simp;refine ⟨trivial,rfl,(callsIn_wide.2 HI.out).mono ?_⟩;rintro e w'' ⟨rfl,rfl⟩;exact HK.out _ _ xzc HJ.out rfl (Ext.refl _ _)
      case o2=>
       rw [if_pos (wanted_free rfl)];have e16:tg a 16= .bool false:=(ev 16 xdd).trans (hd 1 _ xk rfl);have HK:=hid hK;clear hK ev hd;go_simp;exact HK.out _ _ xzc hJ rfl (Ext.refl _ _)
      case o3=>
       have eg:a.tmps.getD 17 undef= .bool false:=(ev 17 xdd).trans (hd 2 _ xk rfl);rw [if_neg (by rw [wanted_no (j:=2) (t:=17) (b:=true) rfl xk eg];decide)];exact ⟨fun _ _=>trivial,hK _ _ xzc hJ rfl (Ext.refl _ _)⟩
      case o4=>
       have eg:a.tmps.getD 17 undef= .bool false:=(ev 17 xdd).trans (hd 2 _ xk rfl);rw [if_neg (by rw [wanted_no (j:=2) (t:=17) (b:=true) rfl xk eg];decide)];exact ⟨fun _ _=>trivial,hK _ _ xzc hJ rfl (Ext.refl _ _)⟩
      case o5=>
       have eg:a.tmps.getD 17 undef= .bool false:=(ev 17 xdd).trans (hd 2 _ xk rfl);rw [if_neg (by rw [wanted_no (j:=2) (t:=17) (b:=true) rfl xk eg];decide)];exact ⟨fun _ _=>trivial,hK _ _ xzc hJ rfl (Ext.refl _ _)⟩
      case o6=>
       have eg:a.tmps.getD 17 undef= .bool false:=(ev 17 xdd).trans (hd 2 _ xk rfl);rw [if_neg (by rw [wanted_no (j:=2) (t:=17) (b:=true) rfl xk eg];decide)];exact ⟨fun _ _=>trivial,hK _ _ xzc hJ rfl (Ext.refl _ _)⟩
      case o7=>
       have eg:a.tmps.getD 17 undef= .bool false:=(ev 17 xdd).trans (hd 2 _ xk rfl);rw [if_neg (by rw [wanted_no (j:=2) (t:=17) (b:=true) rfl xk eg];decide)];exact ⟨fun _ _=>trivial,hK _ _ xzc hJ rfl (Ext.refl _ _)⟩
      case o8=>
       have eg:a.tmps.getD 17 undef= .bool false:=(ev 17 xdd).trans (hd 2 _ xk rfl);rw [if_neg (by rw [wanted_no (j:=2) (t:=17) (b:=true) rfl xk eg];decide)];exact ⟨fun _ _=>trivial,hK _ _ xzc hJ rfl (Ext.refl _ _)⟩
      case o9=>
       have eg:a.tmps.getD 17 undef= .bool false:=(ev 17 xdd).trans (hd 2 _ xk rfl);rw [if_neg (by rw [wanted_no (j:=2) (t:=17) (b:=true) rfl xk eg];decide)];exact ⟨fun _ _=>trivial,hK _ _ xzc hJ rfl (Ext.refl _ _)⟩
      case o10=>
       have eg:a.tmps.getD 17 undef= .bool false:=(ev 17 xdd).trans (hd 2 _ xk rfl);rw [if_neg (by rw [wanted_no (j:=2) (t:=17) (b:=true) rfl xk eg];decide)];exact ⟨fun _ _=>trivial,hK _ _ xzc hJ rfl (Ext.refl _ _)⟩
      case o11=>
       have eg:a.tmps.getD 17 undef= .bool false:=(ev 17 xdd).trans (hd 2 _ xk rfl);rw [if_neg (by rw [wanted_no (j:=2) (t:=17) (b:=true) rfl xk eg];decide)];exact ⟨fun _ _=>trivial,hK _ _ xzc hJ rfl (Ext.refl _ _)⟩
      case o12=>
       have eg:a.tmps.getD 17 undef= .bool false:=(ev 17 xdd).trans (hd 2 _ xk rfl);rw [if_neg (by rw [wanted_no (j:=2) (t:=17) (b:=true) rfl xk eg];decide)];exact ⟨fun _ _=>trivial,hK _ _ xzc hJ rfl (Ext.refl _ _)⟩
      case o13=>
       have eg:a.tmps.getD 17 undef= .bool false:=(ev 17 xdd).trans (hd 2 _ xk rfl);rw [if_neg (by rw [wanted_no (j:=2) (t:=17) (b:=true) rfl xk eg];decide)];exact ⟨fun _ _=>trivial,hK _ _ xzc hJ rfl (Ext.refl _ _)⟩
      case o14=>
       have eg:a.tmps.getD 17 undef= .bool false:=(ev 17 xdd).trans (hd 2 _ xk rfl);rw [if_neg (by rw [wanted_no (j:=2) (t:=17) (b:=true) rfl xk eg];decide)];exact ⟨fun _ _=>trivial,hK _ _ xzc hJ rfl (Ext.refl _ _)⟩
     case fin=>
      intro u w3 hJ hG;have h17:u 17= .bool false:=hG 2 _ rfl;have h18:u 18=undef:=hG 3 _ rfl;have h29:u 29=undef:=hG 14 _ rfl;have hBq:Below wr.heap.size wr w3:=by obtain ⟨q,rfl⟩:=hJ;exact below_drewN HBL.out q
      have HBQ:=hid hBq;clear hG c2 c3 ck cv hJ hpa hBq;simp only [mixFrame,mixL,dstsOf,List.take_succ_cons,List.take_zero,List.filterMap_cons,List.filterMap_nil,List.contains_cons,List.contains_nil,Nat.reduceBEq,Bool.or_false,Bool.false_or,Bool.or_true,Bool.true_or,if_true,if_false,Bool.false_eq_true,Nat.reduceAdd,Nat.zero_add,List.drop_succ_cons,List.drop_zero,h17,h18,h29];gi_wp2
      refine ⟨fun _ h=>(by cases h),?_⟩;gi_wp2
      gi_roundg (gk-1)
      case measure=>have:=HI2.out;omega
      case rel=>
       refine ⟨i+1,by have:=HI2.out;omega,by omega,by go_num,hid ?_,hid (HB.out.below HBQ.out),hid (HRW.out.below HBQ.out),hid (HRK.out.below HBQ.out),hid (HRV.out.below HBQ.out)⟩;have e9:=HCS2.out;simp only [Bool.false_eq_true,if_false,Nat.add_zero] at e9;rw [e9];exact HJ.out _ _ _ HJ0.out HBQ.out
  · have hih:hi=i:=xo;subst hih;have q1:=HB.out.hi;have HJ1:=HJ0.out;gi_wp2
    refine bodyPost_end (results_none rfl _ _ _) rfl ⟨⟨_,rfl⟩,.inl ?_⟩;rw [HPL.out];exact HJ0.out
end
section
open Go.RowKit
theorem fits_ok (seg many:Int) (w:World):
    Calls Tryz.prog 116 #[.int .i64 seg,.int .i64 many] w fun e w'=>e= .returned (.bool (fitB seg many))∧w=w':=by
 by_cases c1:4≤seg
 · by_cases c2:seg≤64
   · have PW:=hid Power_ok;obtain ⟨b1,hb1⟩:∃b,pwB seg=b:=⟨_,rfl⟩
     cases b1 with
     | false=>
      have e:fitB seg many=false:=by simp [fitB,hb1]
      rw [e];clear e;go_enter Tryz.func116,Tryz.ntmps116
      go_wp2_with (go_at_call 140;refine (PW.out _ xo _).mono ?_;rintro e w' ⟨rfl,rfl⟩;rw [hb1])
      go_ret
      exact ⟨rfl,rfl⟩
     | true =>
      by_cases c4:seg≤many
      · by_cases c5:many≤65536
        · obtain ⟨r,hr⟩:∃r,many%seg=r:=⟨_,rfl⟩
          obtain ⟨q,hq⟩:∃q,many/seg=q:=⟨_,rfl⟩
          have hq2:q≤65536:=by rw [←hq];exact Int.le_trans (Int.ediv_le_self _ xo) c5
          have hq0:0≤q:=by rw [←hq];exact Int.ediv_nonneg xo xo
          have ht1:many.tmod seg=r:=by rw [Int.tmod_eq_emod_of_nonneg xo];exact hr
          have ht2:many.tdiv seg=q:=by rw [Int.tdiv_eq_ediv_of_nonneg xo];exact hq
          have hs0:(seg==0)=false:=by simp;omega
          by_cases c6:r=0
          · have e:fitB seg many=pwB q:=by simp [fitB,hb1,hr,hq,c1,c2,c4,c5,c6]
            rw [e];subst c6;clear e;go_enter Tryz.func116,Tryz.ntmps116
            go_wp2_with (go_at_call 140;refine (PW.out _ xo _).mono ?_;rintro e w' ⟨rfl,rfl⟩;try rw [hb1])
            go_ret
            exact ⟨rfl,rfl⟩
          · have e:fitB seg many=false:=by simp [fitB,hb1,hr,c6]
            rw [e];have c6':(r==0)=false:=by simpa using c6
            clear e;go_enter Tryz.func116,Tryz.ntmps116
            go_wp2_with (go_at_call 140;refine (PW.out _ xo _).mono ?_;rintro e w' ⟨rfl,rfl⟩;rw [hb1])
            go_ret
            exact ⟨rfl,rfl⟩
        · have e:fitB seg many=false:=by simp [fitB,c5]
          rw [e];clear e;go_enter Tryz.func116,Tryz.ntmps116
          go_wp2_with (go_at_call 140;refine (PW.out _ xo _).mono ?_;rintro e w' ⟨rfl,rfl⟩;rw [hb1])
          go_ret
          exact ⟨rfl,rfl⟩
      · have e:fitB seg many=false:=by simp [fitB,c4]
        rw [e];clear e;go_enter Tryz.func116,Tryz.ntmps116
        go_wp2_with (go_at_call 140;refine (PW.out _ xo _).mono ?_;rintro e w' ⟨rfl,rfl⟩;rw [hb1])
        go_ret
        exact ⟨rfl,rfl⟩
   · have e:fitB seg many=false:=by simp [fitB,c2]
     rw [e];clear e;go_enter Tryz.func116,Tryz.ntmps116
     go_wp2
     go_ret
     exact ⟨rfl,rfl⟩
 · have e:fitB seg many=false:=by simp [fitB,c1]
   rw [e];clear e;go_enter Tryz.func116,Tryz.ntmps116
   go_wp2
   go_ret
   exact ⟨rfl,rfl⟩
theorem Fits04_ok (seg many:Int) (w:World):
    Calls Tryz.prog 137 #[.int .i64 seg,.int .i64 many] w fun e w'=>e= .returned (.bool (fitB seg many))∧w=w':=by
 by_cases c1:4≤seg
 · by_cases c2:seg≤64
   · have PW:=hid Power01_ok;obtain ⟨b1,hb1⟩:∃b,pwB seg=b:=⟨_,rfl⟩
     cases b1 with
     | false=>
      have e:fitB seg many=false:=by simp [fitB,hb1]
      rw [e];clear e;go_enter Tryz.func137,Tryz.ntmps137
      go_wp2_with (go_at_call 119;refine (PW.out _ xo _).mono ?_;rintro e w' ⟨rfl,rfl⟩;rw [hb1])
      go_ret
      exact ⟨rfl,rfl⟩
     | true =>
      have hm0:seg≤many∨many<seg:=xo;by_cases c4:seg≤many
      · by_cases c5:many≤65536
        · obtain ⟨r,hr⟩:∃r,many%seg=r:=⟨_,rfl⟩
          obtain ⟨q,hq⟩:∃q,many/seg=q:=⟨_,rfl⟩
          have hq2:q≤65536:=by rw [←hq];exact Int.le_trans (Int.ediv_le_self _ xo) c5
          have hq0:0≤q:=by rw [←hq];exact Int.ediv_nonneg xo xo
          have ht1:many.tmod seg=r:=by rw [Int.tmod_eq_emod_of_nonneg xo];exact hr
          have ht2:many.tdiv seg=q:=by rw [Int.tdiv_eq_ediv_of_nonneg xo];exact hq
          have hs0:(seg==0)=false:=by simp;omega
          by_cases c6:r=0
          · have e:fitB seg many=pwB q:=by simp [fitB,hb1,hr,hq,c1,c2,c4,c5,c6]
            rw [e];subst c6;clear e;go_enter Tryz.func137,Tryz.ntmps137
            go_wp2_with (go_at_call 119;refine (PW.out _ xo _).mono ?_;rintro e w' ⟨rfl,rfl⟩;try rw [hb1])
            go_ret
            exact ⟨rfl,rfl⟩
          · have e:fitB seg many=false:=by simp [fitB,hb1,hr,c6]
            rw [e];have c6':(r==0)=false:=by simpa using c6
            clear e;go_enter Tryz.func137,Tryz.ntmps137
            go_wp2_with (go_at_call 119;refine (PW.out _ xo _).mono ?_;rintro e w' ⟨rfl,rfl⟩;rw [hb1])
            go_ret
            exact ⟨rfl,rfl⟩
        · have e:fitB seg many=false:=by simp [fitB,c5]
          rw [e];clear e;go_enter Tryz.func137,Tryz.ntmps137
          go_wp2_with (go_at_call 119;refine (PW.out _ xo _).mono ?_;rintro e w' ⟨rfl,rfl⟩;rw [hb1])
          go_ret
          exact ⟨rfl,rfl⟩
      · have e:fitB seg many=false:=by simp [fitB,c4]
        rw [e];clear e;have ht1:1≤many→many.tmod seg=many:=fun h=>by rw [Int.tmod_eq_emod_of_nonneg xo];exact Int.emod_eq_of_lt xo xo
        by_cases c7:1≤many
        · replace ht1:=ht1 c7;have c7':(many==0)=false:=by simp;omega
          have hs0:(seg==0)=false:=by simp;omega
          have c8:many≤65536:=xo;go_enter Tryz.func137,Tryz.ntmps137
          go_wp2_with (go_at_call 119;refine (PW.out _ xo _).mono ?_;rintro e w' ⟨rfl,rfl⟩;rw [hb1])
          go_ret
          exact ⟨rfl,rfl⟩
        · clear ht1;go_enter Tryz.func137,Tryz.ntmps137
          go_wp2_with (go_at_call 119;refine (PW.out _ xo _).mono ?_;rintro e w' ⟨rfl,rfl⟩;rw [hb1])
          go_ret
          exact ⟨rfl,rfl⟩
   · have e:fitB seg many=false:=by simp [fitB,c2]
     rw [e];clear e;go_enter Tryz.func137,Tryz.ntmps137
     go_wp2
     go_ret
     exact ⟨rfl,rfl⟩
 · have e:fitB seg many=false:=by simp [fitB,c1]
   rw [e];clear e;go_enter Tryz.func137,Tryz.ntmps137
   go_wp2
   go_ret
   exact ⟨rfl,rfl⟩
theorem Down_ok (n:Nat) (ni:Int) (hn:ni=n) (h0:1≤n) (h1:n≤65536) (w:World):
    Calls Tryz.prog 81 #[.int .i64 ni] w fun e w'=>e= .returned (.tuple #[.int .i64 (n.log2:Nat),.int .i64 0])∧w=w':=by
 subst hn;have hlog:n.log2≤n:=Nat.log2_le_self n;have HL:=hid hlog;clear hlog;go_enter Tryz.func81,Tryz.ntmps81
 go_wp2
 refine wp_scope_loop 0 (fun g a' w'=>w'=w∧∃b k:Nat,b=g∧b≤n∧1≤b∧k+b.log2=n.log2∧∃u:Nat→Value,a'= {tmps:= #[.int .i64 b,u 1,.int .i64 k,u 3,u 4,u 5,u 6,u 7,u 8,u 9,u 10,u 11,u 12],defers:=[]}) rfl ?_ ?_
 · rintro g a wo ⟨rfl,b,k,rfl,hbn,hb1,hk,u,rfl⟩ H hH;have hkb:k≤65536:=by have:=HL.out;omega
   by_cases h:2≤b
   · have h2:=log2_two h;have H2:=hid (And.intro h2 hk);clear h2 hk;go_wp2
     refine wp_goto ?_;refine show (0=0∧H _ _) from ⟨rfl,hH (b/2) _ _ xo ⟨rfl,b/2,k+1,rfl,by omega,by omega,by have:=H2.out;omega,frame_mk _ _ _ ?_⟩⟩
     rw [show ((b/2:Nat):Int)=(b:Int)/2 by omega,show ((k+1:Nat):Int)=(k:Int)+1 by omega];rfl
   · have h2:=log2_one (n:=b) xo;have hkl:k=n.log2:=xo;subst hkl;have hb:b=1:=xo;subst hb;clear h2 hk;go_wp2
     simp only [Exit.jump];go_ret2
     exact ⟨rfl,rfl⟩
 · intro H hH hpass;go_wp2
   refine wp_label ?_;go_step
   go_step
   refine hpass n _ _ ?_;exact ⟨rfl,n,0,rfl,Nat.le_refl _,h0,by omega,frame_mk _ _ _ rfl⟩
def clrAt (ws ks vs:List Int) (i:Nat):Bool:=bitW ws i||(ks.getD i 0==0&&vs.getD i 0==0)
def cntAt (seg:Int) (ws cs:List Int) (k:Nat):Bool:=cs.getD k 0==(cntW ws (k*seg.toNat) ((k+1)*seg.toNat):Int)
theorem slMay_eq (c:SlC) (h:slHead c=true):slMay c=((List.range c.ks.length).all (clrAt c.ws c.ks c.vs)&&(List.range c.cs.length).all (cntAt c.seg c.ws c.cs)):=by
 rw [slMay,h,Bool.true_and];rfl
theorem slMay_head {c:SlC} (h:slMay c=true):slHead c=true:=by
 simp only [slMay,Bool.and_eq_true] at h;exact h.1.1
theorem all_upto {p:Nat→Bool} {n:Nat}:(List.range n).all p=true↔∀i,i<n→p i=true:=by
 simp [List.all_eq_true]
theorem all_not {p:Nat→Bool} {n i:Nat} (h:i<n) (hp:p i=false):(List.range n).all p=false:=by
 rw [List.all_eq_false];exact ⟨i,List.mem_range.2 h,by simp [hp]⟩
theorem slCheck_in (c:SlC) (a:SlA) (hh:slHead c=true) (w:World) (hin:SlIn w c a):
    Calls Tryz.prog 97 #[slV c a] w (AnsB w (.int .i64 (slE c))):=by
 obtain ⟨S,M,hS,hS4,hS64,hnk,hnv,hnc,hM1,hSM,hM2,hnw,-,-,-⟩:=slHead_facts hh;have he:=slMay_eq c hh;simp only [slHead,Bool.and_eq_true,decide_eq_true_eq] at hh;obtain ⟨⟨⟨hf,-⟩,hwm⟩,-⟩:=hh;rw [hnk] at hf hwm;obtain ⟨R,hR⟩:∃R,slE c=R:=⟨_,rfl⟩
 have hR2:R=if ((List.range c.ks.length).all (clrAt c.ws c.ks c.vs)&&(List.range c.cs.length).all (cntAt c.seg c.ws c.cs))=true then 0 else 8:=by rw [←hR,slE,he]
 rw [hR];clear he hR;obtain ⟨seg,ws,ks,vs,cs,laid⟩:=c;obtain ⟨wa,ka,va,ca,wc,kc,vc,cc⟩:=a;obtain ⟨hw,hk,hv,hcn,hu⟩:=hin;dsimp only at *;subst hS;have HW:=hid hw;have HK:=hid hk;have HV:=hid hv;have HN:=hid hcn;have HU:=hid hu;obtain ⟨n,hn⟩:∃n,S*M=n:=⟨_,rfl⟩
 rw [hn] at hnk hnv hnw hf hwm hSM;have HLW:=hid hnw;have F1:=hid (fun w=>fits_ok S n w);rw [hf] at F1;have O1:=hid (fun w hw=>occCheck_ok wa wc ws hu n hSM xo w hw);have C1:=hid (fun k (h:k<M) w hw=>Count_ok wa wc ws hu n (k*S) ((k+1)*S) hSM xo hwm (Nat.mul_le_mul_right _ xo) (by rw [←hn,Nat.mul_comm S];exact Nat.mul_le_mul_right _ xo) w hw);rw [if_pos hwm] at O1;have hqI:(n:Int)/(S:Int)=(M:Int):=by rw [←hn];push_cast;exact Int.mul_ediv_cancel_left _ xo
 have hqM:((M:Int) != wrap64 ((n:Int)/(S:Int)))=false:=by rw [hqI,IntWalk.wrap64_in _ xo];simp
 have htd:(n:Int).tdiv S=(n:Int)/S:=Int.tdiv_eq_ediv_of_nonneg xo;have hS0:((S:Int)==0)=false:=by simp;omega
 have HRR:=hid hR2;have HKL:=hid hnk;have HVL:=hid hnv;have HCL:=hid hnc;have HNM:=hid hn;obtain ⟨lw,hlw⟩:∃lw,ws.length=lw:=⟨_,rfl⟩
 dsimp only [slV];rw [hnk,hnv,hnc,hlw];rw [hlw] at O1 C1;have HLL:=hid hlw;clear hw hk hv hcn hu hf hwm hR2 hnk hnv hnc hnw hlw hqI hn;have g1:(!true)=false:=rfl;go_enter Tryz.func97,Tryz.ntmps97
 go_wp2
 have d0:(w.alloc (.cells #[.int .i64 (S:Int),.slice wa lw wc,.slice ka n kc,.slice va n vc,.slice ca M cc,.int .u64 laid] 29)).cell? ⟨w.heap.size,0,none⟩=some (.int .i64 (S:Int)):=xcw;have d1:(w.alloc (.cells #[.int .i64 (S:Int),.slice wa lw wc,.slice ka n kc,.slice va n vc,.slice ca M cc,.int .u64 laid] 29)).cell? ⟨w.heap.size,1,none⟩=some (.slice wa lw wc):=xcw;have d2:(w.alloc (.cells #[.int .i64 (S:Int),.slice wa lw wc,.slice ka n kc,.slice va n vc,.slice ca M cc,.int .u64 laid] 29)).cell? ⟨w.heap.size,2,none⟩=some (.slice ka n kc):=xcw;have d3:(w.alloc (.cells #[.int .i64 (S:Int),.slice wa lw wc,.slice ka n kc,.slice va n vc,.slice ca M cc,.int .u64 laid] 29)).cell? ⟨w.heap.size,3,none⟩=some (.slice va n vc):=xcw;have d4:(w.alloc (.cells #[.int .i64 (S:Int),.slice wa lw wc,.slice ka n kc,.slice va n vc,.slice ca M cc,.int .u64 laid] 29)).cell? ⟨w.heap.size,4,none⟩=some (.slice ca M cc):=xcw;have HB0:Hid (Below w.heap.size w (w.alloc (.cells #[.int .i64 (S:Int),.slice wa lw wc,.slice ka n kc,.slice va n vc,.slice ca M cc,.int .u64 laid] 29))):=hid (br.alloc (Nat.le_refl _) _);have hz0:w.heap.size<(w.alloc (.cells #[.int .i64 (S:Int),.slice wa lw wc,.slice ka n kc,.slice va n vc,.slice ca M cc,.int .u64 laid] 29)).heap.size:=by simp
 generalize (w.alloc (.cells #[.int .i64 (S:Int),.slice wa lw wc,.slice ka n kc,.slice va n vc,.slice ca M cc,.int .u64 laid] 29))=w1 at *;have Q1:=hid (fun q=>Calls.quiet_of_same ((F1.out (w1.drewN q)).mono fun _ _ h=>⟨h.1,h.2.symm⟩));have Q2:=hid (fun q=>Calls.quiet_of_same ((O1.out (w1.drewN q) (HW.out.below (below_drewN HB0.out q))).mono fun _ _ h=>⟨h.1,h.2.symm⟩));go_quiet (first|exact Q1.out _|exact Q2.out _)
 have HB1:=hid (below_drewN HB0.out nq);replace d0:(w1.drewN nq).cell? ⟨w.heap.size,0,none⟩=some (.int .i64 (S:Int)):=d0;replace d1:(w1.drewN nq).cell? ⟨w.heap.size,1,none⟩=some (.slice wa lw wc):=d1;replace d2:(w1.drewN nq).cell? ⟨w.heap.size,2,none⟩=some (.slice ka n kc):=d2;replace d3:(w1.drewN nq).cell? ⟨w.heap.size,3,none⟩=some (.slice va n vc):=d3;replace d4:(w1.drewN nq).cell? ⟨w.heap.size,4,none⟩=some (.slice ca M cc):=d4;replace hz0:w.heap.size<(w1.drewN nq).heap.size:=by simpa using hz0
 generalize w1.drewN nq=w2 at *;clear Q1 Q2 HB0;go_wp2
 go_loopg [42] n (fun gk iv wr=>∃i:Nat,i+gk=n∧iv= .int .i64 i∧wr=w2∧Hid (∀j,j<i→clrAt ws ks vs j=true))
 case atStart=>exact ⟨0,by omega,rfl,rfl,hid (fun j h=>by omega)⟩
 case round=>
  obtain ⟨i,hi,rfl,rfl,HA⟩:=hrel;by_cases hlt:i<n
  · have hg:=HU.out.get (i/64);obtain ⟨bw,ow,x,rfl,hx,cw,-⟩:=(HW.out.below HB1.out).get (i:=i/64) (by have:=HLL.out;have:=HLW.out;omega);obtain ⟨bk,ok,kx,rfl,hkx,ck,-⟩:=(HK.out.below HB1.out).get (i:=i) (by rw [HKL.out];exact hlt);obtain ⟨bv,ov,vx,rfl,hvx,cv,-⟩:=(HV.out.below HB1.out).get (i:=i) (by rw [HVL.out];exact hlt);rw [hx.out] at hg;have hbit:bitW ws i=bitI x (i%64):=by rw [bitW,hx.out]
    have hand:=bitI_and hg.1 hg.2 (i%64);have hclr:clrAt ws ks vs i=(bitW ws i||(kx==0&&vx==0)):=by unfold clrAt;rw [hkx.out,hvx.out]
    rw [hbit] at hclr;obtain ⟨q,hq⟩:∃q,i/64=q:=⟨_,rfl⟩
    obtain ⟨r,hr⟩:∃r,i%64=r:=⟨_,rfl⟩
    have hqI:(i:Int)/64=(q:Int):=xo;have hrI:(i:Int)%64=(r:Int):=xo;have hql:q<lw:=by have:=HLL.out;have:=HLW.out;omega
    have hr64:r<64:=xo;rw [hq] at cw;rw [hr] at hand hclr;generalize bitI x r=bt at *;clear hx hkx hvx hq hr hbit;cases bt with
    | true=>
     rw [if_pos rfl] at hand;have HC:=hid hclr;clear hclr;go_wp2
     go_roundg (gk-1)
     case measure=>omega
     case rel=>
      refine ⟨i+1,by omega,by go_num,rfl,hid (fun j hj=> ?_)⟩;by_cases e:j=i
      · rw [e,HC.out];rfl
      · exact HA.out j xo
    | false=>
     rw [if_neg xdd] at hand;by_cases hk0:kx=0
     · by_cases hv0:vx=0
       · subst hk0 hv0;have HC:=hid hclr;clear hclr;go_wp2
         go_roundg (gk-1)
         case measure=>omega
         case rel=>
          refine ⟨i+1,by omega,by go_num,rfl,hid (fun j hj=> ?_)⟩;by_cases e:j=i
          · rw [e,HC.out];rfl
          · exact HA.out j xo
       · subst hk0;have hv1:(vx != 0)=true:=by simpa using hv0
         have hR8:R=8:=by
          rw [HRR.out,HKL.out,all_not hlt (by rw [hclr];simp [hv0]),Bool.false_and];rfl
         subst hR8;clear hclr;go_wp2
         go_ret
         exact ⟨rfl,HB1.out⟩
     · have hk1:(kx != 0)=true:=by simpa using hk0
       have hR8:R=8:=by
        rw [HRR.out,HKL.out,all_not hlt (by rw [hclr];simp [hk0]),Bool.false_and];rfl
       subst hR8;clear hclr;go_wp2
       go_ret
       exact ⟨rfl,HB1.out⟩
  · have hin:n=i:=xo;subst hin;have HAL:=hid (all_upto.2 (fun j (hj:j<n)=>HA.out j xo));clear HA;go_wp2
    go_loopg [76] M (fun gk iv wr=>∃k:Nat,k+gk=M∧iv= .int .i64 k∧wr.cell? ⟨w.heap.size,0,none⟩=some (.int .i64 (S:Int))∧wr.cell? ⟨w.heap.size,1,none⟩=some (.slice wa lw wc)∧Hid (Below w.heap.size w wr)∧w.heap.size<wr.heap.size∧Hid (∀j,j<k→cntAt S ws cs j=true))
    case atStart=>exact ⟨0,by omega,rfl,d0,d1,HB1,hz0,hid (fun j h=>by omega)⟩
    case round=>
     obtain ⟨k,hk,rfl,e0,e1,HB,hz,HA2⟩:=hrel;by_cases hlt2:k<M
     · obtain ⟨bn,on,y,rfl,hy,cy,-⟩:=(HN.out.below HB.out).get (i:=k) (by rw [HCL.out];exact hlt2);have hca:cntAt S ws cs k=(y==(cntW ws (k*S) ((k+1)*S):Int)):=by unfold cntAt;rw [hy.out,Int.toNat_natCast]
       have hcw:=C1.out k hlt2 wr (HW.out.below HB.out);have hk1:(k:Int)*(S:Int)=((k*S:Nat):Int):=by push_cast;rfl
       have hk2:((k:Int)+1)*(S:Int)=(((k+1)*S:Nat):Int):=by push_cast;rfl
       have hkb1:k*S≤n:=by rw [←HNM.out,Nat.mul_comm S];exact Nat.mul_le_mul_right _ xo
       have hkb2:(k+1)*S≤n:=by rw [←HNM.out,Nat.mul_comm S];exact Nat.mul_le_mul_right _ xo
       generalize cntW ws (k*S) ((k+1)*S)=z at *;generalize k*S=p1 at *;generalize (k+1)*S=p2 at *;have HCW:=hid hcw;clear hcw hy;by_cases hyz:y=(z:Int)
       · subst hyz;have HCA:=hid hca;clear hca;go_wp2_with fail
         refine HCW.out.mono ?_;rintro e w3 ⟨rfl,hb3⟩;replace e0:=(hb3.cell (p:=⟨w.heap.size,0,none⟩) hz).trans e0;replace e1:=(hb3.cell (p:=⟨w.heap.size,1,none⟩) hz).trans e1;have HB3:=hid (below_via hb3 HB.out xo);have hz3:w.heap.size<w3.heap.size:=by have:=hb3.size;omega
         clear hb3;go_wp2
         go_roundg (gk-1)
         case measure=>omega
         case rel=>
          refine ⟨k+1,by omega,by go_num,e0,e1,HB3,hz3,hid (fun j hj=> ?_)⟩;by_cases e:j=k
          · rw [e,HCA.out];simp
          · exact HA2.out j xo
       · have hne:((z:Int) != y)=true:=by simp;omega
         have hR8:R=8:=by
          rw [HRR.out,HCL.out,all_not (p:=cntAt S ws cs) hlt2 (by rw [hca];simpa using hyz),Bool.and_false];rfl
         subst hR8;clear hca;go_wp2_with fail
         refine HCW.out.mono ?_;rintro e w3 ⟨rfl,hb3⟩;have HB3:=hid (below_via hb3 HB.out xo);clear hb3;go_wp2
         go_ret
         exact ⟨rfl,HB3.out⟩
     · have hR0:R=0:=by
         rw [HRR.out,HKL.out,HCL.out,HAL.out,all_upto.2 (fun j (hj:j<M)=>HA2.out j xo)];rfl
       subst hR0;go_wp2
       go_ret
       exact ⟨rfl,HB.out⟩
theorem slCheck_bad (c:SlC) (a:SlA) (hh:slHead c=false) (hl:c.ws.length≤9223372036854775807) (hl2:c.ks.length≤1000000000000) (w:World) (hin:SlIn w c a):
    Calls Tryz.prog 97 #[slV c a] w (AnsB w (.int .i64 (slE c))):=by
 have he:slE c=8:=by rw [slE,slMay,hh];rfl
 rw [he];clear he;obtain ⟨seg,ws,ks,vs,cs,laid⟩:=c;obtain ⟨wa,ka,va,ca,wc,kc,vc,cc⟩:=a;obtain ⟨hw,-,-,-,hu⟩:=hin;dsimp only at *;dsimp only [slV];simp only [slHead] at hh;have HW:=hid hw;have F1:=hid (fun w=>fits_ok seg ks.length w);cases hf:fitB seg ks.length with
 | false=>
  rw [hf] at F1;clear hh hf;generalize ws.length=lw at *;generalize ks.length=n at *;generalize vs.length=lv at *;generalize cs.length=lc at *;clear hw hu;go_enter Tryz.func97,Tryz.ntmps97
  go_wp2
  have d0:(w.alloc (.cells #[.int .i64 seg,.slice wa lw wc,.slice ka n kc,.slice va lv vc,.slice ca lc cc,.int .u64 laid] 29)).cell? ⟨w.heap.size,0,none⟩=some (.int .i64 seg):=xcw;have d1:(w.alloc (.cells #[.int .i64 seg,.slice wa lw wc,.slice ka n kc,.slice va lv vc,.slice ca lc cc,.int .u64 laid] 29)).cell? ⟨w.heap.size,1,none⟩=some (.slice wa lw wc):=xcw;have d3:(w.alloc (.cells #[.int .i64 seg,.slice wa lw wc,.slice ka n kc,.slice va lv vc,.slice ca lc cc,.int .u64 laid] 29)).cell? ⟨w.heap.size,3,none⟩=some (.slice va lv vc):=xcw;have d4:(w.alloc (.cells #[.int .i64 seg,.slice wa lw wc,.slice ka n kc,.slice va lv vc,.slice ca lc cc,.int .u64 laid] 29)).cell? ⟨w.heap.size,4,none⟩=some (.slice ca lc cc):=xcw;have HB0:Hid (Below w.heap.size w (w.alloc (.cells #[.int .i64 seg,.slice wa lw wc,.slice ka n kc,.slice va lv vc,.slice ca lc cc,.int .u64 laid] 29))):=hid (br.alloc (Nat.le_refl _) _);generalize (w.alloc (.cells #[.int .i64 seg,.slice wa lw wc,.slice ka n kc,.slice va lv vc,.slice ca lc cc,.int .u64 laid] 29))=w1 at *;have Q1:=hid (fun q=>Calls.quiet_of_same ((F1.out (w1.drewN q)).mono fun _ _ h=>⟨h.1,h.2.symm⟩));go_quiet (exact Q1.out _)
  go_wp2
  go_ret
  exact ⟨rfl,below_drewN HB0.out _⟩
 | true=>
  rw [hf] at F1 hh;obtain ⟨f1,f2,-,f4,f5,f6,-⟩:=fitB_facts hf;have O1:=hid (fun w hw=>occCheck_ok wa wc ws hu ks.length xo hl w hw);clear hf;by_cases c2:vs.length=ks.length
  · have hv1:((vs.length:Int) != (ks.length:Int))=false:=by simp [c2]
    rw [decide_eq_true c2,Bool.true_and,Bool.true_and] at hh;cases hwm:wMayB ws ks.length with
    | true=>
     rw [hwm,Bool.true_and,decide_eq_false_iff_not] at hh;rw [hwm,if_pos rfl] at O1;have hd0:0≤(ks.length:Int)/seg:=Int.ediv_nonneg xo xo;have hd1:(ks.length:Int)/seg≤ks.length:=Int.ediv_le_self _ xo;have hqM:((cs.length:Int) != wrap64 ((ks.length:Int)/seg))=true:=by
      rw [IntWalk.wrap64_in _ xo];simpa using hh
     have htd:(ks.length:Int).tdiv seg=(ks.length:Int)/seg:=Int.tdiv_eq_ediv_of_nonneg xo;have hS0:(seg==0)=false:=by simp;omega
     clear hh hwm hd0 hd1 c2;generalize ws.length=lw at *;generalize ks.length=n at *;generalize vs.length=lv at *;generalize cs.length=lc at *;clear hw hu;go_enter Tryz.func97,Tryz.ntmps97
     go_wp2
     have d0:(w.alloc (.cells #[.int .i64 seg,.slice wa lw wc,.slice ka n kc,.slice va lv vc,.slice ca lc cc,.int .u64 laid] 29)).cell? ⟨w.heap.size,0,none⟩=some (.int .i64 seg):=xcw;have d1:(w.alloc (.cells #[.int .i64 seg,.slice wa lw wc,.slice ka n kc,.slice va lv vc,.slice ca lc cc,.int .u64 laid] 29)).cell? ⟨w.heap.size,1,none⟩=some (.slice wa lw wc):=xcw;have d3:(w.alloc (.cells #[.int .i64 seg,.slice wa lw wc,.slice ka n kc,.slice va lv vc,.slice ca lc cc,.int .u64 laid] 29)).cell? ⟨w.heap.size,3,none⟩=some (.slice va lv vc):=xcw;have d4:(w.alloc (.cells #[.int .i64 seg,.slice wa lw wc,.slice ka n kc,.slice va lv vc,.slice ca lc cc,.int .u64 laid] 29)).cell? ⟨w.heap.size,4,none⟩=some (.slice ca lc cc):=xcw;have HB0:Hid (Below w.heap.size w (w.alloc (.cells #[.int .i64 seg,.slice wa lw wc,.slice ka n kc,.slice va lv vc,.slice ca lc cc,.int .u64 laid] 29))):=hid (br.alloc (Nat.le_refl _) _);generalize (w.alloc (.cells #[.int .i64 seg,.slice wa lw wc,.slice ka n kc,.slice va lv vc,.slice ca lc cc,.int .u64 laid] 29))=w1 at *;have Q1:=hid (fun q=>Calls.quiet_of_same ((F1.out (w1.drewN q)).mono fun _ _ h=>⟨h.1,h.2.symm⟩));have Q2:=hid (fun q=>Calls.quiet_of_same ((O1.out (w1.drewN q) (HW.out.below (below_drewN HB0.out q))).mono fun _ _ h=>⟨h.1,h.2.symm⟩));go_quiet (first|exact Q1.out _|exact Q2.out _)
     go_wp2
     go_ret
     exact ⟨rfl,below_drewN HB0.out _⟩
    | false=>
     rw [hwm,if_neg xdd] at O1;clear hh hwm c2;generalize ws.length=lw at *;generalize ks.length=n at *;generalize vs.length=lv at *;generalize cs.length=lc at *;clear hw hu;go_enter Tryz.func97,Tryz.ntmps97
     go_wp2
     have d0:(w.alloc (.cells #[.int .i64 seg,.slice wa lw wc,.slice ka n kc,.slice va lv vc,.slice ca lc cc,.int .u64 laid] 29)).cell? ⟨w.heap.size,0,none⟩=some (.int .i64 seg):=xcw;have d1:(w.alloc (.cells #[.int .i64 seg,.slice wa lw wc,.slice ka n kc,.slice va lv vc,.slice ca lc cc,.int .u64 laid] 29)).cell? ⟨w.heap.size,1,none⟩=some (.slice wa lw wc):=xcw;have d3:(w.alloc (.cells #[.int .i64 seg,.slice wa lw wc,.slice ka n kc,.slice va lv vc,.slice ca lc cc,.int .u64 laid] 29)).cell? ⟨w.heap.size,3,none⟩=some (.slice va lv vc):=xcw;have d4:(w.alloc (.cells #[.int .i64 seg,.slice wa lw wc,.slice ka n kc,.slice va lv vc,.slice ca lc cc,.int .u64 laid] 29)).cell? ⟨w.heap.size,4,none⟩=some (.slice ca lc cc):=xcw;have HB0:Hid (Below w.heap.size w (w.alloc (.cells #[.int .i64 seg,.slice wa lw wc,.slice ka n kc,.slice va lv vc,.slice ca lc cc,.int .u64 laid] 29))):=hid (br.alloc (Nat.le_refl _) _);generalize (w.alloc (.cells #[.int .i64 seg,.slice wa lw wc,.slice ka n kc,.slice va lv vc,.slice ca lc cc,.int .u64 laid] 29))=w1 at *;have Q1:=hid (fun q=>Calls.quiet_of_same ((F1.out (w1.drewN q)).mono fun _ _ h=>⟨h.1,h.2.symm⟩));have Q2:=hid (fun q=>Calls.quiet_of_same ((O1.out (w1.drewN q) (HW.out.below (below_drewN HB0.out q))).mono fun _ _ h=>⟨h.1,h.2.symm⟩));go_quiet (first|exact Q1.out _|exact Q2.out _)
     go_wp2
     go_ret
     exact ⟨rfl,below_drewN HB0.out _⟩
  · have hv1:((vs.length:Int) != (ks.length:Int))=true:=by simp;omega
    clear hh c2;generalize ws.length=lw at *;generalize ks.length=n at *;generalize vs.length=lv at *;generalize cs.length=lc at *;clear hw hu;go_enter Tryz.func97,Tryz.ntmps97
    go_wp2
    have d0:(w.alloc (.cells #[.int .i64 seg,.slice wa lw wc,.slice ka n kc,.slice va lv vc,.slice ca lc cc,.int .u64 laid] 29)).cell? ⟨w.heap.size,0,none⟩=some (.int .i64 seg):=xcw;have d1:(w.alloc (.cells #[.int .i64 seg,.slice wa lw wc,.slice ka n kc,.slice va lv vc,.slice ca lc cc,.int .u64 laid] 29)).cell? ⟨w.heap.size,1,none⟩=some (.slice wa lw wc):=xcw;have d3:(w.alloc (.cells #[.int .i64 seg,.slice wa lw wc,.slice ka n kc,.slice va lv vc,.slice ca lc cc,.int .u64 laid] 29)).cell? ⟨w.heap.size,3,none⟩=some (.slice va lv vc):=xcw;have d4:(w.alloc (.cells #[.int .i64 seg,.slice wa lw wc,.slice ka n kc,.slice va lv vc,.slice ca lc cc,.int .u64 laid] 29)).cell? ⟨w.heap.size,4,none⟩=some (.slice ca lc cc):=xcw;have HB0:Hid (Below w.heap.size w (w.alloc (.cells #[.int .i64 seg,.slice wa lw wc,.slice ka n kc,.slice va lv vc,.slice ca lc cc,.int .u64 laid] 29))):=hid (br.alloc (Nat.le_refl _) _);generalize (w.alloc (.cells #[.int .i64 seg,.slice wa lw wc,.slice ka n kc,.slice va lv vc,.slice ca lc cc,.int .u64 laid] 29))=w1 at *;have Q1:=hid (fun q=>Calls.quiet_of_same ((F1.out (w1.drewN q)).mono fun _ _ h=>⟨h.1,h.2.symm⟩));go_quiet (exact Q1.out _)
    go_wp2
    go_ret
    exact ⟨rfl,below_drewN HB0.out _⟩
theorem slCheck_ok (c:SlC) (a:SlA) (hl:c.ws.length≤9223372036854775807) (hl2:c.ks.length≤1000000000000) (w:World) (hin:SlIn w c a):
    Calls Tryz.prog 97 #[slV c a] w (AnsB w (.int .i64 (slE c))):=by
 cases hh:slHead c with
 | true=>exact slCheck_in c a hh w hin
 | false=>exact slCheck_bad c a hh hl hl2 w hin
end
section
open Go.RowKit Go.Shelf
attribute [local go_sem] Oper.semAt_some
theorem info_Pair:(Tryz.prog.info? 52).map (fun i=>(i.zero,i.size,i.bytes))=some (some (.agg #[.int .i64 0,.int .i64 0]),2,16):=by kernel_rfl
def prI (l:List (Int×Int)):List Int:=l.flatMap fun p=>[p.1,p.2]
theorem prI_append (a b:List (Int×Int)):prI (a++b)=prI a++prI b:=by simp [prI]
theorem prI_length (l:List (Int×Int)):(prI l).length=l.length*2:=by
 induction l with
 | nil=>rfl
 | cons p r ih=>rw [show prI (p::r)=[p.1,p.2]++prI r from rfl,List.length_append,ih];simp;omega
theorem prI_get {l:List (Int×Int)} {i:Nat} (h:i<l.length):(prI l).getD (i*2) 0=(l.getD i (0,0)).1∧(prI l).getD (i*2+1) 0=(l.getD i (0,0)).2:=by
 induction l generalizing i with
 | nil=>simp at h
 | cons p r ih=>
  rw [show prI (p::r)=p.1::p.2::prI r from rfl];cases i with
  | zero=>simp
  | succ i=>
   have:=ih (i:=i) (by simpa using h);rw [show (i+1)*2=i*2+1+1 by omega,show i*2+1+1+1=(i*2+1)+1+1 by omega];simp only [List.getD_cons_succ];exact this
def FreshPr (w:World) (l:List (Int×Int)) (e:Ending) (w':World):Prop:=
  ∃v,e= .returned v∧w'.ownsRow w.heap.size 52 2 v l.length ((prI l).map (Value.int .i64))∧Below w.heap.size w w'
def FreshPr2 (w:World) (l:List (Int×Int)) (x:Value) (e:Ending) (w':World):Prop:=
  ∃v,e= .returned (.tuple #[v,x])∧w'.ownsRow w.heap.size 52 2 v l.length ((prI l).map (Value.int .i64))∧Below w.heap.size w w'
theorem pairsL_get {l:List (Int×Int)} {k:Nat} (h:k<l.length):(pairsL l).getD k #[]= #[.agg #[.int .i64 (l.getD k (0,0)).1,.int .i64 (l.getD k (0,0)).2]]:=by
 rw [List.getD_eq_getElem?_getD,pairsL,List.getElem?_map,List.getElem?_eq_getElem h];simp [List.getD_eq_getElem?_getD,List.getElem?_eq_getElem h]
theorem take_succ_pr {l:List (Int×Int)} {k:Nat} (h:k<l.length):l.take (k+1)=l.take k++[((l.getD k (0,0)).1,(l.getD k (0,0)).2)]:=by
 rw [List.take_succ_eq_append_getElem h];have e:l.getD k (0,0)=l[k]:=by simp [List.getD_eq_getElem?_getD,List.getElem?_eq_getElem h]
 rw [e]
theorem own_isCells {w:World} {B:Nat} {e:TypeId} {s:Nat} {v:Value} {n:Nat} {xs:List Value} (h:w.ownsRow B e s v n xs):∀(j:Nat) (o:Obj),v.ownBlock=some j→w.heap[j]? =some o→o.isCells=true:=by
 intro j o hj ho;obtain ⟨-,⟨rfl,-⟩ | ⟨g,cap,cur,rfl,-,hh,-⟩⟩:=h
 · cases hj
 · cases hj;rw [hh] at ho;cases ho;rfl
structure AppI (l:List (Int×Int)) (B:Nat) (w:World) (k:Nat) (W:World):Prop where
 own:∃v,W.cell? ⟨B,0,none⟩=some v∧W.ownsRow (B+1) 52 2 v k ((prI (l.take k)).map (Value.int .i64))
 fz:W.frozen? ⟨B,0,none⟩=false
 bel:Below B w W
theorem AppI.calm {l:List (Int×Int)} {B M:Nat} {w:World} {k:Nat} {W W':World} (h:AppI l B w k W) (hc:Calm M W W') (hB:B≤M):AppI l B w k W':=by
 obtain ⟨⟨v,h1,h2⟩,h3,h4⟩:=h;exact ⟨⟨v,hc.cell h1,hc.owns h2⟩,hc.frozen h1 h3,hc.below hB h4⟩
theorem AppendSeq_ok (l:List (Int×Int)) (hl:l.length≤100000) (gf:Nat) (lb:Array Value) (eg:∀args w,(callFunc gf args).run Tryz.prog w= .ok (.enter gf args) w) (w:World) (hit:Iter Tryz.prog gf lb (pairsL l) (KpS (fun k=>k<w.heap.size)) w):
    Calls Tryz.prog 125 #[.slice none 0 0,.func (.func gf) #[] lb] w (FreshPr w l):=by
 have IT:=hid (fun W (hb:Below w.heap.size w W)=>hit.later hb);have HPL:=hid (pairsL_length l);have HPG:=hid (fun k (h:k<l.length)=>pairsL_get h);clear hit;refine calls_of_wp_m Tryz.func125 rfl ?_;simp only [Tryz.ntmps125,List.size_toArray,List.length_cons,List.length_nil,Nat.reduceAdd,Nat.reduceSub,Array.replicate_succ,Array.replicate_zero,List.push_toArray,List.append_toArray,List.nil_append,List.cons_append];go_wp2
 refine wp_range_w (xs:=pairsL l) (Kp:=KpS (fun k=>k<w.heap.size)) rfl eg
   (IT.out _ (br.alloc (Nat.le_refl _) _)) br (fun h k=>fun i hi=>(k i hi).trans (h i hi)) ?kb ?ps
   (AppI l w.heap.size w) (fun _ _=>False) ?hI (fun _ _ _ h _=>h) ?h0 ?round ?done (fun _ _ _ _ h _=>h.elim)
 case kb=>
  intro W q o o' hl _ _ k hk;simp at hl;exact World.putObj_heap_other xo
 case ps=>
  intro x hx;simp only [pairsL,List.mem_map] at hx;obtain ⟨k,_,rfl⟩:=hx;rfl
 case hI=>
  intro k W W' h hc;exact h.calm hc xsi
 case h0=>
  exact ⟨⟨_,by (exact xcn),World.ownsRow_nil _ _ _ _⟩,by (exact xcn),by (exact xbel)⟩
 case round=>
  intro q k W hq hk hi;rw [HPL.out] at hk;rw [HPG.out k hk];have htk:=hid (take_succ_pr hk);generalize (l.getD k (0,0)).1=x at *;generalize (l.getD k (0,0)).2=y at *;obtain ⟨⟨v,hv,ho⟩,hfz,hbel⟩:=hi;have hzb:w.heap.size<W.heap.size:=World.block_lt_of_cell? _ _ hv;obtain ⟨ao,co,rfl,-⟩:=owns_news ho;have hlt1:(prI (l.take k)).length=k*2:=by rw [prI_length,List.length_take];omega
  gi_wp2
  have hab:Below W.heap.size W (W.alloc (.cells #[.int .i64 x,.int .i64 y] 52)):=br.alloc (Nat.le_refl _) _;refine ⟨keeps_below hab,fun i hi=>hab.block i xo,?_⟩;intro W2 hc;have hc0:W2.cell? ⟨W.heap.size,0,none⟩=some (.int .i64 x):=hc.cell xcw;have hc1:W2.cell? ⟨W.heap.size,1,none⟩=some (.int .i64 y):=hc.cell xcw;have hv2:W2.cell? ⟨w.heap.size,0,none⟩=some (.slice ao k co):=hc.cell ((hab.cell (p:=⟨w.heap.size,0,none⟩) hzb).trans hv);have hfz2:W2.frozen? ⟨w.heap.size,0,none⟩=false:=hc.frozen ((hab.cell (p:=⟨w.heap.size,0,none⟩) hzb).trans hv) ((hab.frozen (p:=⟨w.heap.size,0,none⟩) hzb).trans hfz);have ho2:=hc.owns (owns_below ho hab);have hbel2:Below w.heap.size w W2:=hc.below xsi (below_via hab hbel xo);have hz2:=hbel2.size;have HO2:=hid ho2;have HB2:=hid hbel2;have hzw:w.heap.size<W2.heap.size:=World.block_lt_of_cell? _ _ hv2;clear ho hbel hab hc ho2 hbel2 hv hfz
  gi_wp2_with (gi_at_builtin;refine wpListIn_append_own _ rfl (.tmp 8) (.tmp 10) 82 rfl (w.heap.size+1) 52 _ (.agg #[.int .i64 0,.int .i64 0]) 2 16 Tryz.underlying82 (info_parts info_Pair).choose_spec.1 (info_parts info_Pair).choose_spec.2.1 (info_parts info_Pair).choose_spec.2.2.1 (info_parts info_Pair).choose_spec.2.2.2 rfl xdd _ k _ rfl (HO2.out.alloc (.cells #[.int .i64 x,.int .i64 y] 52)) ⟨W2.heap.size,0,none⟩ 1 1 [.int .i64 x,.int .i64 y] rfl rfl (new_cells _ [.int .i64 x,.int .i64 y] _ _ rfl _ rfl) (by simp [Value.oneCell']) (by unfold maxLen;omega) xo (by simp;omega) ?_;intro v' w3 ho3 hg3 _
               obtain ⟨a3,c3,rfl,-⟩:=owns_news ho3;have hne3:some w.heap.size≠(Value.slice ao k co).ownBlock:=fun e=>(by have:=(HO2.out.lt _ e.symm).1;omega)
               have hbl3:=hg3.block w.heap.size (by simp;omega) hne3;have hv3:w3.cell? ⟨w.heap.size,0,none⟩=some (.slice ao k co):=(World.cell?_of_block (a:=⟨w.heap.size,0,none⟩) hbl3).trans ((((Below.refl _ W2).alloc (Nat.le_refl _) _).cell (p:=⟨w.heap.size,0,none⟩) hzw).trans hv2);have hfz3:w3.frozen? ⟨w.heap.size,0,none⟩=false:=(World.frozen?_of_block (a:=⟨w.heap.size,0,none⟩) hbl3).trans ((((Below.refl _ W2).alloc (Nat.le_refl _) _).frozen (p:=⟨w.heap.size,0,none⟩) hzw).trans hfz2);have HO3:=hid ho3;have HG3:=hid hg3;clear ho3 hg3 hbl3 hne3)
  have hB3:Below w.heap.size w w3:=(HB2.out.alloc xo (.cells #[.int .i64 x,.int .i64 y] 52)).grown HG3.out (by simp;omega) (fun z hz=>by have:=(HO2.out.lt _ hz).1;omega);have hK3:KeepsOthers W2 w3:=(keeps_below (((Below.refl _ W2).alloc (Nat.le_refl _) _))).trans (KeepsOthers.of_grownBy HG3.out (own_isCells (HO2.out.alloc _)));refine ⟨hK3.trans (KeepsOthers.setCell _ _ _),fun i hi=> ?_,⟨⟨_,World.cell?_setCell_same _ _ _ hv3,?_⟩,?_,hB3.setCell (Nat.le_refl _) _⟩⟩
  · rw [Below.heap_setCell _ _ _ _ (show i≠w.heap.size by omega),HG3.out.block i (by simp;omega) (fun e=>by have:=(HO2.out.lt _ e.symm).1;omega)];exact ((Below.refl _ W2).alloc (Nat.le_refl _) _).block i xo
  · rw [htk.out,prI_append,List.map_append];exact owns_heap HO3.out fun z hz=>Below.heap_setCell _ _ _ _ (by have:=(HO3.out.lt _ hz).1;show z≠w.heap.size;omega)
  · rw [World.frozen?_setCell];exact hfz3
 case done=>
  intro D W hD hi hK;obtain ⟨⟨v,hv,ho⟩,hfz,hbel⟩:=hi;rw [HPL.out,List.take_length] at ho;obtain ⟨ao,co,rfl,-⟩:=owns_news ho;have HO:=hid ho;have HB:=hid hbel;clear ho hbel;go_wp2
  simp at hD;refine postM_one hK (results_tmp rfl _ _ _) ⟨_,rfl,?_,?_⟩
  · exact owns_base ((Calm.putObj (B:=0) _ (Nat.zero_le _) hK rfl).owns HO.out) xo
  · exact (Calm.putObj (B:=w.heap.size) _ xo hK rfl).below (Nat.le_refl _) HB.out
theorem Collect_ok (l:List (Int×Int)) (hl:l.length≤100000) (gf:Nat) (lb:Array Value) (eg:∀args w,(callFunc gf args).run Tryz.prog w= .ok (.enter gf args) w) (w:World) (hit:Iter Tryz.prog gf lb (pairsL l) (KpS (fun k=>k<w.heap.size)) w):
    Calls Tryz.prog 94 #[.func (.func gf) #[] lb] w (FreshPr w l):=by
 have A:=hid (AppendSeq_ok l hl gf lb eg w hit);clear hit;go_enter Tryz.func94,Tryz.ntmps94
 go_wp2_with fail
 refine A.out.mono ?_;rintro e w1 ⟨v,rfl,ho,hb⟩;have HO:=hid ho;have HB:=hid hb;clear ho hb;go_wp2
 go_ret
 exact ⟨v,rfl,HO.out,HB.out⟩
theorem pairs_ok (c:SlC) (a:SlA) (lo hi:Int) (w:World):
    Calls Tryz.prog 95 #[slV c a,.int .i64 lo,.int .i64 hi] w fun e w'=>e= .returned (.func (.func 126) #[] #[.pointer (some ⟨w.heap.size+1,0,none⟩),.pointer (some ⟨w.heap.size+2,0,none⟩),.pointer (some ⟨w.heap.size,0,none⟩)])∧
      w'=((w.alloc (.cells #[.int .i64 c.seg,.slice a.wa c.ws.length a.wc,.slice a.ka c.ks.length a.kc,.slice a.va c.vs.length a.vc,.slice a.ca c.cs.length a.cc,.int .u64 c.laid] 29)).alloc (.cells #[.int .i64 lo] 3)).alloc (.cells #[.int .i64 hi] 3):=by
 go_enter Tryz.func95,Tryz.ntmps95
 go_wp2
 go_ret
 exact ⟨rfl,rfl⟩
def partE (c:SlC) (lo hi:Int):Int:=if slMay c=true then (if 0≤lo∧lo≤hi∧hi≤c.ks.length then 0 else 2) else 8
def prsR (c:SlC) (lo hi:Int):List (Int×Int):=if partE c lo hi=0 then prs c lo.toNat hi.toNat else []
theorem part_ok (c:SlC) (a:SlA) (hl:c.ws.length≤9223372036854775807) (hl2:c.ks.length≤1000000000000) (lo hi:Int) (w:World) (hin:SlIn w c a):
    Calls Tryz.prog 93 #[slV c a,.int .i64 lo,.int .i64 hi] w (AnsB w (.int .i64 (partE c lo hi))):=by
 have CK:=hid (slCheck_ok c a hl hl2 _ (hin.below ((Below.refl _ w).alloc (Nat.le_refl _) (.cells #[.int .i64 c.seg,.slice a.wa c.ws.length a.wc,.slice a.ka c.ks.length a.kc,.slice a.va c.vs.length a.vc,.slice a.ca c.cs.length a.cc,.int .u64 c.laid] 29))));by_cases hm:slMay c=true
 · have e0:slE c=0:=if_pos hm;rw [e0] at CK;have hv:partE c lo hi=if 0≤lo∧lo≤hi∧hi≤c.ks.length then 0 else 2:=if_pos hm
   have hsp:(partE c lo hi=0∧0≤lo∧lo≤hi∧hi≤c.ks.length)∨(partE c lo hi=2∧lo<0)∨(partE c lo hi=2∧0≤lo∧hi<lo)∨(partE c lo hi=2∧0≤lo∧lo≤hi∧(c.ks.length:Int)<hi):=by
    by_cases h:0≤lo∧lo≤hi∧hi≤c.ks.length
    · rw [if_pos h] at hv;exact .inl ⟨hv,h⟩
    · rw [if_neg h] at hv;by_cases h1:lo<0
      · exact .inr (.inl ⟨hv,h1⟩)
      · by_cases h2:hi<lo
        · exact .inr (.inr (.inl ⟨hv,by omega,h2⟩))
        · exact .inr (.inr (.inr ⟨hv,by omega,by omega,by omega⟩))
   generalize partE c lo hi=ev at *;obtain ⟨seg,ws,ks,vs,cs,laid⟩:=c;obtain ⟨wa,ka,va,ca,wc,kc,vc,cc⟩:=a;dsimp only [slV] at *;clear hin hm e0 hv;generalize ws.length=lw at *;generalize ks.length=n at *;generalize vs.length=lv at *;generalize cs.length=lc at *;rcases hsp with ⟨rfl,h1,h2,h3⟩ | ⟨rfl,h1⟩ | ⟨rfl,h1,h2⟩ | ⟨rfl,h1,h2,h3⟩
   all_goals
     go_enter Tryz.func93,Tryz.ntmps93
     go_wp2_with fail
     refine (CK.out).mono ?_;rintro e w1 ⟨rfl,hb1⟩;have hz_w1:=hb1.size;try simp only [World.size_alloc,World.size_setCell] at hz_w1
     have c_t0:w1.cell? ⟨w.heap.size,0,none⟩=some (.int .i64 seg):=xjt hb1 xlt xcn;have c_t1:w1.cell? ⟨w.heap.size,1,none⟩=some (.slice wa lw wc):=xjt hb1 xlt xcn;have c_t2:w1.cell? ⟨w.heap.size,2,none⟩=some (.slice ka n kc):=xjt hb1 xlt xcn;have z_t:w.heap.size<w1.heap.size:=xo;have hB1:Below w.heap.size w w1:=xbel;go_wp2
     go_ret
     exact ⟨rfl,hB1⟩
 · have e0:slE c=8:=if_neg hm;have hv:partE c lo hi=8:=if_neg hm;rw [e0] at CK;rw [hv];obtain ⟨seg,ws,ks,vs,cs,laid⟩:=c;obtain ⟨wa,ka,va,ca,wc,kc,vc,cc⟩:=a;dsimp only [slV] at *;clear hin hm e0 hv;go_enter Tryz.func93,Tryz.ntmps93
   go_wp2_with fail
   refine (CK.out).mono ?_;rintro e w1 ⟨rfl,hb1⟩;have hz_w1:=hb1.size;try simp only [World.size_alloc,World.size_setCell] at hz_w1
   have hB1:Below w.heap.size w w1:=xbel;go_wp2
   go_ret
   exact ⟨rfl,hB1⟩
theorem row_block {k:IntKind} {W:World} {a:Option Addr} {xs:List Int} (h:IsRow k W a xs):∀x,a=some x→0<xs.length→x.block<W.heap.size:=by
 intro x hx h0;obtain ⟨b,off,y,he,-,-,hlt⟩:=h.get h0;rw [he] at hx;cases hx;exact hlt
theorem Pairs_ok (c:SlC) (a:SlA) (hl:c.ws.length≤9223372036854775807) (hl2:c.ks.length≤1000000000000) (lo hi:Int) (w:World) (hin:SlIn w c a):
    Calls Tryz.prog 63 #[slV c a,.int .i64 lo,.int .i64 hi] w (FreshPr2 w (prsR c lo hi) (.int .i64 (partE c lo hi))):=by
 have PT:=hid (fun W (hb:Below w.heap.size w W)=>part_ok c a hl hl2 lo hi W (hin.below hb));by_cases he:partE c lo hi=0
 · have hr:prsR c lo hi=prs c lo.toNat hi.toNat:=if_pos he;rw [he] at PT;rw [hr,he];have hm:slMay c=true:=by
    unfold partE at he;split at he
    · assumption
    · cases he
   have hp:0≤lo∧lo≤hi∧hi≤c.ks.length:=by
    unfold partE at he;rw [if_pos hm] at he;split at he
    · assumption
    · cases he
   obtain ⟨S,M,-,-,-,hnk,hnv,-,-,hSM,-,hnw,-,-,-⟩:=slHead_facts (slMay_head hm);obtain ⟨p,rfl⟩:∃p:Nat,lo=p:=⟨lo.toNat,by omega⟩
   obtain ⟨q,rfl⟩:∃q:Nat,hi=q:=⟨hi.toNat,by omega⟩
   rw [Int.toNat_natCast,Int.toNat_natCast];have hlen:(prs c p q).length≤100000:=by
    rw [prs_length];have:=cntW_le c.ws p q;omega
   have IT:=hid (fun S b1 b2 b3 s1 s2 s3 hS w hw hk hv hbx=>pairs1_iter c a hin.u p q xo xo xo xo xo S b1 b2 b3 s1 s2 s3 hS w hw hk hv hbx);have HIN:=hid hin;have CO:=hid (fun gf lb eg w hit=>Collect_ok (prs c p q) hlen gf lb eg w hit);generalize prs c p q=L at *;have PA:=hid (fun w=>pairs_ok c a p q w);clear hin he hr hm hp hnk hnv hSM hnw;obtain ⟨seg,ws,ks,vs,cs,laid⟩:=c;obtain ⟨wa,ka,va,ca,wc,kc,vc,cc⟩:=a;dsimp only [slV] at *;go_enter Tryz.func63,Tryz.ntmps63
   go_wp2_with fail
   refine (PT.out _ (br.alloc (Nat.le_refl _) _)).mono ?_;rintro e w1 ⟨rfl,hb1⟩;have hz_w1:=hb1.size;try simp only [World.size_alloc,World.size_setCell] at hz_w1
   have c_t0:w1.cell? ⟨w.heap.size,0,none⟩=some (.int .i64 seg):=xjt hb1 xlt xcn;have c_t1:w1.cell? ⟨w.heap.size,1,none⟩=some (.slice wa ws.length wc):=xjt hb1 xlt xcn;have c_t2:w1.cell? ⟨w.heap.size,2,none⟩=some (.slice ka ks.length kc):=xjt hb1 xlt xcn;have c_t3:w1.cell? ⟨w.heap.size,3,none⟩=some (.slice va vs.length vc):=xjt hb1 xlt xcn;have c_t4:w1.cell? ⟨w.heap.size,4,none⟩=some (.slice ca cs.length cc):=xjt hb1 xlt xcn;have c_t5:w1.cell? ⟨w.heap.size,5,none⟩=some (.int .u64 laid):=xjt hb1 xlt xcn;have z_t:w.heap.size<w1.heap.size:=xo;have hB1:Below w.heap.size w w1:=xbel;have hz1:=hB1.size;go_wp2_with fail
   refine (PA.out _).mono ?_;rintro e w2 ⟨rfl,rfl⟩;have HI1:=HIN.out.below hB1;go_wp2_with fail
   refine (CO.out _ _ (enters_of Tryz.func126 xk rfl) _ (IT.out _ (w1.heap.size+1) (w1.heap.size+2) w1.heap.size xsi xsi (by simp;omega) ⟨?s1,?s2,?s3⟩ _ ?r1 ?r2 ?r3 ⟨?b1,?b2,?b3,?b4,?b5,?b6,?b7,?b8⟩)).mono ?_
   case s1=>intro x hx h0;have:=row_block HI1.w x hx h0;simp;omega
   case s2=>intro x hx h0;have:=row_block HI1.k x hx h0;simp;omega
   case s3=>intro x hx h0;have:=row_block HI1.v x hx h0;simp;omega
   case r1=>exact HI1.w.below xbel
   case r2=>exact HI1.k.below xbel
   case r3=>exact HI1.v.below xbel
   case b1=>(exact xcn)
   case b2=>(exact xcn)
   case b3=>(exact xcn)
   case b4=>(exact xcn)
   case b5=>(exact xcn)
   case b6=>(exact xcn)
   case b7=>(exact xcn)
   case b8=>(exact xcn)
   rintro e w3 ⟨v,rfl,ho,hb3⟩;have HO:=hid ho;have HB3:=hid (show Below w.heap.size w w3 from below_via hb3 (((hB1.alloc xo _).alloc (by simp;omega) _).alloc (by simp;omega) _) (by simp;omega));clear ho hb3 HI1;go_wp2
   go_ret2
   exact ⟨v,rfl,owns_base HO.out (by simp;omega),HB3.out⟩
 · have hr:prsR c lo hi=[]:=if_neg he;have hne:(partE c lo hi != 0)=true:=by simpa using he
   rw [hr];generalize partE c lo hi=ev at *;obtain ⟨seg,ws,ks,vs,cs,laid⟩:=c;obtain ⟨wa,ka,va,ca,wc,kc,vc,cc⟩:=a;dsimp only [slV] at *;clear hin he hr;go_enter Tryz.func63,Tryz.ntmps63
   go_wp2_with fail
   refine (PT.out _ (br.alloc (Nat.le_refl _) _)).mono ?_;rintro e w1 ⟨rfl,hb1⟩;have hz_w1:=hb1.size;try simp only [World.size_alloc,World.size_setCell] at hz_w1
   have hB1:Below w.heap.size w w1:=xbel;go_wp2
   go_ret2
   exact ⟨_,rfl,World.ownsRow_nil _ _ _ _,hB1⟩
end
end Go.Proofs.YtbedhbpgnfffmaaGreat

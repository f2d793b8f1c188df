/- Merged: PrsIt. -/
import Derived.Test.YtmnlagmmbfjbeaaDoorPmaNamesP5
namespace Go.Proofs.YtmnlagmmbfjbeaaDoor
set_option maxRecDepth 100000
set_option maxHeartbeats 40000000
set_option linter.unusedVariables false
set_option linter.unusedSimpArgs false
section
open Go.RowKit Go.Shelf
attribute [local go_sem] Oper.semAt_some
theorem cntW_succ {ws:List Int} {a b:Nat} (h:a≤b):cntW ws a (b+1)=cntW ws a b+if bitW ws b=true then 1 else 0:=by
 rw [←plsW_length,←plsW_length,plsW_succ h,List.length_append];split<;>rfl
theorem cntW_mono {ws:List Int} {a b c:Nat} (h:b≤c):cntW ws a b≤cntW ws a c:=by
 induction c with
 | zero=>rw [show b=0 by omega];exact Nat.le_refl _
 | succ c ih=>
  by_cases e:b=c+1
  · rw [e];exact Nat.le_refl _
  · by_cases h2:a≤c
    · rw [cntW_succ h2];have:=ih xo;omega
    · rw [cntW_none xo];omega
theorem prs_length (c:SlC) (a b:Nat):(prs c a b).length=cntW c.ws a b:=by rw [prs,List.length_map,plsW_length]
theorem prs_succ {c:SlC} {a b:Nat} (h:a≤b):prs c a (b+1)=prs c a b++if bitW c.ws b=true then [(c.ks.getD b 0,c.vs.getD b 0)] else []:=by
 unfold prs;rw [plsW_succ h,List.map_append];split<;>rfl
theorem prs_split {c:SlC} {a b d:Nat} (h1:a≤b) (h2:b≤d):∃r,prs c a d=prs c a b++r:=by
 induction d with
 | zero=>exact ⟨[],by rw [show b=0 by omega,List.append_nil]⟩
 | succ d ih=>
  by_cases e:b=d+1
  · exact ⟨[],by rw [e,List.append_nil]⟩
  · obtain ⟨r,hr⟩:=ih xo;rw [prs_succ xo,hr,List.append_assoc];exact ⟨_,rfl⟩
def pairsL (l:List (Int×Int)):List (Array Value):=l.map fun p=> #[.agg #[.int .i64 p.1,.int .i64 p.2]]
theorem pairsL_length (l:List (Int×Int)):(pairsL l).length=l.length:=by simp [pairsL]
theorem pairsL_at {c:SlC} {a b d:Nat} (h1:a≤b) (h2:b+1≤d) (hb:bitW c.ws b=true):(pairsL (prs c a d)).getD (cntW c.ws a b) #[]= #[.agg #[.int .i64 (c.ks.getD b 0),.int .i64 (c.vs.getD b 0)]]:=by
 obtain ⟨r,hr⟩:=prs_split (c:=c) (show a≤b+1 by omega) h2;rw [hr,prs_succ h1,if_pos hb,pairsL,List.map_append,List.map_append,List.getD_eq_getElem?_getD,List.append_assoc,List.getElem?_append_right (by rw [List.length_map,prs_length];exact Nat.le_refl _)];rw [List.length_map,prs_length,Nat.sub_self];rfl
theorem cell_at_drew {W W':World} (h:∃q,W'=W.drewN q) {p:Addr} {v:Value} (hc:W.cell? p=some v):W'.cell? p=some v:=by
 obtain ⟨q,rfl⟩:=h;exact hc
theorem is_ok (wa:Option Addr) (lw wc:Nat) (ws:List Int) (hu:U64s ws) (i:Nat) (hlw:ws.length=lw) (hi:i/64<lw) (hi2:i≤1000000000000) (b:Nat) (w:World) (hw:IsRow .u64 w wa ws) (c1:w.cell? ⟨b,1,none⟩=some (.slice wa lw wc)):
    Calls Tryd.prog 81 #[.pointer (some ⟨b,0,none⟩),.int .i64 i] w fun e w'=>e= .returned (.bool (bitW ws i))∧w=w':=by
 obtain ⟨bb,off,x,rfl,hx,hc,-⟩:=hw.get (i:=i/64) xo;have hg:=hu.get (i/64);rw [hx.out] at hg;have hb:bitW ws i=bitI x (i%64):=by rw [bitW,hx.out]
 have hand:=bitI_and hg.1 hg.2 (i%64);obtain ⟨q,hq⟩:∃q,i/64=q:=⟨_,rfl⟩
 obtain ⟨r,hr⟩:∃r,i%64=r:=⟨_,rfl⟩
 have hqI:(i:Int)/64=(q:Int):=xo;have hrI:(i:Int)%64=(r:Int):=xo;have hr64:r<64:=xo;rw [hr] at hand hb;rw [hq] at hc hi;rw [hb];generalize bitI x r=bt at *;clear hx hb hw hu hq hr hlw;cases bt with
 | true=>
  rw [if_pos rfl] at hand;go_enter Tryd.func81,Tryd.ntmps81
  go_wp2
  go_ret
  exact ⟨rfl,rfl⟩
 | false=>
  rw [if_neg xdd] at hand;go_enter Tryd.func81,Tryd.ntmps81
  go_wp2
  go_ret
  exact ⟨rfl,rfl⟩
structure PrBox (W:World) (b1 b2 b3:Nat) (c:SlC) (a:SlA) (lo hi:Nat):Prop where
 lo:W.cell? ⟨b1,0,none⟩=some (.int .i64 lo)
 hi:W.cell? ⟨b2,0,none⟩=some (.int .i64 hi)
 c0:W.cell? ⟨b3,0,none⟩=some (.int .i64 c.seg)
 c1:W.cell? ⟨b3,1,none⟩=some (.slice a.wa c.ws.length a.wc)
 c2:W.cell? ⟨b3,2,none⟩=some (.slice a.ka c.ks.length a.kc)
 c3:W.cell? ⟨b3,3,none⟩=some (.slice a.va c.vs.length a.vc)
 c4:W.cell? ⟨b3,4,none⟩=some (.slice a.ca c.cs.length a.cc)
 c5:W.cell? ⟨b3,5,none⟩=some (.int .u64 c.laid)
theorem PrBox.below {W W':World} {b1 b2 b3:Nat} {c:SlC} {a:SlA} {lo hi:Nat} (h:PrBox W b1 b2 b3 c a lo hi) (hb:Below W.heap.size W W'):PrBox W' b1 b2 b3 c a lo hi:=
  have t {p v} (hc:W.cell? p=some v):W'.cell? p=some v:=(hb.cell (World.block_lt_of_cell? _ _ hc)).trans hc
  ⟨t h.lo,t h.hi,t h.c0,t h.c1,t h.c2,t h.c3,t h.c4,t h.c5⟩
theorem PrBox.kept {S:Nat→Prop} {W W':World} {b1 b2 b3:Nat} {c:SlC} {a:SlA} {lo hi:Nat} (h:PrBox W b1 b2 b3 c a lo hi) (hk:KpS S W W') (s1:S b1) (s2:S b2) (s3:S b3):PrBox W' b1 b2 b3 c a lo hi:=
  ⟨hk.cell (a:=⟨b1,0,none⟩) s1 h.lo,hk.cell (a:=⟨b2,0,none⟩) s2 h.hi,hk.cell (a:=⟨b3,0,none⟩) s3 h.c0,hk.cell (a:=⟨b3,1,none⟩) s3 h.c1,hk.cell (a:=⟨b3,2,none⟩) s3 h.c2,hk.cell (a:=⟨b3,3,none⟩) s3 h.c3,hk.cell (a:=⟨b3,4,none⟩) s3 h.c4,hk.cell (a:=⟨b3,5,none⟩) s3 h.c5⟩
structure SlS (S:Nat→Prop) (c:SlC) (a:SlA):Prop where
 w:∀x,a.wa=some x→0<c.ws.length→S x.block
 k:∀x,a.ka=some x→0<c.ks.length→S x.block
 v:∀x,a.va=some x→0<c.vs.length→S x.block
theorem pairs1_iter (c:SlC) (a:SlA) (hu:U64s c.ws) (lo hi:Nat) (hlh:lo≤hi) (hkn:hi≤c.ks.length) (hvn:c.vs.length=c.ks.length) (hwn:c.ks.length≤64*c.ws.length) (hn:c.ks.length≤65536) (S:Nat→Prop) (b1 b2 b3:Nat) (s1:S b1) (s2:S b2) (s3:S b3) (hS:SlS S c a)
    (w:World) (hw:IsRow .u64 w a.wa c.ws) (hk:IsRow .i64 w a.ka c.ks) (hv:IsRow .i64 w a.va c.vs) (hbx:PrBox w b1 b2 b3 c a lo hi):
    Iter Tryd.prog 91 #[.pointer (some ⟨b1,0,none⟩),.pointer (some ⟨b2,0,none⟩),.pointer (some ⟨b3,0,none⟩)] (pairsL (prs c lo hi)) (KpS S) w:=by
 intro l J Jx W hW hJ hJx hY h0;have HY:=hid hY;have HJ:=hid hJ;have HBX:=hid (hbx.below hW);have HW:=hid (hw.below hW);have HK:=hid (hk.below hW);have HV:=hid (hv.below hW);have HS:=hid hS;have HPL:=hid ((pairsL_length _).trans (prs_length c lo hi));have HPA:=hid (fun b (h1:lo≤b) (h2:b+1≤hi) hb=>pairsL_at (c:=c) h1 h2 hb);have HCS:=hid (fun b (h1:lo≤b)=>cntW_succ (ws:=c.ws) h1);have HCM:=hid (fun b (h1:b≤hi)=>cntW_mono (ws:=c.ws) (a:=lo) h1);have HC0:=hid (cntW_none (ws:=c.ws) (Nat.le_refl lo));clear hY hJ hJx hw hk hv hS hbx;refine callsIn_of_wp Tryd.func91 rfl trivial ?_ rfl;simp only [Tryd.ntmps91,List.size_toArray,List.length_cons,List.length_nil,Nat.reduceAdd,Nat.reduceSub,Array.replicate_succ,Array.replicate_zero,List.push_toArray,List.append_toArray,List.nil_append,List.cons_append];have q1:=HBX.out.lo;gi_wp2
 gi_loopg [5] (hi-lo) (fun g iv wr=>∃i:Nat,i+g=hi∧lo≤i∧iv= .int .i64 i∧Hid (J (cntW c.ws lo i) wr)∧Hid (PrBox wr b1 b2 b3 c a lo hi)∧Hid (IsRow .u64 wr a.wa c.ws)∧Hid (IsRow .i64 wr a.ka c.ks)∧Hid (IsRow .i64 wr a.va c.vs))
 case atStart=>exact ⟨lo,by omega,Nat.le_refl _,rfl,hid (by rw [HC0.out];exact h0),HBX,HW,HK,HV⟩
 case round=>
  obtain ⟨i,hi',hli,rfl,HJ0,HB,HRW,HRK,HRV⟩:=hrel;by_cases hlt:i<hi
  · obtain ⟨bw,ow,x,hae,-,cw,zw⟩:=HRW.out.get (i:=i/64) xo;obtain ⟨bk,ok,kx,hke,hkx,ck,zk⟩:=HRK.out.get (i:=i) xo;obtain ⟨bv,ov,vx,hve,hvx,cv,zv⟩:=HRV.out.get (i:=i) xo;have hpa:=HPA.out i hli xo;rw [hkx.out,hvx.out] at hpa;have hcs:=HCS.out i hli;obtain ⟨k,hk⟩:∃k,cntW c.ws lo i=k:=⟨_,rfl⟩
    obtain ⟨m,hm⟩:∃m,cntW c.ws lo hi=m:=⟨_,rfl⟩
    have hkm:bitW c.ws i=true→k<m:=by
     intro hb;have h1:=HCM.out (i+1) xo;rw [hcs,if_pos hb] at h1;omega
    rw [hk] at HJ0 hpa hcs;have HPL2:=hid (HPL.out.trans hm);have hiw:i/64<c.ws.length:=xo;obtain ⟨bt,hbt⟩:∃bt,bitW c.ws i=bt:=⟨_,rfl⟩
    have hisok:=fun W' (hw:IsRow .u64 W' a.wa c.ws) b (h1:W'.cell? ⟨b,1,none⟩=some (.slice a.wa c.ws.length a.wc))=>is_ok a.wa c.ws.length a.wc c.ws hu i rfl hiw xo b W' hw h1
    rw [hbt] at hisok hpa hcs hkm;have HIO:=hid hisok;have HB0:=HB.out;obtain ⟨q1,q2,c0,c1,c2,c3,c4,c5⟩:=HB0;have HNW:=hid hiw;obtain ⟨seg,ws,ks,vs,cs,laid⟩:=c;obtain ⟨wa,ka,va,ca,wc,kc,vc,cc⟩:=a;dsimp only at *;subst hae hke hve;obtain ⟨n,hnn⟩:∃n,ks.length=n:=⟨_,rfl⟩
    have c3':=c3;rw [hvn,hnn] at c3';have c2':=c2;rw [hnn] at c2';have hin:i<n:=xo;have HI2:=hid hi';have HKM:=hid hkm;have HCS2:=hid hcs;have HRW2:=hid (HRW.out.alloc (.cells #[.int .i64 seg,.slice (some ⟨bw,ow,none⟩) ws.length wc,.slice (some ⟨bk,ok,none⟩) ks.length kc,.slice (some ⟨bv,ov,none⟩) vs.length vc,.slice ca cs.length cc,.int .u64 laid] 69));clear hk hm hcs hkm;gi_wp2
    have HBel:Below wr.heap.size wr (wr.alloc (.cells #[.int .i64 seg,.slice (some ⟨bw,ow,none⟩) ws.length wc,.slice (some ⟨bk,ok,none⟩) n kc,.slice (some ⟨bv,ov,none⟩) n vc,.slice ca cs.length cc,.int .u64 laid] 69)):=br.alloc (Nat.le_refl _) _;have c1q:(wr.alloc (.cells #[.int .i64 seg,.slice (some ⟨bw,ow,none⟩) ws.length wc,.slice (some ⟨bk,ok,none⟩) n kc,.slice (some ⟨bv,ov,none⟩) n vc,.slice ca cs.length cc,.int .u64 laid] 69)).cell? ⟨wr.heap.size,1,none⟩=some (.slice (some ⟨bw,ow,none⟩) ws.length wc):=xcw;generalize (wr.alloc (.cells #[.int .i64 seg,.slice (some ⟨bw,ow,none⟩) ws.length wc,.slice (some ⟨bk,ok,none⟩) n kc,.slice (some ⟨bv,ov,none⟩) n vc,.slice ca cs.length cc,.int .u64 laid] 69))=wq at *;replace c2:=(HBel.cell (World.block_lt_of_cell? _ _ c2')).trans c2';replace c3:=(HBel.cell (World.block_lt_of_cell? _ _ c3')).trans c3';replace ck:=(HBel.cell (World.block_lt_of_cell? _ _ ck)).trans ck;replace cv:=(HBel.cell (World.block_lt_of_cell? _ _ cv)).trans cv;have HBL:=hid HBel;have HIS:=hid (fun w' (hJ:∃q,w'=wq.drewN q)=>HIO.out w' (by obtain ⟨q,rfl⟩:=hJ;exact (HRW.out.below HBL.out).drewN q) wr.heap.size (cell_at_drew hJ c1q));clear HBel c0 c5 c4 c1 q1 q2 c2' c3' hisok cw HRW2;cases bt with
    | true=>
     refine wpIn_region_facts 15 xk (N:=33) rfl xk xk xdd (fun w'=>∃q,w'=wq.drewN q) (Ext 29) (factAt [.is (.int .i64 i),.is (.bool true),.is (.bool true),.is (.func (.yield l) #[] #[]),.is (.pointer (some ⟨b3,2,none⟩)),.is (.slice (some ⟨bk,ok,none⟩) n kc),.is (.int .i64 i),.is (.pointer (some ⟨bk,ok+i,none⟩)),.is (.int .i64 kx),.is (.pointer (some ⟨b3,3,none⟩)),.is (.slice (some ⟨bv,ov,none⟩) n vc),.is (.int .i64 i),.is (.pointer (some ⟨bv,ov+i,none⟩)),.is (.int .i64 vx),.is (.agg #[.int .i64 kx,.int .i64 vx])]) (factAt_stays _) ⟨1,rfl⟩ ?steps ?fin
     case steps=>
      refine ⟨?o0,?o1,?o2,?o3,?o4,?o5,?o6,?o7,?o8,?o9,?o10,?o11,?o12,?o13,?o14,trivial⟩
      case o0=>
       intro u a w' ev hJ hd K hK;rw [if_pos (wanted_free rfl)];have e5:tg a 5= .int .i64 i:=ev 5 xdd;have HK:=hid hK;clear hK ev hd;go_simp;exact HK.out _ _ xzc hJ rfl (Ext.refl _ _)
      case o1=>
       intro u a w' ev hJ hd K hK;rw [if_pos (wanted_free rfl)];have e6:tg a 6= .pointer (some ⟨wr.heap.size,0,none⟩):=ev 6 xdd;have e15:tg a 15= .int .i64 i:=(ev 15 xdd).trans (hd 0 _ xk rfl);have HK:=hid hK;have HI:=hid (HIS.out w' hJ);have HJ:=hid hJ;clear hK ev hd hJ;go_simp;refine ⟨trivial,rfl,(callsIn_wide.2 HI.out).mono ?_⟩;rintro e w'' ⟨rfl,rfl⟩;exact HK.out _ _ xzc HJ.out rfl (Ext.refl _ _)
      case o2=>
       intro u a w' ev hJ hd K hK;rw [if_pos (wanted_free rfl)];have e16:tg a 16= .bool true:=(ev 16 xdd).trans (hd 1 _ xk rfl);have HK:=hid hK;clear hK ev hd;go_simp;exact HK.out _ _ xzc hJ rfl (Ext.refl _ _)
      case o3=>
       intro u a w' ev hJ hd K hK;have eg:a.tmps.getD 17 undef= .bool true:=(ev 17 xdd).trans (hd 2 _ xk rfl);rw [if_pos (wanted_yes (j:=2) (t:=17) (b:=true) rfl xk eg)];have e0:tg a 0= .func (.yield l) #[] #[]:=ev 0 xdd;have HK:=hid hK;clear hK ev hd eg;go_simp;exact HK.out _ _ xzc hJ rfl (Ext.refl _ _)
      case o4=>
       intro u a w' ev hJ hd K hK;have eg:a.tmps.getD 17 undef= .bool true:=(ev 17 xdd).trans (hd 2 _ xk rfl);rw [if_pos (wanted_yes (j:=2) (t:=17) (b:=true) rfl xk eg)];have e3:tg a 3= .pointer (some ⟨b3,0,none⟩):=ev 3 xdd;have HK:=hid hK;clear hK ev hd eg;go_simp;exact HK.out _ _ xzc hJ rfl (Ext.refl _ _)
      case o5=>
       intro u a w' ev hJ hd K hK;have eg:a.tmps.getD 17 undef= .bool true:=(ev 17 xdd).trans (hd 2 _ xk rfl);rw [if_pos (wanted_yes (j:=2) (t:=17) (b:=true) rfl xk eg)];have e19:tg a 19= .pointer (some ⟨b3,2,none⟩):=(ev 19 xdd).trans (hd 4 _ xk rfl);have g0:=(cell_at_drew hJ c2)
       have HK:=hid hK;clear hK ev hd eg;go_simp;exact HK.out _ _ xzc hJ rfl (Ext.refl _ _)
      case o6=>
       intro u a w' ev hJ hd K hK;have eg:a.tmps.getD 17 undef= .bool true:=(ev 17 xdd).trans (hd 2 _ xk rfl);rw [if_pos (wanted_yes (j:=2) (t:=17) (b:=true) rfl xk eg)];have e5:tg a 5= .int .i64 i:=ev 5 xdd;have HK:=hid hK;clear hK ev hd eg;go_simp;exact HK.out _ _ xzc hJ rfl (Ext.refl _ _)
      case o7=>
       intro u a w' ev hJ hd K hK;have eg:a.tmps.getD 17 undef= .bool true:=(ev 17 xdd).trans (hd 2 _ xk rfl);rw [if_pos (wanted_yes (j:=2) (t:=17) (b:=true) rfl xk eg)];have e20:tg a 20= .slice (some ⟨bk,ok,none⟩) n kc:=(ev 20 xdd).trans (hd 5 _ xk rfl);have e21:tg a 21= .int .i64 i:=(ev 21 xdd).trans (hd 6 _ xk rfl);have HK:=hid hK;clear hK ev hd eg;go_simp;exact HK.out _ _ xzc hJ rfl (Ext.refl _ _)
      case o8=>
       intro u a w' ev hJ hd K hK;have eg:a.tmps.getD 17 undef= .bool true:=(ev 17 xdd).trans (hd 2 _ xk rfl);rw [if_pos (wanted_yes (j:=2) (t:=17) (b:=true) rfl xk eg)];have e22:tg a 22= .pointer (some ⟨bk,ok+i,none⟩):=(ev 22 xdd).trans (hd 7 _ xk rfl);have g0:=(cell_at_drew hJ ck)
       have HK:=hid hK;clear hK ev hd eg;go_simp;exact HK.out _ _ xzc hJ rfl (Ext.refl _ _)
      case o9=>
       intro u a w' ev hJ hd K hK;have eg:a.tmps.getD 17 undef= .bool true:=(ev 17 xdd).trans (hd 2 _ xk rfl);rw [if_pos (wanted_yes (j:=2) (t:=17) (b:=true) rfl xk eg)];have e3:tg a 3= .pointer (some ⟨b3,0,none⟩):=ev 3 xdd;have HK:=hid hK;clear hK ev hd eg;go_simp;exact HK.out _ _ xzc hJ rfl (Ext.refl _ _)
      case o10=>
       intro u a w' ev hJ hd K hK;have eg:a.tmps.getD 17 undef= .bool true:=(ev 17 xdd).trans (hd 2 _ xk rfl);rw [if_pos (wanted_yes (j:=2) (t:=17) (b:=true) rfl xk eg)];have e24:tg a 24= .pointer (some ⟨b3,3,none⟩):=(ev 24 xdd).trans (hd 9 _ xk rfl);have g0:=(cell_at_drew hJ c3)
       have HK:=hid hK;clear hK ev hd eg;go_simp;exact HK.out _ _ xzc hJ rfl (Ext.refl _ _)
      case o11=>
       intro u a w' ev hJ hd K hK;have eg:a.tmps.getD 17 undef= .bool true:=(ev 17 xdd).trans (hd 2 _ xk rfl);rw [if_pos (wanted_yes (j:=2) (t:=17) (b:=true) rfl xk eg)];have e5:tg a 5= .int .i64 i:=ev 5 xdd;have HK:=hid hK;clear hK ev hd eg;go_simp;exact HK.out _ _ xzc hJ rfl (Ext.refl _ _)
      case o12=>
       intro u a w' ev hJ hd K hK;have eg:a.tmps.getD 17 undef= .bool true:=(ev 17 xdd).trans (hd 2 _ xk rfl);rw [if_pos (wanted_yes (j:=2) (t:=17) (b:=true) rfl xk eg)];have e25:tg a 25= .slice (some ⟨bv,ov,none⟩) n vc:=(ev 25 xdd).trans (hd 10 _ xk rfl);have e26:tg a 26= .int .i64 i:=(ev 26 xdd).trans (hd 11 _ xk rfl);have HK:=hid hK;clear hK ev hd eg;go_simp;exact HK.out _ _ xzc hJ rfl (Ext.refl _ _)
      case o13=>
       intro u a w' ev hJ hd K hK;have eg:a.tmps.getD 17 undef= .bool true:=(ev 17 xdd).trans (hd 2 _ xk rfl);rw [if_pos (wanted_yes (j:=2) (t:=17) (b:=true) rfl xk eg)];have e27:tg a 27= .pointer (some ⟨bv,ov+i,none⟩):=(ev 27 xdd).trans (hd 12 _ xk rfl);have g0:=(cell_at_drew hJ cv)
       have HK:=hid hK;clear hK ev hd eg;go_simp;exact HK.out _ _ xzc hJ rfl (Ext.refl _ _)
      case o14=>
       intro u a w' ev hJ hd K hK;have eg:a.tmps.getD 17 undef= .bool true:=(ev 17 xdd).trans (hd 2 _ xk rfl);rw [if_pos (wanted_yes (j:=2) (t:=17) (b:=true) rfl xk eg)];have e23:tg a 23= .int .i64 kx:=(ev 23 xdd).trans (hd 8 _ xk rfl);have e28:tg a 28= .int .i64 vx:=(ev 28 xdd).trans (hd 13 _ xk rfl);have f23:a.tmps[23]?.getD undef= .int .i64 kx:=by rw [←Array.getD_eq_getD_getElem?];exact e23
       have f28:a.tmps[28]?.getD undef= .int .i64 vx:=by rw [←Array.getD_eq_getD_getElem?];exact e28
       have HK:=hid hK;clear hK ev hd eg;go_simp;exact HK.out _ _ xzc hJ rfl (Ext.refl _ _)
     case fin=>
      intro u w3 hJ hG;have h17:u 17= .bool true:=hG 2 _ rfl;have h18:u 18= .func (.yield l) #[] #[]:=hG 3 _ rfl;have h29:u 29= .agg #[.int .i64 kx,.int .i64 vx]:=hG 14 _ rfl;have hBq:Below wr.heap.size wr w3:=by obtain ⟨q,rfl⟩:=hJ;exact below_drewN HBL.out q
      have HBQ:=hid hBq;have hkm:=HKM.out rfl;obtain ⟨fn,tmps,assign,body,hy,hR⟩:=HY.out k w3 (by rw [HPL2.out];exact hkm) (HJ.out _ _ _ HJ0.out hBq);rw [hpa rfl] at hy;clear hG c2 c3 ck cv hJ hpa hBq;simp only [mixFrame,mixL,dstsOf,List.take_succ_cons,List.take_zero,List.filterMap_cons,List.filterMap_nil,List.contains_cons,List.contains_nil,Nat.reduceBEq,Bool.or_false,Bool.false_or,Bool.or_true,Bool.true_or,if_true,if_false,Bool.false_eq_true,Nat.reduceAdd,Nat.zero_add,List.drop_succ_cons,List.drop_zero,h17,h18,h29];gi_wp2
      refine ⟨rfl,hR.mono ?_⟩;rintro e W3 (⟨rfl,hJ3,hk3⟩ | ⟨rfl,hJx3⟩)
      · have HB3:=hid ((HB.out.below HBQ.out).kept hk3 s1 s2 s3);have HW3:=hid (hk3.row HS.out.w (HRW.out.below HBQ.out));have HK3:=hid (hk3.row HS.out.k (HRK.out.below HBQ.out));have HV3:=hid (hk3.row HS.out.v (HRV.out.below HBQ.out));have HJ3:=hid hJ3;clear hJ3 hk3 hy hR;gi_wp2
        gi_roundg (gk-1)
        case measure=>have:=HI2.out;omega
        case rel=>
         refine ⟨i+1,by have:=HI2.out;omega,by omega,by go_num,hid ?_,HB3,HW3,HK3,HV3⟩;have e9:=HCS2.out;simp only [if_true] at e9;rw [e9];exact HJ3.out
      · have HJ3:=hid hJx3;clear hJx3 hy hR;gi_wp2
        exact bodyPost_ret (results_none rfl _ _ _) rfl ⟨⟨_,rfl⟩,.inr ⟨k+1,by rw [HPL2.out];omega,HJ3.out⟩⟩
    | false=>
     refine wpIn_region_facts 15 xk (N:=33) rfl xk xk xdd (fun w'=>∃q,w'=wq.drewN q) (Ext 29) (factAt [.is (.int .i64 i),.is (.bool false),.is (.bool false),.is undef,.is undef,.is undef,.is undef,.is undef,.is undef,.is undef,.is undef,.is undef,.is undef,.is undef,.is undef]) (factAt_stays _) ⟨1,rfl⟩ ?steps ?fin
     case steps=>
      refine ⟨?o0,?o1,?o2,?o3,?o4,?o5,?o6,?o7,?o8,?o9,?o10,?o11,?o12,?o13,?o14,trivial⟩
      case o0=>
       intro u a w' ev hJ hd K hK;rw [if_pos (wanted_free rfl)];have e5:tg a 5= .int .i64 i:=ev 5 xdd;have HK:=hid hK;clear hK ev hd;go_simp;exact HK.out _ _ xzc hJ rfl (Ext.refl _ _)
      case o1=>
       intro u a w' ev hJ hd K hK;rw [if_pos (wanted_free rfl)];have e6:tg a 6= .pointer (some ⟨wr.heap.size,0,none⟩):=ev 6 xdd;have e15:tg a 15= .int .i64 i:=(ev 15 xdd).trans (hd 0 _ xk rfl);have HK:=hid hK;have HI:=hid (HIS.out w' hJ);have HJ:=hid hJ;clear hK ev hd hJ;go_simp;refine ⟨trivial,rfl,(callsIn_wide.2 HI.out).mono ?_⟩;rintro e w'' ⟨rfl,rfl⟩;exact HK.out _ _ xzc HJ.out rfl (Ext.refl _ _)
      case o2=>
       intro u a w' ev hJ hd K hK;rw [if_pos (wanted_free rfl)];have e16:tg a 16= .bool false:=(ev 16 xdd).trans (hd 1 _ xk rfl);have HK:=hid hK;clear hK ev hd;go_simp;exact HK.out _ _ xzc hJ rfl (Ext.refl _ _)
      case o3=>
       intro u a w' ev hJ hd K hK;have eg:a.tmps.getD 17 undef= .bool false:=(ev 17 xdd).trans (hd 2 _ xk rfl);rw [if_neg (by rw [wanted_no (j:=2) (t:=17) (b:=true) rfl xk eg];decide)];exact ⟨fun _ _=>trivial,hK _ _ xzc hJ rfl (Ext.refl _ _)⟩
      case o4=>
       intro u a w' ev hJ hd K hK;have eg:a.tmps.getD 17 undef= .bool false:=(ev 17 xdd).trans (hd 2 _ xk rfl);rw [if_neg (by rw [wanted_no (j:=2) (t:=17) (b:=true) rfl xk eg];decide)];exact ⟨fun _ _=>trivial,hK _ _ xzc hJ rfl (Ext.refl _ _)⟩
      case o5=>
       intro u a w' ev hJ hd K hK;have eg:a.tmps.getD 17 undef= .bool false:=(ev 17 xdd).trans (hd 2 _ xk rfl);rw [if_neg (by rw [wanted_no (j:=2) (t:=17) (b:=true) rfl xk eg];decide)];exact ⟨fun _ _=>trivial,hK _ _ xzc hJ rfl (Ext.refl _ _)⟩
      case o6=>
       intro u a w' ev hJ hd K hK;have eg:a.tmps.getD 17 undef= .bool false:=(ev 17 xdd).trans (hd 2 _ xk rfl);rw [if_neg (by rw [wanted_no (j:=2) (t:=17) (b:=true) rfl xk eg];decide)];exact ⟨fun _ _=>trivial,hK _ _ xzc hJ rfl (Ext.refl _ _)⟩
      case o7=>
       intro u a w' ev hJ hd K hK;have eg:a.tmps.getD 17 undef= .bool false:=(ev 17 xdd).trans (hd 2 _ xk rfl);rw [if_neg (by rw [wanted_no (j:=2) (t:=17) (b:=true) rfl xk eg];decide)];exact ⟨fun _ _=>trivial,hK _ _ xzc hJ rfl (Ext.refl _ _)⟩
      case o8=>
       intro u a w' ev hJ hd K hK;have eg:a.tmps.getD 17 undef= .bool false:=(ev 17 xdd).trans (hd 2 _ xk rfl);rw [if_neg (by rw [wanted_no (j:=2) (t:=17) (b:=true) rfl xk eg];decide)];exact ⟨fun _ _=>trivial,hK _ _ xzc hJ rfl (Ext.refl _ _)⟩
      case o9=>
       intro u a w' ev hJ hd K hK;have eg:a.tmps.getD 17 undef= .bool false:=(ev 17 xdd).trans (hd 2 _ xk rfl);rw [if_neg (by rw [wanted_no (j:=2) (t:=17) (b:=true) rfl xk eg];decide)];exact ⟨fun _ _=>trivial,hK _ _ xzc hJ rfl (Ext.refl _ _)⟩
      case o10=>
       intro u a w' ev hJ hd K hK;have eg:a.tmps.getD 17 undef= .bool false:=(ev 17 xdd).trans (hd 2 _ xk rfl);rw [if_neg (by rw [wanted_no (j:=2) (t:=17) (b:=true) rfl xk eg];decide)];exact ⟨fun _ _=>trivial,hK _ _ xzc hJ rfl (Ext.refl _ _)⟩
      case o11=>
       intro u a w' ev hJ hd K hK;have eg:a.tmps.getD 17 undef= .bool false:=(ev 17 xdd).trans (hd 2 _ xk rfl);rw [if_neg (by rw [wanted_no (j:=2) (t:=17) (b:=true) rfl xk eg];decide)];exact ⟨fun _ _=>trivial,hK _ _ xzc hJ rfl (Ext.refl _ _)⟩
      case o12=>
       intro u a w' ev hJ hd K hK;have eg:a.tmps.getD 17 undef= .bool false:=(ev 17 xdd).trans (hd 2 _ xk rfl);rw [if_neg (by rw [wanted_no (j:=2) (t:=17) (b:=true) rfl xk eg];decide)];exact ⟨fun _ _=>trivial,hK _ _ xzc hJ rfl (Ext.refl _ _)⟩
      case o13=>
       intro u a w' ev hJ hd K hK;have eg:a.tmps.getD 17 undef= .bool false:=(ev 17 xdd).trans (hd 2 _ xk rfl);rw [if_neg (by rw [wanted_no (j:=2) (t:=17) (b:=true) rfl xk eg];decide)];exact ⟨fun _ _=>trivial,hK _ _ xzc hJ rfl (Ext.refl _ _)⟩
      case o14=>
       intro u a w' ev hJ hd K hK;have eg:a.tmps.getD 17 undef= .bool false:=(ev 17 xdd).trans (hd 2 _ xk rfl);rw [if_neg (by rw [wanted_no (j:=2) (t:=17) (b:=true) rfl xk eg];decide)];exact ⟨fun _ _=>trivial,hK _ _ xzc hJ rfl (Ext.refl _ _)⟩
     case fin=>
      intro u w3 hJ hG;have h17:u 17= .bool false:=hG 2 _ rfl;have h18:u 18=undef:=hG 3 _ rfl;have h29:u 29=undef:=hG 14 _ rfl;have hBq:Below wr.heap.size wr w3:=by obtain ⟨q,rfl⟩:=hJ;exact below_drewN HBL.out q
      have HBQ:=hid hBq;clear hG c2 c3 ck cv hJ hpa hBq;simp only [mixFrame,mixL,dstsOf,List.take_succ_cons,List.take_zero,List.filterMap_cons,List.filterMap_nil,List.contains_cons,List.contains_nil,Nat.reduceBEq,Bool.or_false,Bool.false_or,Bool.or_true,Bool.true_or,if_true,if_false,Bool.false_eq_true,Nat.reduceAdd,Nat.zero_add,List.drop_succ_cons,List.drop_zero,h17,h18,h29];gi_wp2
      refine ⟨fun _ h=>(by cases h),?_⟩;gi_wp2
      gi_roundg (gk-1)
      case measure=>have:=HI2.out;omega
      case rel=>
       refine ⟨i+1,by have:=HI2.out;omega,by omega,by go_num,hid ?_,hid (HB.out.below HBQ.out),hid (HRW.out.below HBQ.out),hid (HRK.out.below HBQ.out),hid (HRV.out.below HBQ.out)⟩;have e9:=HCS2.out;simp only [Bool.false_eq_true,if_false,Nat.add_zero] at e9;rw [e9];exact HJ.out _ _ _ HJ0.out HBQ.out
  · have hih:hi=i:=xo;subst hih;have q1:=HB.out.hi;have HJ1:=HJ0.out;gi_wp2
    refine bodyPost_end (results_none rfl _ _ _) rfl ⟨⟨_,rfl⟩,.inl ?_⟩;rw [HPL.out];exact HJ0.out
end
end Go.Proofs.YtmnlagmmbfjbeaaDoor

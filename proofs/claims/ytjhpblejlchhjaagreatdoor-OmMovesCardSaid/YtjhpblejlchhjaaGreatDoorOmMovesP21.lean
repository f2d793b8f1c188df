/- Merged: OmLs, OmCk2, OmJn, TabPush, Boxed, TabMkJ, TabReg. -/
import Derived.Test.YtjhpblejlchhjaaGreatDoorOmMovesP20
import Derived.Test.YtjhpblejlchhjaaGreatDoorOmMovesP19
import Derived.Test.YtjhpblejlchhjaaGreatDoorOmMovesP11
import Derived.Test.YtjhpblejlchhjaaGreatDoorOmMovesP12
import Derived.Test.YtjhpblejlchhjaaGreatDoorOmMovesP2
import Derived.Test.YtjhpblejlchhjaaGreatDoorOmMovesP1
import Derived.Test.YtjhpblejlchhjaaGreatDoorOmMovesP10
namespace Go.Proofs.YtjhpblejlchhjaaGreatDoor
set_option maxRecDepth 100000
set_option maxHeartbeats 40000000
set_option linter.unusedVariables false
set_option linter.unusedSimpArgs false
section
open Go.RowKit Go.Shelf
attribute [local go_sem] Oper.semAt_some
theorem omList_err (c:Cfg) (s:SlC) (wa ka va ca:Option Addr) (wc kc vc cc:Nat) (gs ps:List Int) (mv:Int) (ga pa:Option Addr) (gc pc:Nat) (e:Int) (he:e≠0) (w:World) (CK:Hid (∀W,Below w.heap.size w W→Calls Tryz.prog 24 #[.agg #[.int .u8 c.tag,.int .i64 c.most,.int .i64 c.seg,.int .i64 c.least,.int .i64 c.den,.int .i64 c.ll,.int .i64 c.rl,.int .i64 c.rh,.int .i64 c.lh,.int .i64 s.seg,.slice wa s.ws.length wc,.slice ka s.ks.length kc,.slice va s.vs.length vc,.slice ca s.cs.length cc,.int .u64 s.laid,.slice ga gs.length gc,.slice pa ps.length pc,.int .u64 mv]] W (AnsB W (.int .i64 e)))):
    Calls Tryz.prog 21 #[.agg #[.int .u8 c.tag,.int .i64 c.most,.int .i64 c.seg,.int .i64 c.least,.int .i64 c.den,.int .i64 c.ll,.int .i64 c.rl,.int .i64 c.rh,.int .i64 c.lh,.int .i64 s.seg,.slice wa s.ws.length wc,.slice ka s.ks.length kc,.slice va s.vs.length vc,.slice ca s.cs.length cc,.int .u64 s.laid,.slice ga gs.length gc,.slice pa ps.length pc,.int .u64 mv]] w (FreshHd2 w [] (.int .i64 e)):=by
 have g1:(e != 0)=true:=by simpa using he
 go_enter Tryz.func21,Tryz.ntmps21
 go_upto_region 1 with (fail)
 generalize hw0:(w.alloc _)=w0;have hh:=ec18 hw0 (al18 (b:=w.heap.size) xsi);obtain ⟨c_t0,c_t1,c_t2,c_t3,c_t4,c_t5,c_t6,c_t7,c_t8,c_t9,c_t10,c_t11,c_t12,c_t13,c_t14,c_t15,c_t16,c_t17⟩:=hh;have z_t:=elt hw0 (alz (b:=w.heap.size) xsi);have HB0:Hid (Below w.heap.size w w0):=by rw [←hw0];exact hid (br.alloc (by first|exact Nat.le_refl _|(simp;done)|(simp;omega)) _)
 clear hw0;go_wp2_with (refine wpl_load 33 (.tmp 1) _ _ rfl rfl rfl Tryz.underlying33 rfl xk (list18 ⟨c_t0,c_t1,c_t2,c_t3,c_t4,c_t5,c_t6,c_t7,c_t8,c_t9,c_t10,c_t11,c_t12,c_t13,c_t14,c_t15,c_t16,c_t17⟩) ?_)
 go_wp2_with fail
 refine (CK.out _ HB0.out).mono ?_;rintro e w1 ⟨rfl,hb1⟩;have hz_w1:=hb1.size;simp (disch:=omega) only [xcl hb1] at *;replace z_t:=blt hb1 z_t;have HB1:=xv hb1 HB0;clear hb1;go_wp2
 go_ret2
 exact ⟨_,rfl,World.ownsRow_nil _ _ _ _,HB1.out⟩
def FactR.hd1 (base:Nat) (x:Nat) (g:Int):FactR RB:=
  ⟨fun v w=>∃b,v= .slice (some ⟨b,0,none⟩) 1 1∧w.ownsRow base 35 2 (.slice (some ⟨b,0,none⟩) 1 1) 1 [.int .i64 (x:Int),.int .i64 g],fun _ _ _ h ⟨b,e,h1⟩=>⟨b,e,owns_below h1 h⟩⟩
theorem omList_in (c:Cfg) (s:SlC) (wa ka va ca:Option Addr) (wc kc vc cc:Nat) (gs ps:List Int) (mv:Int) (ga pa:Option Addr) (gc pc:Nat) (L H:List (Int×Int)) (m:Nat) (hm:L.length=m) (hH:H.length=m) (hm2:m≤65536) (hg:∀i,i<m→0≤(L.getD i (0,0)).1∧(L.getD i (0,0)).1<gs.length∧H.getD i (0,0)=((L.getD i (0,0)).1,gs.getD (L.getD i (0,0)).1.toNat 0)) (w:World) (hgs:IsRow .i64 w ga gs)
    (CK:Hid (∀W,Below w.heap.size w W→Calls Tryz.prog 24 #[.agg #[.int .u8 c.tag,.int .i64 c.most,.int .i64 c.seg,.int .i64 c.least,.int .i64 c.den,.int .i64 c.ll,.int .i64 c.rl,.int .i64 c.rh,.int .i64 c.lh,.int .i64 s.seg,.slice wa s.ws.length wc,.slice ka s.ks.length kc,.slice va s.vs.length vc,.slice ca s.cs.length cc,.int .u64 s.laid,.slice ga gs.length gc,.slice pa ps.length pc,.int .u64 mv]] W (AnsB W (.int .i64 0)))) (PR:Hid (∀W,Below w.heap.size w W→Calls Tryz.prog 49 #[.agg #[.int .i64 s.seg,.slice wa s.ws.length wc,.slice ka s.ks.length kc,.slice va s.vs.length vc,.slice ca s.cs.length cc,.int .u64 s.laid],.int .i64 0,.int .i64 s.ks.length] W (FreshPr2 W L (.int .i64 0)))):
    Calls Tryz.prog 21 #[.agg #[.int .u8 c.tag,.int .i64 c.most,.int .i64 c.seg,.int .i64 c.least,.int .i64 c.den,.int .i64 c.ll,.int .i64 c.rl,.int .i64 c.rh,.int .i64 c.lh,.int .i64 s.seg,.slice wa s.ws.length wc,.slice ka s.ks.length kc,.slice va s.vs.length vc,.slice ca s.cs.length cc,.int .u64 s.laid,.slice ga gs.length gc,.slice pa ps.length pc,.int .u64 mv]] w (FreshHd2 w H (.int .i64 0)):=by
 have HGG:=hid hg;have HGS:=hid hgs;have HM:=hid hm;have HHL:=hid hH;have HTK:=hid (fun k (h:k<m) x y hx=>take_hd (l:=H) (k:=k) (by rw [hH];exact h) (x:=x) (y:=y) hx);clear hg hgs hm hH;go_enter Tryz.func21,Tryz.ntmps21
 go_upto_region 1 with (fail)
 generalize hw0:(w.alloc _)=w0;have hh:=ec18 hw0 (al18 (b:=w.heap.size) xsi);obtain ⟨c_t0,c_t1,c_t2,c_t3,c_t4,c_t5,c_t6,c_t7,c_t8,c_t9,c_t10,c_t11,c_t12,c_t13,c_t14,c_t15,c_t16,c_t17⟩:=hh;have z_t:=elt hw0 (alz (b:=w.heap.size) xsi);have HB0:Hid (Below w.heap.size w w0):=by rw [←hw0];exact hid (br.alloc (by first|exact Nat.le_refl _|(simp;done)|(simp;omega)) _)
 clear hw0;go_wp2_with (refine wpl_load 33 (.tmp 1) _ _ rfl rfl rfl Tryz.underlying33 rfl xk (list18 ⟨c_t0,c_t1,c_t2,c_t3,c_t4,c_t5,c_t6,c_t7,c_t8,c_t9,c_t10,c_t11,c_t12,c_t13,c_t14,c_t15,c_t16,c_t17⟩) ?_)
 go_wp2_with fail
 refine (CK.out _ HB0.out).mono ?_;rintro e w1 ⟨rfl,hb1⟩;have hz_w1:=hb1.size;simp (disch:=omega) only [xcl hb1] at c_t0 c_t1 c_t2 c_t3 c_t4 c_t5 c_t6 c_t7 c_t8 c_t9 c_t10 c_t11 c_t12 c_t13 c_t14 c_t15 c_t16 c_t17;replace z_t:=blt hb1 z_t;have HB1:=xv hb1 HB0;clear hb1;go_wp2_with fail
 refine (PR.out _ HB1.out).mono ?_;rintro e w2 ⟨v,rfl,ho,hb2⟩;have hz_w2:=hb2.size;simp (disch:=omega) only [xcl hb2] at c_t0 c_t1 c_t2 c_t3 c_t4 c_t5 c_t6 c_t7 c_t8 c_t9 c_t10 c_t11 c_t12 c_t13 c_t14 c_t15 c_t16 c_t17;replace z_t:=blt hb2 z_t;have HB2:=xv hb2 HB1;have hz2:=HB2.out.size;obtain ⟨la,lc,rfl,hi1,-,-,-,-⟩:=row_of_owns ho;rw [HM.out];have HI:=hid hi1;clear hb2 ho hi1;go_wp2
 go_loopg [2,25] m (fun gk hv iv wr=>∃i:Nat,i+gk=m∧iv= .int .i64 i∧Hid (wr.ownsRow w2.heap.size 35 2 hv i ((prI (H.take i)).map (Value.int .i64)))∧Hid (Below w2.heap.size w2 wr))
 case atStart=>exact ⟨0,by omega,rfl,hid (World.ownsRow_nil _ _ _ _),hid br⟩
 case round=>
  obtain ⟨i,hi,rfl,HO,HB⟩:=hrel;obtain ⟨ao,co,rfl,-⟩:=owns_news HO.out;have hbr:=HB.out;have hz_wr:=hbr.size;simp (disch:=omega) only [xcl hbr] at c_t0 c_t1 c_t2 c_t3 c_t4 c_t5 c_t6 c_t7 c_t8 c_t9 c_t10 c_t11 c_t12 c_t13 c_t14 c_t15 c_t16 c_t17;replace z_t:=blt hbr z_t;have HB3:=hid (below_via hbr HB2.out hz2);by_cases hlt:i<m
  · obtain ⟨b1,o1,rfl,c0,c1,z1⟩:=pr_get (HI.out.below hbr) (by rw [HM.out];exact hlt);obtain ⟨hx0,hxg,hhg⟩:=HGG.out i hlt;generalize (L.getD i (0,0)).2=yv at *;generalize hxe:(L.getD i (0,0)).1=xv at *;clear hxe;obtain ⟨xn,rfl⟩:∃xn:Nat,xv=xn:=⟨xv.toNat,by omega⟩
    rw [Int.toNat_natCast] at hhg;have hxn:xn<gs.length:=xo;obtain ⟨gb,go,g,rfl,hgx,hcg0,-⟩:=(HGS.out.below HB3.out).get (i:=xn) hxn;rw [hgx.out] at hhg;have HT:=hid (HTK.out i hlt _ _ hhg);have hlt1:(prI (H.take i)).length=i*2:=by rw [prI_length,List.length_take,HHL.out];omega
    clear hbr hgx hhg;go_upto_region 8 with (fail)
    generalize hwz:wr.alloc _=wz;have hh:=ec18 hwz (au18 (⟨c_t0,c_t1,c_t2,c_t3,c_t4,c_t5,c_t6,c_t7,c_t8,c_t9,c_t10,c_t11,c_t12,c_t13,c_t14,c_t15,c_t16,c_t17⟩));clear c_t0 c_t1 c_t2 c_t3 c_t4 c_t5 c_t6 c_t7 c_t8 c_t9 c_t10 c_t11 c_t12 c_t13 c_t14 c_t15 c_t16 c_t17;obtain ⟨c_t0,c_t1,c_t2,c_t3,c_t4,c_t5,c_t6,c_t7,c_t8,c_t9,c_t10,c_t11,c_t12,c_t13,c_t14,c_t15,c_t16,c_t17⟩:=hh;replace z_t:=elt hwz (auz (z_t));have hh:=ec2 hwz (al2 (b:=wr.heap.size) xsi);obtain ⟨c_p0,c_p1⟩:=hh;have z_p:=elt hwz (alz (b:=wr.heap.size) xsi);have hbz:Below wr.heap.size wr wz:=by rw [←hwz];exact br.alloc (Nat.le_refl _) _
    have hcg:=(hbz.cell (World.block_lt_of_cell? _ _ hcg0)).trans hcg0;have HOz:=hid (owns_below HO.out hbz);have HBz:=xv hbz HB;have hzz:=HBz.out.size;clear hwz hbz hcg0 c0 c1;generalize wr.heap.size=bP at *;refine wp_region_late 12 xk (N:=45) rfl xk xk xdd (fun w'=>Below wz.heap.size wz w') RB (factRAt [.is (.slice ao i co),.is (.pointer (some ⟨bP,0,none⟩)),.is (.int .i64 xn),.is (.pointer (some ⟨w.heap.size,15,none⟩)),.is (.pointer (some ⟨w.heap.size,15,none⟩)),.is (.slice (some ⟨gb,go,none⟩) gs.length gc),.is (.pointer (some ⟨bP,0,none⟩)),.is (.int .i64 xn),.is (.pointer (some ⟨gb,go+xn,none⟩)),.is (.int .i64 g),.is (.agg #[.int .i64 xn,.int .i64 g]),.hd1 wz.heap.size xn g]) (factRAt_stays _) br.drew ?steps ?fin
    case steps=>
     refine ⟨?o0,?o1,?o2,?o3,?o4,?o5,?o6,?o7,?o8,?o9,?o10,?o11,trivial⟩
     case o0=>
      intro u a w' ev hJ hd K hK;have e2:tg a 2= .slice ao i co:=ev 2 xdd;have HK:=hid hK;clear hK ev hd;go_simp;exact HK.out _ _ xzc hJ rfl br
     case o1=>
      intro u a w' ev hJ hd K hK;have e7:tg a 7= .pointer (some ⟨bP,0,none⟩):=ev 7 xdd;have HK:=hid hK;clear hK ev hd;go_simp;exact HK.out _ _ xzc hJ rfl br
     case o2=>
      intro u a w' ev hJ hd K hK;have e30:tg a 30= .pointer (some ⟨bP,0,none⟩):=(ev 30 xdd).trans (hd 1 _ xk rfl);have g0:=(hJ.cell (p:=⟨bP,0,none⟩) (World.block_lt_of_cell? _ _ c_p0)).trans c_p0;have HK:=hid hK;clear hK ev hd;go_simp;exact HK.out _ _ xzc hJ rfl br
     case o3=>
      intro u a w' ev hJ hd K hK;have e1:tg a 1= .pointer (some ⟨w.heap.size,0,none⟩):=ev 1 xdd;have HK:=hid hK;clear hK ev hd;go_simp;exact HK.out _ _ xzc hJ rfl br
     case o4=>
      intro u a w' ev hJ hd K hK;have e32:tg a 32= .pointer (some ⟨w.heap.size,15,none⟩):=(ev 32 xdd).trans (hd 3 _ xk rfl);have HK:=hid hK;clear hK ev hd;go_simp;exact HK.out _ _ xzc hJ rfl br
     case o5=>
      intro u a w' ev hJ hd K hK;have e33:tg a 33= .pointer (some ⟨w.heap.size,15,none⟩):=(ev 33 xdd).trans (hd 4 _ xk rfl);have g0:=(hJ.cell (p:=⟨w.heap.size,15,none⟩) (World.block_lt_of_cell? _ _ c_t15)).trans c_t15;have HK:=hid hK;clear hK ev hd;go_simp;exact HK.out _ _ xzc hJ rfl br
     case o6=>
      intro u a w' ev hJ hd K hK;have e7:tg a 7= .pointer (some ⟨bP,0,none⟩):=ev 7 xdd;have HK:=hid hK;clear hK ev hd;go_simp;exact HK.out _ _ xzc hJ rfl br
     case o7=>
      intro u a w' ev hJ hd K hK;have e35:tg a 35= .pointer (some ⟨bP,0,none⟩):=(ev 35 xdd).trans (hd 6 _ xk rfl);have g0:=(hJ.cell (p:=⟨bP,0,none⟩) (World.block_lt_of_cell? _ _ c_p0)).trans c_p0;have HK:=hid hK;clear hK ev hd;go_simp;exact HK.out _ _ xzc hJ rfl br
     case o8=>
      intro u a w' ev hJ hd K hK;have e34:tg a 34= .slice (some ⟨gb,go,none⟩) gs.length gc:=(ev 34 xdd).trans (hd 5 _ xk rfl);have e36:tg a 36= .int .i64 xn:=(ev 36 xdd).trans (hd 7 _ xk rfl);have HK:=hid hK;clear hK ev hd;go_simp;exact HK.out _ _ xzc hJ rfl br
     case o9=>
      intro u a w' ev hJ hd K hK;have e37:tg a 37= .pointer (some ⟨gb,go+xn,none⟩):=(ev 37 xdd).trans (hd 8 _ xk rfl);have g0:=(hJ.cell (p:=⟨gb,go+xn,none⟩) (World.block_lt_of_cell? _ _ hcg)).trans hcg;have HK:=hid hK;clear hK ev hd;go_simp;exact HK.out _ _ xzc hJ rfl br
     case o10=>
      intro u a w' ev hJ hd K hK;have e31:tg a 31= .int .i64 xn:=(ev 31 xdd).trans (hd 2 _ xk rfl);have e38:tg a 38= .int .i64 g:=(ev 38 xdd).trans (hd 9 _ xk rfl);have e31b:=(Array.getD_eq_getD_getElem? ..).symm.trans e31;have e38b:=(Array.getD_eq_getD_getElem? ..).symm.trans e38;have HK:=hid hK;clear hK ev hd;go_simp;exact HK.out _ _ xzc hJ rfl br
     case o11=>
      intro u a w' ev hJ hd K hK;have e39:tg a 39= .agg #[.int .i64 xn,.int .i64 g]:=(ev 39 xdd).trans (hd 10 _ xk rfl);have e39b:=(Array.getD_eq_getD_getElem? ..).symm.trans e39;have HK:=hid hK;have hzJ:=hJ.size;clear hK ev hd;go_simp;exact HK.out _ _ xzc (hJ.alloc hzJ _) ⟨_,rfl,World.ownsRow_lit w' #[.int .i64 xn,.int .i64 g] 1 hzJ xdd rfl⟩ (br.alloc (Nat.le_refl _) _)
    case fin=>
     intro u wq hJ hG;have h29:u 29= .slice ao i co:=hG 0 _ rfl;obtain ⟨bn,h40,hon⟩:(FactR.hd1 wz.heap.size xn g).holds (u 40) wq:=hG 11 _ rfl;have hz_wq:=hJ.size;simp (disch:=omega) only [xcl hJ] at c_t0 c_t1 c_t2 c_t3 c_t4 c_t5 c_t6 c_t7 c_t8 c_t9 c_t10 c_t11 c_t12 c_t13 c_t14 c_t15 c_t16 c_t17 c_p0 c_p1;replace z_t:=blt hJ z_t;replace z_p:=blt hJ z_p;have HOq:=hid (owns_below HOz.out hJ);have HBq:=hid (below_via hJ HBz.out hzz);have hzq:=HBq.out.size;have HN:=hid (fun ad (had:some (⟨bn,0,none⟩:Addr)=some ad) j u (hj: [Value.int .i64 (xn:Int),.int .i64 g][j]? =some u)=>(by cases had;exact hon.cells rfl j u hj:wq.cell? (ad.add j)=some u));clear hG hJ hon;simp only [mixFrame,mixL,dstsOf,List.take_succ_cons,List.take_zero,List.filterMap_cons,List.filterMap_nil,List.contains_cons,List.contains_nil,Nat.reduceBEq,Bool.or_false,Bool.false_or,Bool.or_true,Bool.true_or,if_true,if_false,Bool.false_eq_true,Nat.reduceAdd,Nat.zero_add,List.drop_succ_cons,List.drop_zero,h29,h40]
     go_wp2_with (at_builtin;refine wpl_append (.tmp 29) (.tmp 40) 53 35 (.agg #[.int .i64 0,.int .i64 0]) 2 16 Tryz.underlying53 info_Hd rfl xdd xdd w2.heap.size _ i _ (some ⟨bn,0,none⟩) 1 1 [.int .i64 xn,.int .i64 g] HOq.out rfl xzc HN.out (by simp [Value.oneCell']) xo hzq rfl rfl rfl rfl ?_;intro v2 w3 ho2 hg2 _
                  obtain ⟨a2,c2,rfl,-⟩:=owns_news ho2;have HO2:=hid ho2;have HG2:=hid hg2;clear ho2 hg2)
     have HB4:=hid (HBq.out.grown HG2.out hzq (fun z hz=>(HOq.out.lt z hz).1));go_roundg (gk-1)
     case measure=>omega
     case rel=>
      refine ⟨i+1,by omega,by go_num,hid ?_,HB4⟩;rw [HT.out,prI_append,List.map_append];exact HO2.out
  · have him:i=m:=xo;subst him;clear hbr;go_wp2
    go_ret2
    refine ⟨_,rfl,?_,HB3.out⟩;have e:=HO.out;rw [List.take_of_length_le (by rw [HHL.out];exact Nat.le_refl _)] at e;rw [HHL.out];exact owns_base e hz2
end
section
open Go.RowKit Go.Shelf Go.Sort
theorem omCheck_gap (c:Cfg) (s:SlC) (wa ka va ca:Option Addr) (wc kc vc cc:Nat) (gs ps:List Int) (mv:Int) (ga pa:Option Addr) (gc pc:Nat) (g:Int) (hg:g≠0) (w:World) (GK:Hid (∀W,Below w.heap.size w W→Calls Tryz.prog 51 #[.agg #[.int .u8 c.tag,.int .i64 c.most,.int .i64 c.seg,.int .i64 c.least,.int .i64 c.den,.int .i64 c.ll,.int .i64 c.rl,.int .i64 c.rh,.int .i64 c.lh],.agg #[.int .i64 s.seg,.slice wa s.ws.length wc,.slice ka s.ks.length kc,.slice va s.vs.length vc,.slice ca s.cs.length cc,.int .u64 s.laid]] W (AnsB W (.int .i64 g)))):
    Calls Tryz.prog 24 #[.agg #[.int .u8 c.tag,.int .i64 c.most,.int .i64 c.seg,.int .i64 c.least,.int .i64 c.den,.int .i64 c.ll,.int .i64 c.rl,.int .i64 c.rh,.int .i64 c.lh,.int .i64 s.seg,.slice wa s.ws.length wc,.slice ka s.ks.length kc,.slice va s.vs.length vc,.slice ca s.cs.length cc,.int .u64 s.laid,.slice ga gs.length gc,.slice pa ps.length pc,.int .u64 mv]] w (AnsB w (.int .i64 g)):=by
 have g1:(g != 0)=true:=by simpa using hg
 go_enter Tryz.func24,Tryz.ntmps24
 go_wp2_with fail
 refine (GK.out _ xbel).mono ?_;rintro e w1 ⟨rfl,hb1⟩;have hz_w1:=hb1.size;try simp only [World.size_alloc,World.size_setCell] at hz_w1
 have hh:=bc18 hb1 (al18 (b:=w.heap.size) xsi);obtain ⟨c_t0,c_t1,c_t2,c_t3,c_t4,c_t5,c_t6,c_t7,c_t8,c_t9,c_t10,c_t11,c_t12,c_t13,c_t14,c_t15,c_t16,c_t17⟩:=hh;have z_t:=blt hb1 (alz (b:=w.heap.size) xsi);have hB1:Below w.heap.size w w1:=xbel;go_wp2
 go_ret
 exact ⟨rfl,hB1⟩
theorem omCheck_tab (c:Cfg) (s:SlC) (wa ka va ca:Option Addr) (wc kc vc cc:Nat) (gs ps:List Int) (mv:Int) (ga pa:Option Addr) (gc pc:Nat) (n e:Int) (he:e≠0) (w:World) (GK:Hid (∀W,Below w.heap.size w W→Calls Tryz.prog 51 #[.agg #[.int .u8 c.tag,.int .i64 c.most,.int .i64 c.seg,.int .i64 c.least,.int .i64 c.den,.int .i64 c.ll,.int .i64 c.rl,.int .i64 c.rh,.int .i64 c.lh],.agg #[.int .i64 s.seg,.slice wa s.ws.length wc,.slice ka s.ks.length kc,.slice va s.vs.length vc,.slice ca s.cs.length cc,.int .u64 s.laid]] W (AnsB W (.int .i64 0)))) (LV:Hid (∀W,Below w.heap.size w W→Calls Tryz.prog 52 #[.agg #[.slice ga gs.length gc,.slice pa ps.length pc]] W (AnsB W (.tuple #[.int .i64 n,.int .i64 e])))):
    Calls Tryz.prog 24 #[.agg #[.int .u8 c.tag,.int .i64 c.most,.int .i64 c.seg,.int .i64 c.least,.int .i64 c.den,.int .i64 c.ll,.int .i64 c.rl,.int .i64 c.rh,.int .i64 c.lh,.int .i64 s.seg,.slice wa s.ws.length wc,.slice ka s.ks.length kc,.slice va s.vs.length vc,.slice ca s.cs.length cc,.int .u64 s.laid,.slice ga gs.length gc,.slice pa ps.length pc,.int .u64 mv]] w (AnsB w (.int .i64 8)):=by
 have g1:(e != 0)=true:=by simpa using he
 go_enter Tryz.func24,Tryz.ntmps24
 go_wp2_with fail
 refine (GK.out _ xbel).mono ?_;rintro e w1 ⟨rfl,hb1⟩;have hz_w1:=hb1.size;try simp only [World.size_alloc,World.size_setCell] at hz_w1
 have hh:=bc18 hb1 (al18 (b:=w.heap.size) xsi);obtain ⟨c_t0,c_t1,c_t2,c_t3,c_t4,c_t5,c_t6,c_t7,c_t8,c_t9,c_t10,c_t11,c_t12,c_t13,c_t14,c_t15,c_t16,c_t17⟩:=hh;have z_t:=blt hb1 (alz (b:=w.heap.size) xsi);have hB1:Below w.heap.size w w1:=xbel;have HB1:=hid hB1;clear hb1 hB1;go_wp2_with fail
 refine (LV.out _ HB1.out).mono ?_;rintro e w2 ⟨rfl,hb2⟩;have hz_w2:=hb2.size;simp (disch:=omega) only [xcl hb2] at *;replace z_t:=blt hb2 z_t;have HB2:=xv hb2 HB1;go_wp2
 go_ret
 exact ⟨rfl,HB2.out⟩
theorem lnk_bad {s:SlC} {gs ps:List Int} (h:lnkTo s ps s.ks.length=false):lnk s gs ps=false:=by rw [lnk,h,Bool.and_false]
theorem omCheck_in (c:Cfg) (s:SlC) (wa ka va ca:Option Addr) (wc kc vc cc:Nat) (gs ps:List Int) (mv:Int) (ga pa:Option Addr) (gc pc:Nat) (n:Nat) (e:Int) (hn:s.ks.length=n) (hn2:n≤65536) (hg:gs.length≤65536) (he:e=if lnk s gs ps=true then 0 else 8) (w:World) (hp:IsRow .i64 w pa ps) (hpl:ps.length≤65536)
    (GK:Hid (∀W,Below w.heap.size w W→Calls Tryz.prog 51 #[.agg #[.int .u8 c.tag,.int .i64 c.most,.int .i64 c.seg,.int .i64 c.least,.int .i64 c.den,.int .i64 c.ll,.int .i64 c.rl,.int .i64 c.rh,.int .i64 c.lh],.agg #[.int .i64 s.seg,.slice wa s.ws.length wc,.slice ka s.ks.length kc,.slice va s.vs.length vc,.slice ca s.cs.length cc,.int .u64 s.laid]] W (AnsB W (.int .i64 0)))) (LV:Hid (∀W,Below w.heap.size w W→Calls Tryz.prog 52 #[.agg #[.slice ga gs.length gc,.slice pa ps.length pc]] W (AnsB W (.tuple #[.int .i64 (cntTo ps gs.length),.int .i64 0]))))
    (PR:Hid (∀i:Nat,i<n→∀W,Below w.heap.size w W→Calls Tryz.prog 53 #[.agg #[.int .i64 s.seg,.slice wa s.ws.length wc,.slice ka s.ks.length kc,.slice va s.vs.length vc,.slice ca s.cs.length cc,.int .u64 s.laid],.int .i64 i] W (AnsB W (.tuple #[.agg #[.int .i64 (if bitW s.ws i=true then s.ks.getD i 0 else 0),.int .i64 (if bitW s.ws i=true then s.vs.getD i 0 else 0)],.int .i64 (if bitW s.ws i=true then 0 else 6)])))):
    Calls Tryz.prog 24 #[.agg #[.int .u8 c.tag,.int .i64 c.most,.int .i64 c.seg,.int .i64 c.least,.int .i64 c.den,.int .i64 c.ll,.int .i64 c.rl,.int .i64 c.rh,.int .i64 c.lh,.int .i64 s.seg,.slice wa s.ws.length wc,.slice ka s.ks.length kc,.slice va s.vs.length vc,.slice ca s.cs.length cc,.int .u64 s.laid,.slice ga gs.length gc,.slice pa ps.length pc,.int .u64 mv]] w (AnsB w (.int .i64 e)):=by
 have HBAD:=hid (fun (h:lnkTo s ps n=false)=>(show e=8 by rw [he,lnk_bad (hn ▸ h)];rfl));have HGOOD:=hid (fun (h:lnkTo s ps n=true)=>(show e=if cntTo ps gs.length=cntW s.ws 0 n then 0 else 8 by rw [he,lnk,hn,h,Bool.and_true];simp only [decide_eq_true_eq]));have HC:=hid (cntTo_le ps gs.length);have HW:=hid (fun k=>cntW_le s.ws 0 k);have HPS:=hid hp;have HT0:=hid (lnkTo_zero s ps);have HTS:=hid (lnkTo_succ s ps);have HTF:=hid (fun k (hk:k<n) hb h=>lnkTo_false (s:=s) (ps:=ps) (k:=k) (n:=n) hk hb h);have HCS:=hid (fun k=>cntW_succ (ws:=s.ws) (a:=0) (b:=k) (Nat.zero_le _));have HC0:=hid (show cntW s.ws 0 0=0 by simp [cntW]);have HN:=hid hn;clear he hp hn;go_enter Tryz.func24,Tryz.ntmps24
 go_wp2_with fail
 refine (GK.out _ xbel).mono ?_;rintro e w1 ⟨rfl,hb1⟩;have hz_w1:=hb1.size;try simp only [World.size_alloc,World.size_setCell] at hz_w1
 have hh:=bc18 hb1 (al18 (b:=w.heap.size) xsi);obtain ⟨c_t0,c_t1,c_t2,c_t3,c_t4,c_t5,c_t6,c_t7,c_t8,c_t9,c_t10,c_t11,c_t12,c_t13,c_t14,c_t15,c_t16,c_t17⟩:=hh;have z_t:=blt hb1 (alz (b:=w.heap.size) xsi);have hB1:Below w.heap.size w w1:=xbel;have HB1:=hid hB1;clear hb1 hB1;go_wp2_with fail
 refine (LV.out _ HB1.out).mono ?_;rintro e w2 ⟨rfl,hb2⟩;have hz_w2:=hb2.size;simp (disch:=omega) only [xcl hb2] at c_t0 c_t1 c_t2 c_t3 c_t4 c_t5 c_t6 c_t7 c_t8 c_t9 c_t10 c_t11 c_t12 c_t13 c_t14 c_t15 c_t16 c_t17;replace z_t:=blt hb2 z_t;have HB2:=xv hb2 HB1;have hz2:=HB2.out.size;clear hb2;obtain ⟨lv,hlv⟩:∃lv,cntTo ps gs.length=lv:=⟨_,rfl⟩
 rw [hlv] at HC HGOOD ⊢;have hlb:lv≤65536:=by have:=HC.out;omega
 go_wp2
 go_loopg [4,29] n (fun gk mv2 iv wr=>∃i:Nat,i+gk=n∧iv= .int .i64 i∧mv2= .int .i64 ((lv:Int)-(cntW s.ws 0 i:Nat))∧Hid (lnkTo s ps i=true)∧Hid (Below w2.heap.size w2 wr))
 case atStart=>exact ⟨0,by omega,rfl,by rw [HC0.out];simp,HT0,hid br⟩
 case round=>
  obtain ⟨i,hi,rfl,rfl,HT,HB⟩:=hrel;have hbr:=HB.out;have hz_wr:=hbr.size;simp (disch:=omega) only [xcl hbr] at c_t0 c_t1 c_t2 c_t3 c_t4 c_t5 c_t6 c_t7 c_t8 c_t9 c_t10 c_t11 c_t12 c_t13 c_t14 c_t15 c_t16 c_t17;replace z_t:=blt hbr z_t;have HB3:=hid (below_via hbr HB2.out hz2);have hci:=HW.out i;by_cases hlt:i<n
  · have PR2 :=hid (PR.out i hlt);have hcs:=HCS.out i;have hts:=HTS.out i;have hfl:=HTF.out i hlt;have hlk:i<s.ks.length:=by rw [HN.out];exact hlt
    cases hb:bitW s.ws i with
    | false=>
     rw [hb] at PR2 hcs hts;simp only [Bool.false_eq_true,if_false,Bool.not_false,Bool.true_or,Bool.and_true,Nat.add_zero] at PR2 hcs hts;generalize cntW s.ws 0 i=ci at *;have HTS2:=hid hts;have HCS2:=hid hcs;clear hts hcs hfl hbr hb;go_wp2_with fail
     refine (PR2.out _ HB3.out).mono ?_;rintro e w4 ⟨rfl,hb4⟩;have hz_w4:=hb4.size;simp (disch:=omega) only [xcl hb4] at c_t0 c_t1 c_t2 c_t3 c_t4 c_t5 c_t6 c_t7 c_t8 c_t9 c_t10 c_t11 c_t12 c_t13 c_t14 c_t15 c_t16 c_t17;replace z_t:=blt hb4 z_t;have HB4:=xv hb4 HB;clear hb4;go_wp2
     go_roundg (gk-1)
     case measure=>omega
     case rel=>exact ⟨i+1,by omega,by go_num,by rw [HCS2.out],hid (by rw [HTS2.out];exact HT.out),hid (HB4.out.alloc HB4.out.size _)⟩
    | true =>
     rw [hb] at PR2 hcs hts;simp only [if_true,Bool.not_true,Bool.false_or] at PR2 hcs hts;have hfl2:=hfl hb;obtain ⟨x,hx⟩:∃x,s.ks.getD i 0=x:=⟨_,rfl⟩
     obtain ⟨y,hy⟩:∃y,s.vs.getD i 0=y:=⟨_,rfl⟩
     rw [hx,hy] at PR2;have hat:lnkAt s ps i=(decide (y=0)&&(decide (0≤x)&&(decide (x<ps.length)&&decide (ps.getD x.toNat 0=(i:Int))))):=by rw [lnkAt,hx,hy]
     generalize cntW s.ws 0 i=ci at *;have hsb:IntKind.i64.wrap ((lv:Int)-(ci:Nat)-1)=(lv:Int)-((ci+1:Nat):Int):=by rw [show (lv:Int)-(ci:Nat)-1=(lv:Int)-((ci+1:Nat):Int) by omega];exact IntWalk.i64_in _ xo
     have HTS2:=hid hts;have HCS2:=hid hcs;have HAT:=hid hat;have HFL:=hid (fun (h:lnkAt s ps i=false)=>HBAD.out (hfl2 h));clear hts hcs hfl hfl2 hbr hb hx hy hat;by_cases h1:y=0
     · subst h1;have e1:((0:Int) != 0)=false:=rfl;by_cases h2:0≤x
       · have e2:decide (x<0)=false:=by simp;omega
         by_cases h3:x<ps.length
         · have e3:decide ((ps.length:Int)≤x)=false:=by simp;omega
           obtain ⟨xn,rfl⟩:∃xn:Nat,x=xn:=⟨x.toNat,by omega⟩
           rw [Int.toNat_natCast] at HAT;have e3n:decide (ps.length≤xn)=false:=by simp;omega
           obtain ⟨pb,po,z,rfl,hz,hcz,-⟩:=(HPS.out.below HB3.out).get (i:=xn) xo;rw [hz.out] at HAT;by_cases h4:z=(i:Int)
           · have e4:(z != (i:Int))=false:=by simpa using h4
             have hat:lnkAt s ps i=true:=by rw [HAT.out];simp [h2,h4];omega
             have HA2:=hid hat;clear hat h4 hz HAT HFL;go_wp2_with fail
             refine (PR2.out _ HB3.out).mono ?_;rintro e w4 ⟨rfl,hb4⟩;have hz_w4:=hb4.size;simp (disch:=omega) only [xcl hb4] at c_t0 c_t1 c_t2 c_t3 c_t4 c_t5 c_t6 c_t7 c_t8 c_t9 c_t10 c_t11 c_t12 c_t13 c_t14 c_t15 c_t16 c_t17;replace z_t:=blt hb4 z_t;have HB4:=xv hb4 HB;have hcz4:=(hb4.cell (World.block_lt_of_cell? _ _ hcz)).trans hcz;clear hb4 hcz;go_upto_region 11 with (fail)
             generalize hw5:w4.alloc _=w5;have hh:=ec18 hw5 (au18 (⟨c_t0,c_t1,c_t2,c_t3,c_t4,c_t5,c_t6,c_t7,c_t8,c_t9,c_t10,c_t11,c_t12,c_t13,c_t14,c_t15,c_t16,c_t17⟩));clear c_t0 c_t1 c_t2 c_t3 c_t4 c_t5 c_t6 c_t7 c_t8 c_t9 c_t10 c_t11 c_t12 c_t13 c_t14 c_t15 c_t16 c_t17;obtain ⟨c_t0,c_t1,c_t2,c_t3,c_t4,c_t5,c_t6,c_t7,c_t8,c_t9,c_t10,c_t11,c_t12,c_t13,c_t14,c_t15,c_t16,c_t17⟩:=hh;replace z_t:=elt hw5 (auz (z_t));have hh:=ec2 hw5 (al2 (b:=w4.heap.size) xsi);obtain ⟨c_qa0,c_qa1⟩:=hh;have z_qa:=elt hw5 (alz (b:=w4.heap.size) xsi);have hb5:Below w4.heap.size w4 w5:=by rw [←hw5];exact br.alloc (Nat.le_refl _) _
             have HB5:=xv hb5 HB4;have hcz5:=(hb5.cell (World.block_lt_of_cell? _ _ hcz4)).trans hcz4;clear hw5 hb5 hcz4;go_wp2
             go_roundg (gk-1)
             case measure=>omega
             case rel=>exact ⟨i+1,by omega,by go_num,by first|(rw [HCS2.out];rfl)|(rw [HCS2.out];push_cast;rfl)|(rw [HCS2.out];simp),hid (by rw [HTS2.out,HT.out,HA2.out];rfl),HB5⟩
           · have e4:(z != (i:Int))=true:=by simpa using h4
             have he8:=HFL.out (by rw [HAT.out];simp [h4]);subst he8;clear hz HAT HFL h4;go_wp2_with fail
             refine (PR2.out _ HB3.out).mono ?_;rintro e w4 ⟨rfl,hb4⟩;have hz_w4:=hb4.size;simp (disch:=omega) only [xcl hb4] at c_t0 c_t1 c_t2 c_t3 c_t4 c_t5 c_t6 c_t7 c_t8 c_t9 c_t10 c_t11 c_t12 c_t13 c_t14 c_t15 c_t16 c_t17;replace z_t:=blt hb4 z_t;have HB4:=xv hb4 HB3;have hcz4:=(hb4.cell (World.block_lt_of_cell? _ _ hcz)).trans hcz;clear hb4 hcz;go_upto_region 11 with (fail)
             generalize hw5:w4.alloc _=w5;have hh:=ec18 hw5 (au18 (⟨c_t0,c_t1,c_t2,c_t3,c_t4,c_t5,c_t6,c_t7,c_t8,c_t9,c_t10,c_t11,c_t12,c_t13,c_t14,c_t15,c_t16,c_t17⟩));clear c_t0 c_t1 c_t2 c_t3 c_t4 c_t5 c_t6 c_t7 c_t8 c_t9 c_t10 c_t11 c_t12 c_t13 c_t14 c_t15 c_t16 c_t17;obtain ⟨c_t0,c_t1,c_t2,c_t3,c_t4,c_t5,c_t6,c_t7,c_t8,c_t9,c_t10,c_t11,c_t12,c_t13,c_t14,c_t15,c_t16,c_t17⟩:=hh;replace z_t:=elt hw5 (auz (z_t));have hh:=ec2 hw5 (al2 (b:=w4.heap.size) xsi);obtain ⟨c_qb0,c_qb1⟩:=hh;have z_qb:=elt hw5 (alz (b:=w4.heap.size) xsi);have hb5:Below w4.heap.size w4 w5:=by rw [←hw5];exact br.alloc (Nat.le_refl _) _
             have HB5:=xv hb5 HB4;have hcz5:=(hb5.cell (World.block_lt_of_cell? _ _ hcz4)).trans hcz4;clear hw5 hb5 hcz4;go_wp2
             go_ret
             exact ⟨rfl,HB5.out⟩
         · have e3:decide ((ps.length:Int)≤x)=true:=by simp;omega
           have he8:=HFL.out (by rw [HAT.out];simp [h3]);subst he8;clear HAT HFL;go_wp2_with fail
           refine (PR2.out _ HB3.out).mono ?_;rintro e w4 ⟨rfl,hb4⟩;have hz_w4:=hb4.size;simp (disch:=omega) only [xcl hb4] at c_t0 c_t1 c_t2 c_t3 c_t4 c_t5 c_t6 c_t7 c_t8 c_t9 c_t10 c_t11 c_t12 c_t13 c_t14 c_t15 c_t16 c_t17;replace z_t:=blt hb4 z_t;have HB4:=xv hb4 HB3;clear hb4;go_upto_region 11 with (fail)
           generalize hw5:w4.alloc _=w5;have hh:=ec18 hw5 (au18 (⟨c_t0,c_t1,c_t2,c_t3,c_t4,c_t5,c_t6,c_t7,c_t8,c_t9,c_t10,c_t11,c_t12,c_t13,c_t14,c_t15,c_t16,c_t17⟩));clear c_t0 c_t1 c_t2 c_t3 c_t4 c_t5 c_t6 c_t7 c_t8 c_t9 c_t10 c_t11 c_t12 c_t13 c_t14 c_t15 c_t16 c_t17;obtain ⟨c_t0,c_t1,c_t2,c_t3,c_t4,c_t5,c_t6,c_t7,c_t8,c_t9,c_t10,c_t11,c_t12,c_t13,c_t14,c_t15,c_t16,c_t17⟩:=hh;replace z_t:=elt hw5 (auz (z_t));have hh:=ec2 hw5 (al2 (b:=w4.heap.size) xsi);obtain ⟨c_qc0,c_qc1⟩:=hh;have z_qc:=elt hw5 (alz (b:=w4.heap.size) xsi);have hb5:Below w4.heap.size w4 w5:=by rw [←hw5];exact br.alloc (Nat.le_refl _) _
           have HB5:=xv hb5 HB4;clear hw5 hb5;go_wp2
           go_ret
           exact ⟨rfl,HB5.out⟩
       · have e2:decide (x<0)=true:=by simp;omega
         have he8:=HFL.out (by rw [HAT.out];simp [h2]);subst he8;clear HAT HFL;go_wp2_with fail
         refine (PR2.out _ HB3.out).mono ?_;rintro e w4 ⟨rfl,hb4⟩;have hz_w4:=hb4.size;simp (disch:=omega) only [xcl hb4] at c_t0 c_t1 c_t2 c_t3 c_t4 c_t5 c_t6 c_t7 c_t8 c_t9 c_t10 c_t11 c_t12 c_t13 c_t14 c_t15 c_t16 c_t17;replace z_t:=blt hb4 z_t;have HB4:=xv hb4 HB3;clear hb4;go_upto_region 11 with (fail)
         generalize hw5:w4.alloc _=w5;have hh:=ec18 hw5 (au18 (⟨c_t0,c_t1,c_t2,c_t3,c_t4,c_t5,c_t6,c_t7,c_t8,c_t9,c_t10,c_t11,c_t12,c_t13,c_t14,c_t15,c_t16,c_t17⟩));clear c_t0 c_t1 c_t2 c_t3 c_t4 c_t5 c_t6 c_t7 c_t8 c_t9 c_t10 c_t11 c_t12 c_t13 c_t14 c_t15 c_t16 c_t17;obtain ⟨c_t0,c_t1,c_t2,c_t3,c_t4,c_t5,c_t6,c_t7,c_t8,c_t9,c_t10,c_t11,c_t12,c_t13,c_t14,c_t15,c_t16,c_t17⟩:=hh;replace z_t:=elt hw5 (auz (z_t));have hh:=ec2 hw5 (al2 (b:=w4.heap.size) xsi);obtain ⟨c_qd0,c_qd1⟩:=hh;have z_qd:=elt hw5 (alz (b:=w4.heap.size) xsi);have hb5:Below w4.heap.size w4 w5:=by rw [←hw5];exact br.alloc (Nat.le_refl _) _
         have HB5:=xv hb5 HB4;clear hw5 hb5;go_wp2
         go_ret
         exact ⟨rfl,HB5.out⟩
     · have e1:(y != 0)=true:=by simpa using h1
       have he8:=HFL.out (by rw [HAT.out];simp [h1]);subst he8;clear HAT HFL;go_wp2_with fail
       refine (PR2.out _ HB3.out).mono ?_;rintro e w4 ⟨rfl,hb4⟩;have hz_w4:=hb4.size;simp (disch:=omega) only [xcl hb4] at c_t0 c_t1 c_t2 c_t3 c_t4 c_t5 c_t6 c_t7 c_t8 c_t9 c_t10 c_t11 c_t12 c_t13 c_t14 c_t15 c_t16 c_t17;replace z_t:=blt hb4 z_t;have HB4:=xv hb4 HB3;clear hb4;go_upto_region 11 with (fail)
       generalize hw5:w4.alloc _=w5;have hh:=ec18 hw5 (au18 (⟨c_t0,c_t1,c_t2,c_t3,c_t4,c_t5,c_t6,c_t7,c_t8,c_t9,c_t10,c_t11,c_t12,c_t13,c_t14,c_t15,c_t16,c_t17⟩));clear c_t0 c_t1 c_t2 c_t3 c_t4 c_t5 c_t6 c_t7 c_t8 c_t9 c_t10 c_t11 c_t12 c_t13 c_t14 c_t15 c_t16 c_t17;obtain ⟨c_t0,c_t1,c_t2,c_t3,c_t4,c_t5,c_t6,c_t7,c_t8,c_t9,c_t10,c_t11,c_t12,c_t13,c_t14,c_t15,c_t16,c_t17⟩:=hh;replace z_t:=elt hw5 (auz (z_t));have hh:=ec2 hw5 (al2 (b:=w4.heap.size) xsi);obtain ⟨c_qe0,c_qe1⟩:=hh;have z_qe:=elt hw5 (alz (b:=w4.heap.size) xsi);have hb5:Below w4.heap.size w4 w5:=by rw [←hw5];exact br.alloc (Nat.le_refl _) _
       have HB5:=xv hb5 HB4;clear hw5 hb5;go_wp2
       go_ret
       exact ⟨rfl,HB5.out⟩
  · have him:i=n:=xo;subst him;have hlk:¬i<s.ks.length:=by rw [HN.out];omega
    have hgd:=HGOOD.out HT.out;generalize cntW s.ws 0 i=ci at *;clear hbr;by_cases hq:lv=ci
    · have e1:((lv:Int)-(ci:Nat) != 0)=false:=by simp;omega
      rw [if_pos hq] at hgd;subst hgd;go_wp2
      go_ret
      exact ⟨rfl,HB3.out⟩
    · have e1:((lv:Int)-(ci:Nat) != 0)=true:=by simp;omega
      rw [if_neg hq] at hgd;subst hgd;go_wp2
      go_ret
      exact ⟨rfl,HB3.out⟩
end
section
open Go.RowKit
theorem om_nums {c:Cfg} {s:SlC} (h:gapE c s=0) (hu:U64s s.ws):s.ks.length≤65536∧s.ks.length≤64*s.ws.length∧s.vs.length=s.ks.length∧s.ws.length≤65536:=by
 obtain ⟨hc,a,H,k,-⟩:=gap_zero h;obtain ⟨g,-⟩:=gapN_gd k hu;have hnm:=g.nm;have hw:=g.elw;exact ⟨by omega,by omega,by rw [k.nv,k.nk],by omega⟩
theorem pairs_at (s:SlC) (sa:SlA) (h1:s.ks.length≤65536) (h2:s.ks.length≤64*s.ws.length) (h3:s.vs.length=s.ks.length) (h4:s.ws.length≤65536) (i:Nat) (hi:i<s.ks.length) (w:World) (hin:SlIn w s sa):
    Calls Tryz.prog 53 #[slV s sa,.int .i64 i] w (AnsB w (.tuple #[.agg #[.int .i64 (if bitW s.ws i=true then s.ks.getD i 0 else 0),.int .i64 (if bitW s.ws i=true then s.vs.getD i 0 else 0)],.int .i64 (if bitW s.ws i=true then 0 else 6)])):=
  pair_ok s sa.wa sa.ka sa.va sa.ca sa.wc sa.kc sa.vc sa.cc i hi xo xo xo h4 w hin
theorem omCheck_ok (c:Cfg) (s:SlC) (sa:SlA) (gs ps:List Int) (mv:Int) (ga pa:Option Addr) (gc pc:Nat) (hl:s.ws.length≤1000000000000) (hl2:s.ks.length≤1000000000000) (hlg:gs.length≤1000000000) (hlp:ps.length≤1000000000) (hcc:s.cs.length≤sa.cc) (w:World) (hin:SlIn w s sa) (hg:IsRow .i64 w ga gs) (hp:IsRow .i64 w pa ps):
    Calls Tryz.prog 24 #[omV c s sa.wa sa.ka sa.va sa.ca sa.wc sa.kc sa.vc sa.cc gs ps mv ga pa gc pc] w (AnsB w (.int .i64 (omE c s gs ps))):=by
 have GK:=hid (fun W (hb:Below w.heap.size w W)=>gapCheck_ok c s sa hl hl2 hcc W (hin.below hb));have LV:=hid (fun W (hb:Below w.heap.size w W)=>Live_ok ga pa gc pc gs ps W (hg.below hb) (hp.below hb) hlg hlp);by_cases h0:gapE c s=0
 · rw [h0] at GK;rw [omE,if_pos h0];cases hm:may gs ps with
   | false=>
    rw [mayE_no hm] at LV;rw [if_neg xsi];exact omCheck_tab c s sa.wa sa.ka sa.va sa.ca sa.wc sa.kc sa.vc sa.cc gs ps mv ga pa gc pc _ 8 xdd w GK LV
   | true=>
    rw [mayE_yes hm,liveN_yes hm] at LV;obtain ⟨h1,h2,h3,h4⟩:=om_nums h0 hin.u;obtain ⟨m1,m2⟩:=may_len hm;refine omCheck_in c s sa.wa sa.ka sa.va sa.ca sa.wc sa.kc sa.vc sa.cc gs ps mv ga pa gc pc s.ks.length _ rfl h1 m2 ?_ w hp xo GK LV (hid fun i hi W hb=>pairs_at s sa h1 h2 h3 h4 i hi W (hin.below hb));simp only [true_and]
 · rw [omE,if_neg h0];exact omCheck_gap c s sa.wa sa.ka sa.va sa.ca sa.wc sa.kc sa.vc sa.cc gs ps mv ga pa gc pc _ h0 w GK
theorem om_all {c:Cfg} {s:SlC} {gs ps:List Int} (h:omE c s gs ps=0):∀i,i<(plsW s.ws 0 s.ks.length).length→(plsW s.ws 0 s.ks.length).getD i 0<s.ks.length∧0≤s.ks.getD ((plsW s.ws 0 s.ks.length).getD i 0) 0∧s.ks.getD ((plsW s.ws 0 s.ks.length).getD i 0) 0<gs.length∧
    (hdl s gs 0 s.ks.length).getD i (0,0)=(s.ks.getD ((plsW s.ws 0 s.ks.length).getD i 0) 0,gs.getD (s.ks.getD ((plsW s.ws 0 s.ks.length).getD i 0) 0).toNat 0):=by
 obtain ⟨-,hm,hk⟩:=omE_zero h;simp only [lnk,Bool.and_eq_true,decide_eq_true_eq] at hk;obtain ⟨m1,m2⟩:=may_len hm;intro i hi;obtain ⟨j,e1,⟨b1,b2,b3⟩,e2⟩:=hdl_at (s:=s) (gs:=gs) (a:=0) (b:=s.ks.length) (k:=i) (by rw [hdl,List.length_map];exact hi);have f:=lnkAt_facts (lnkTo_at hk.2 b2 b3);rw [e1];exact ⟨b2,f.2.1,by omega,e2⟩
theorem omLabel_ok (c:Cfg) (s:SlC) (sa:SlA) (gs ps:List Int) (mv:Int) (ga pa:Option Addr) (gc pc:Nat) (hl:s.ws.length≤1000000000000) (hl2:s.ks.length≤1000000000000) (hlg:gs.length≤1000000000) (hlp:ps.length≤1000000000) (hcc:s.cs.length≤sa.cc) (n g:Int) (w:World) (hin:SlIn w s sa) (hg:IsRow .i64 w ga gs) (hp:IsRow .i64 w pa ps):Calls Tryz.prog 26 #[omV c s sa.wa sa.ka sa.va sa.ca sa.wc sa.kc sa.vc sa.cc gs ps mv ga pa gc pc,.agg #[.int .i64 n,.int .i64 g]] w (AnsB w (.tuple #[.int .i64 (labV c s gs ps n g),.int .i64 (labE c s gs ps n g)])):=by
 have CK:=hid (fun W (hb:Below w.heap.size w W)=>omCheck_ok c s sa gs ps mv ga pa gc pc hl hl2 hlg hlp hcc W (hin.below hb) (hg.below hb) (hp.below hb));by_cases h:omE c s gs ps=0
 · rw [h] at CK;have hm:=(omE_zero h).2.1;refine omLabel_in c s sa.wa sa.ka sa.va sa.ca sa.wc sa.kc sa.vc sa.cc gs ps mv ga pa gc pc n g _ _ w CK (hid fun W hb=> ?_);have:=Find_ok ga pa gc pc gs ps n g W (hg.below hb) (hp.below hb) hlg hlp;have e1:labE c s gs ps n g=tfindE gs ps n g:=by simp [labE,tfindE,h,hm]
   have e2:labV c s gs ps n g=tfindV gs ps n g:=by simp [labV,tfindV,h,hm]
   rw [e1,e2];exact this
 · have e1:labE c s gs ps n g=omE c s gs ps:=by simp [labE,h]
   have e2:labV c s gs ps n g=0:=by simp [labV,h]
   rw [e1,e2];exact omLabel_err c s sa.wa sa.ka sa.va sa.ca sa.wc sa.kc sa.vc sa.cc gs ps mv ga pa gc pc n g _ h w CK
theorem omCompare_ok (c:Cfg) (s:SlC) (sa:SlA) (gs ps:List Int) (mv:Int) (ga pa:Option Addr) (gc pc:Nat) (hl:s.ws.length≤1000000000000) (hl2:s.ks.length≤1000000000000) (hlg:gs.length≤1000000000) (hlp:ps.length≤1000000000) (hcc:s.cs.length≤sa.cc) (n g n2 g2:Int) (w:World) (hin:SlIn w s sa) (hg:IsRow .i64 w ga gs) (hp:IsRow .i64 w pa ps):Calls Tryz.prog 25 #[omV c s sa.wa sa.ka sa.va sa.ca sa.wc sa.kc sa.vc sa.cc gs ps mv ga pa gc pc,.agg #[.int .i64 n,.int .i64 g],.agg #[.int .i64 n2,.int .i64 g2]] w (AnsB w (.tuple #[.int .i64 (cmpV c s gs ps n g n2 g2),.int .i64 (cmpE c s gs ps n g n2 g2)])):=by
 have LA:=hid (fun W (hb:Below w.heap.size w W)=>omLabel_ok c s sa gs ps mv ga pa gc pc hl hl2 hlg hlp hcc n g W (hin.below hb) (hg.below hb) (hp.below hb));have LB:=hid (fun W (hb:Below w.heap.size w W)=>omLabel_ok c s sa gs ps mv ga pa gc pc hl hl2 hlg hlp hcc n2 g2 W (hin.below hb) (hg.below hb) (hp.below hb));by_cases h1:labE c s gs ps n g=0
 · rw [h1] at LA;by_cases h2:labE c s gs ps n2 g2=0
   · rw [h2] at LB;have e1:cmpE c s gs ps n g n2 g2=0:=by rw [cmpE,if_pos h1,h2]
     have e2:cmpV c s gs ps n g n2 g2=cmpI (labV c s gs ps n g) (labV c s gs ps n2 g2):=by rw [cmpV,if_pos ⟨h1,h2⟩]
     rw [e1,e2];exact omCompare_in c s sa.wa sa.ka sa.va sa.ca sa.wc sa.kc sa.vc sa.cc gs ps mv ga pa gc pc n g n2 g2 _ _ w LA LB
   · have e1:cmpE c s gs ps n g n2 g2=labE c s gs ps n2 g2:=by rw [cmpE,if_pos h1]
     have e2:cmpV c s gs ps n g n2 g2=0:=by rw [cmpV,if_neg (fun h=>h2 h.2)]
     rw [e1,e2];exact omCompare_e2 c s sa.wa sa.ka sa.va sa.ca sa.wc sa.kc sa.vc sa.cc gs ps mv ga pa gc pc n g n2 g2 _ _ _ h2 w LA LB
 · have e1:cmpE c s gs ps n g n2 g2=labE c s gs ps n g:=by rw [cmpE,if_neg h1]
   have e2:cmpV c s gs ps n g n2 g2=0:=by rw [cmpV,if_neg (fun h=>h1 h.1)]
   rw [e1,e2];exact omCompare_e1 c s sa.wa sa.ka sa.va sa.ca sa.wc sa.kc sa.vc sa.cc gs ps mv ga pa gc pc n g n2 g2 _ _ h1 w LA
def lstL (c:Cfg) (s:SlC) (gs ps:List Int):List (Int×Int):=if omE c s gs ps=0 then hdl s gs 0 s.ks.length else []
theorem omList_ok (c:Cfg) (s:SlC) (sa:SlA) (gs ps:List Int) (mv:Int) (ga pa:Option Addr) (gc pc:Nat) (hl:s.ws.length≤1000000000000) (hl2:s.ks.length≤1000000000000) (hlg:gs.length≤1000000000) (hlp:ps.length≤1000000000) (hcc:s.cs.length≤sa.cc) (w:World) (hin:SlIn w s sa) (hg:IsRow .i64 w ga gs) (hp:IsRow .i64 w pa ps):Calls Tryz.prog 21 #[omV c s sa.wa sa.ka sa.va sa.ca sa.wc sa.kc sa.vc sa.cc gs ps mv ga pa gc pc] w (FreshHd2 w (lstL c s gs ps) (.int .i64 (omE c s gs ps))):=by
 have CK:=hid (fun W (hb:Below w.heap.size w W)=>omCheck_ok c s sa gs ps mv ga pa gc pc hl hl2 hlg hlp hcc W (hin.below hb) (hg.below hb) (hp.below hb));unfold lstL;by_cases h:omE c s gs ps=0
 · have h0:=(omE_zero h).1;have hn:=(om_nums h0 hin.u).1;have hc:=cntW_le s.ws 0 s.ks.length;obtain ⟨hcm,a,H,k,-⟩:=gap_zero h0;have hm:=k.may;have pe:partE s 0 (s.ks.length:Int)=0:=by rw [partE,if_pos hm,if_pos ⟨by omega,by omega,by omega⟩]
   have PR:Hid (∀W,Below w.heap.size w W→Calls Tryz.prog 49 #[slV s sa,.int .i64 0,.int .i64 s.ks.length] W (FreshPr2 W (prs s 0 s.ks.length) (.int .i64 0))):=hid fun W hb=>by
    have:=Pairs_ok s sa hl hl2 0 s.ks.length W (hin.below hb);rw [prsR,pe,if_pos rfl,Int.toNat_natCast] at this;exact this
   rw [if_pos h,h];rw [h] at CK;refine omList_in c s sa.wa sa.ka sa.va sa.ca sa.wc sa.kc sa.vc sa.cc gs ps mv ga pa gc pc (prs s 0 s.ks.length) (hdl s gs 0 s.ks.length) (plsW s.ws 0 s.ks.length).length (by rw [prs,List.length_map]) (by rw [hdl,List.length_map]) (by rw [plsW_length];omega) (fun i hi=> ?_) w hg CK PR;obtain ⟨f1,f2,f3,f4⟩:=om_all h i hi;have e:(prs s 0 s.ks.length).getD i (0,0)=(s.ks.getD ((plsW s.ws 0 s.ks.length).getD i 0) 0,s.vs.getD ((plsW s.ws 0 s.ks.length).getD i 0) 0):=by
    have e:(plsW s.ws 0 s.ks.length)[i]=(plsW s.ws 0 s.ks.length).getD i 0:=by rw [List.getD_eq_getElem?_getD,List.getElem?_eq_getElem hi];rfl
    rw [prs,List.getD_eq_getElem?_getD,List.getElem?_map,List.getElem?_eq_getElem hi,e];rfl
   rw [e];exact ⟨f2,f3,f4⟩
 · rw [if_neg h];exact omList_err c s sa.wa sa.ka sa.va sa.ca sa.wc sa.kc sa.vc sa.cc gs ps mv ga pa gc pc _ h w CK
end
section
open Go.RowKit Go.Shelf
structure Pushed (B:Nat) (W:World) (v:Value) (xs:List Int) (y:Int) (v':Value) (w':World):Prop where
 own:w'.ownsRow B 3 1 v' (xs++[y]).length ((xs++[y]).map (Value.int .i64))
 same:∀k,k<W.heap.size→v.ownBlock≠some k→w'.heap[k]? =W.heap[k]?
 fresh:v'.ownBlock=v.ownBlock∨∀k,v'.ownBlock=some k→W.heap.size≤k
 size:W.heap.size≤w'.heap.size
 below:∀n,n≤B→n≤W.heap.size→Below n W w'
theorem pushed_step {B:Nat} {W:World} {v v':Value} {xs:List Int} {y:Int} {w':World} (hB:B≤W.heap.size) (hv:∀k,v.ownBlock=some k→B≤k)
    (h1:w'.ownsRow B 3 1 v' (xs.length+1) (xs.map (Value.int .i64)++[.int .i64 y])) (h2:W.grownBy w' v.ownBlock) (h3:v'.ownBlock=v.ownBlock∨∀k,v'.ownBlock=some k→W.heap.size≤k):
    Pushed B W v xs y v' w' where
 own:=by simpa using h1
 same k hk hne:=h2.block k hk (fun e=>hne e.symm)
 fresh:=h3
 size:=h2.size
 below n hn hW:=(Below.refl n W).grown h2 hW (fun k hk=>by have:=hv k hk;omega)
theorem step_append1 {W:World} {ops:Array Oper} {o:Oper} {a:Act} {K:Act→World→Prop} {Q:Exit→Act→World→Prop} {E:Prop} (s x:Operand) (B bk:Nat) (v:Value) (xs:List Int) (y:Int)
    (hown:W.ownsRow B 3 1 v xs.length (xs.map (Value.int .i64))) (hc:W.cell? ⟨bk,0,none⟩=some (.int .i64 y)) (hlen:xs.length≤4294967295) (hbase:B≤W.heap.size)
    (hgd:o.guard=none) (ho:o.op= .call {callee:= .builtin .append,args:= #[s,x],argTypes:= #[26,26]})
    (hs:a.eval s=v) (hx:a.eval x= .slice (some ⟨bk,0,none⟩) 1 1)
    (h:∀v' w',Pushed B W v xs y v' w'→K (a.put o.dst v') w'):
    if Region.wanted o (yielded ops a.tmps)=true then Oper.wp Tryz.prog o a W K Q else E:=by
 refine step_append s x 26 3 (.int .i64 0) 1 8 Tryz.underlying26 info_int rfl xdd xdd B v xs.length (xs.map (Value.int .i64)) (some ⟨bk,0,none⟩) 1 1 [.int .i64 y]
   hown rfl xzc ?_ (by simp [Value.oneCell']) xo hbase hgd ho hs hx ?_
 · rintro ad h j u hj;cases h;match j with
   | 0=>simp at hj;subst hj;exact hc
   | j+1=>simp at hj
 · intro v' w' h1 h2 h3;exact h v' w' (pushed_step hbase (fun k hk=>(hown.lt k hk).1) h1 h2 h3)
theorem OwnTab.push_g {B M:Nat} {W:World} {v u:Value} {gs ps:List Int} (h:OwnTab B M W v u gs ps) (hM:M≤W.heap.size) {y:Int} {v':Value} {w':World} (hp:Pushed B W v gs y v' w'):OwnTab B w'.heap.size w' v' u (gs++[y]) ps where
 g:=hp.own
 p:=owns_heap h.p fun k hk=>hp.same k (by have:=h.pm k hk;omega) (fun e=>h.ne k k e hk rfl)
 ne k l hk hl:=by
  rcases hp.fresh with e|e
  · rw [e] at hk;exact h.ne k l hk hl
  · have:=e k hk;have:=h.pm l hl;omega
 gm k hk:=(hp.own.lt k hk).2
 pm k hk:=by have:=h.pm k hk;have:=hp.size;omega
theorem OwnTab.push_p {B M:Nat} {W:World} {v u:Value} {gs ps:List Int} (h:OwnTab B M W v u gs ps) (hM:M≤W.heap.size) {y:Int} {u':Value} {w':World} (hp:Pushed B W u ps y u' w'):OwnTab B w'.heap.size w' v u' gs (ps++[y]) where
 p:=hp.own
 g:=owns_heap h.g fun k hk=>hp.same k (by have:=h.gm k hk;omega) (fun e=>h.ne k k hk e rfl)
 ne k l hk hl:=by
  rcases hp.fresh with e|e
  · rw [e] at hl;exact h.ne k l hk hl
  · have:=e l hl;have:=h.gm k hk;omega
 pm k hk:=(hp.own.lt k hk).2
 gm k hk:=by have:=h.gm k hk;have:=hp.size;omega
theorem OwnTab.other' {B M:Nat} {W:World} {v u:Value} {gs ps:List Int} (h:OwnTab B M W v u gs ps) (p:Addr) (x:Value) (hv:v.ownBlock≠some p.block) (hu:u.ownBlock≠some p.block):OwnTab B M (W.setCell p x) v u gs ps:=
  ⟨owns_heap h.g fun k hk=>heap_setCell_ne _ _ _ (fun e=>hv (by rw [hk,e])),owns_heap h.p fun k hk=>heap_setCell_ne _ _ _ (fun e=>hu (by rw [hk,e])),h.ne,h.gm,h.pm⟩
theorem Pushed.own' {B:Nat} {W:World} {v v':Value} {xs zs:List Int} {y:Int} {w':World} (h:Pushed B W v xs y v' w') (hz:xs++[y]=zs):w'.ownsRow B 3 1 v' zs.length (zs.map (Value.int .i64)):=by
 rw [←hz];exact h.own
theorem Pushed.range {B lo hi:Nat} {W:World} {v v':Value} {xs:List Int} {y:Int} {w':World} (h:Pushed B W v xs y v' w') (hr:∀k,v.ownBlock=some k→lo≤k∧k<hi):
    ∀k,v'.ownBlock=some k→(lo≤k∧k<hi)∨W.heap.size≤k:=by
 intro k hk;rcases h.fresh with e|e
 · rw [e] at hk;exact .inl (hr k hk)
 · exact .inr (e k hk)
theorem OwnTab.push_g' {B M:Nat} {W:World} {v u:Value} {gs gs2 ps:List Int} (h:OwnTab B M W v u gs ps) (hM:M≤W.heap.size) {y:Int} {v':Value} {w':World} (hp:Pushed B W v gs y v' w') (hz:gs++[y]=gs2):OwnTab B w'.heap.size w' v' u gs2 ps:=by
 rw [←hz];exact h.push_g hM hp
theorem OwnTab.push_p' {B M:Nat} {W:World} {v u:Value} {gs ps ps2:List Int} (h:OwnTab B M W v u gs ps) (hM:M≤W.heap.size) {y:Int} {u':Value} {w':World} (hp:Pushed B W u ps y u' w') (hz:ps++[y]=ps2):OwnTab B w'.heap.size w' v u' gs ps2:=by
 rw [←hz];exact h.push_p hM hp
theorem Pushed.cell {B:Nat} {W:World} {v v':Value} {xs:List Int} {y:Int} {w':World} (h:Pushed B W v xs y v' w') {p:Addr} {z:Value} (hc:W.cell? p=some z) (hne:v.ownBlock≠some p.block):w'.cell? p=some z:=by
 rw [World.cell?_of_block (w:=W) (h.same _ (World.block_lt_of_cell? W _ hc) hne)];exact hc
theorem Pushed.frozen {B:Nat} {W:World} {v v':Value} {xs:List Int} {y:Int} {w':World} (h:Pushed B W v xs y v' w') {p:Addr} {z:Value} {f:Bool} (hc:W.cell? p=some z) (hf:W.frozen? p=f) (hne:v.ownBlock≠some p.block):w'.frozen? p=f:=by
 rw [World.frozen?_of_block (w:=W) (h.same _ (World.block_lt_of_cell? W _ hc) hne)];exact hf
end
section
open Go.RowKit
def Boxed (W:World) (l:List (Nat×Nat×Value)):Prop:=∀b o v,(b,o,v) ∈ l→W.cell? ⟨b,o,none⟩=some v∧W.frozen? ⟨b,o,none⟩=false
theorem Boxed.cell {W:World} {l:List (Nat×Nat×Value)} (h:Boxed W l) (b o:Nat) (v:Value) (hm:(b,o,v) ∈ l):W.cell? ⟨b,o,none⟩=some v:=(h b o v hm).1
theorem Boxed.frozen {W:World} {l:List (Nat×Nat×Value)} (h:Boxed W l) (b o:Nat) (v:Value) (hm:(b,o,v) ∈ l):W.frozen? ⟨b,o,none⟩=false:=(h b o v hm).2
theorem Boxed.calm {W W':World} {l:List (Nat×Nat×Value)} {B:Nat} (h:Boxed W l) (hc:Calm B W W'):Boxed W' l:=
  fun b o v hm=>⟨hc.cell (h b o v hm).1,hc.frozen (h b o v hm).1 (h b o v hm).2⟩
theorem Boxed.below {W W':World} {l:List (Nat×Nat×Value)} (h:Boxed W l) (hb:Below W.heap.size W W'):Boxed W' l:=
  fun b o v hm=>⟨(hb.cell (p:=⟨b,o,none⟩) (World.block_lt_of_cell? W _ (h b o v hm).1)).trans (h b o v hm).1,(hb.frozen (p:=⟨b,o,none⟩) (World.block_lt_of_cell? W _ (h b o v hm).1)).trans (h b o v hm).2⟩
theorem Boxed.other {W:World} {l:List (Nat×Nat×Value)} (h:Boxed W l) (p:Addr) (x:Value) (hn:∀q ∈ l,q.1≠p.block):Boxed (W.setCell p x) l:=
  fun b o v hm=>⟨cell_setCell_block (h b o v hm).1 (hn _ hm),by rw [World.frozen?_setCell];exact (h b o v hm).2⟩
theorem Boxed.nil (W:World):Boxed W []:=fun b o v hm=>by simp at hm
theorem Boxed.cons {W:World} {l:List (Nat×Nat×Value)} {b o:Nat} {v:Value} (h1:W.cell? ⟨b,o,none⟩=some v) (h2:W.frozen? ⟨b,o,none⟩=false) (h:Boxed W l):Boxed W ((b,o,v)::l):=by
 intro b' o' v' hm;rcases List.mem_cons.1 hm with e|hm
 · cases e;exact ⟨h1,h2⟩
 · exact h b' o' v' hm
theorem Boxed.set2 {W:World} {b:Nat} {x y x' y':Value} (h:Boxed W [(b,0,x'),(b,1,y')]):Boxed ((W.setCell ⟨b,0,none⟩ x).setCell ⟨b,1,none⟩ y) [(b,0,x),(b,1,y)]:=by
 obtain ⟨k0,k1⟩:=box2_stored (x:=x) (y:=y) (h.cell b 0 x' xsi) (h.cell b 1 y' xsi);refine Boxed.cons k0 ?_ (Boxed.cons k1 ?_ (Boxed.nil _))
 · rw [World.frozen?_setCell,World.frozen?_setCell];exact h.frozen b 0 x' xsi
 · rw [World.frozen?_setCell,World.frozen?_setCell];exact h.frozen b 1 y' xsi
end
section
open Go.RowKit Go.Shelf
theorem OwnTab.calm {B M C:Nat} {W W':World} {v u:Value} {gs ps:List Int} (h:OwnTab B M W v u gs ps) (hc:Calm C W W'):OwnTab B M W' v u gs ps:=
  ⟨hc.owns h.g,hc.owns h.p,h.ne,h.gm,h.pm⟩
structure MkI (w:World) (X BB MM:Nat) (v u:Value) (gs ps:List Int) (hn hg:Int) (W:World):Prop where
 box:Boxed W [(w.heap.size+1,0,.slice none 0 0),(w.heap.size+1,1,.slice none 0 0),(w.heap.size+1+1,0,.int .i64 0),(w.heap.size+1+1,1,.int .i64 0),(X,0,v),(X,1,u)]
 hb:Boxed W [(X+1,0,.int .i64 hn),(X+1,1,.int .i64 hg)]
 own:OwnTab BB MM W v u gs ps
 bel:Below w.heap.size w W
 sz:X+2<W.heap.size
theorem MkI.calm {w:World} {X BB MM:Nat} {v u:Value} {gs ps:List Int} {hn hg:Int} {W W':World} {B:Nat} (h:MkI w X BB MM v u gs ps hn hg W) (hc:Calm B W W') (hB:w.heap.size≤B):MkI w X BB MM v u gs ps hn hg W':=
  ⟨h.box.calm hc,h.hb.calm hc,⟨hc.owns h.own.g,hc.owns h.own.p,h.own.ne,h.own.gm,h.own.pm⟩,hc.below hB h.bel,Nat.lt_of_lt_of_le h.sz hc.size⟩
theorem MkI.below {w:World} {X BB MM:Nat} {v u:Value} {gs ps:List Int} {hn hg:Int} {W W':World} (h:MkI w X BB MM v u gs ps hn hg W) (hb:Below W.heap.size W W'):MkI w X BB MM v u gs ps hn hg W':=
  ⟨h.box.below hb,h.hb.below hb,h.own.below hb,h.bel.trans (hb.mono h.bel.size),Nat.lt_of_lt_of_le h.sz hb.size⟩
theorem MkI.set {w:World} {X BB MM:Nat} {v u:Value} {gs ps:List Int} {hn hg:Int} {W:World} (h:MkI w X BB MM v u gs ps hn hg W) (h1:w.heap.size+1+1<X) (h2:MM≤X) (hn' hg':Int):
    MkI w X BB MM v u gs ps hn' hg' ((W.setCell ⟨X+1,0,none⟩ (.int .i64 hn')).setCell ⟨X+1,1,none⟩ (.int .i64 hg')) where
 box:=by
  refine (h.box.other _ _ ?_).other _ _ ?_;all_goals
    intro q hq;simp only [List.mem_cons,List.not_mem_nil,or_false] at hq;rcases hq with rfl|rfl|rfl|rfl|rfl|rfl<;>dsimp only<;>omega
 hb:=h.hb.set2
 own:=(h.own.other _ _ (.inr xdo)).other _ _ (.inr xdo)
 bel:=(h.bel.setCell xdo _).setCell xdo _
 sz:=by simpa using h.sz
structure MkJ (w:World) (X BB MM D:Nat) (xv xu v u:Value) (gs ps:List Int) (hn hg:Int) (W:World):Prop where
 box:Boxed W [(w.heap.size+1,0,.slice none 0 0),(w.heap.size+1,1,.slice none 0 0),(w.heap.size+1+1,0,.int .i64 0),(w.heap.size+1+1,1,.int .i64 0),(X+1,0,.int .i64 hn),(X+1,1,.int .i64 hg)]
 xb:Boxed W [(X,0,xv),(X,1,xu)]
 own:OwnTab BB MM W v u gs ps
 bel:Below w.heap.size w W
 dk:W.heap[D]? =some (.deferred (some []))
 sz:X+1<W.heap.size
theorem MkJ.below {w:World} {X BB MM D:Nat} {xv xu v u:Value} {gs ps:List Int} {hn hg:Int} {W W':World} (h:MkJ w X BB MM D xv xu v u gs ps hn hg W) (hb:Below W.heap.size W W'):MkJ w X BB MM D xv xu v u gs ps hn hg W':=
  ⟨h.box.below hb,h.xb.below hb,h.own.below hb,h.bel.trans (hb.mono h.bel.size),(hb.block D (Array.getElem?_eq_some_iff.1 h.dk).1).trans h.dk,Nat.lt_of_lt_of_le h.sz hb.size⟩
theorem Pushed.boxed {B:Nat} {W:World} {v v':Value} {xs:List Int} {y:Int} {w':World} (h:Pushed B W v xs y v' w') {l:List (Nat×Nat×Value)} (hb:Boxed W l) (hn:∀q ∈ l,v.ownBlock≠some q.1):Boxed w' l:=
  fun b o z hm=>⟨h.cell (hb b o z hm).1 (hn _ hm),h.frozen (hb b o z hm).1 (hb b o z hm).2 (hn _ hm)⟩
theorem MkJ.push_g {w:World} {X BB MM D:Nat} {xv xu v v' u:Value} {gs gs2 ps:List Int} {hn hg y:Int} {W W':World} (h:MkJ w X BB MM D xv xu v u gs ps hn hg W) (hp:Pushed BB W v gs y v' W') (hz:gs++[y]=gs2) (hr:∀k,v.ownBlock=some k→BB≤k∧k<X)
    (h1:w.heap.size+1+1<BB) (h2:X<D) (hM:MM≤W.heap.size):MkJ w X BB W'.heap.size D xv xu v' u gs2 ps hn hg W' where
 box:=hp.boxed h.box (by
  intro q hq e;have:=hr _ e;simp only [List.mem_cons,List.not_mem_nil,or_false] at hq;rcases hq with rfl|rfl|rfl|rfl|rfl|rfl<;>dsimp only at this<;>omega)
 xb:=hp.boxed h.xb (by
  intro q hq e;have:=hr _ e;simp only [List.mem_cons,List.not_mem_nil,or_false] at hq;rcases hq with rfl|rfl<;>dsimp only at this<;>omega)
 own:=h.own.push_g' hM hp hz
 bel:=h.bel.trans (hp.below _ xo h.bel.size)
 dk:=(hp.same D (Array.getElem?_eq_some_iff.1 h.dk).1 (fun e=>by have:=hr _ e;omega)).trans h.dk
 sz:=Nat.lt_of_lt_of_le h.sz hp.size
theorem MkJ.push_p {w:World} {X BB MM D:Nat} {xv xu v u u':Value} {gs ps ps2:List Int} {hn hg y:Int} {W W':World} (h:MkJ w X BB MM D xv xu v u gs ps hn hg W) (hp:Pushed BB W u ps y u' W') (hz:ps++[y]=ps2) (hr:∀k,u.ownBlock=some k→BB≤k∧k<X)
    (h1:w.heap.size+1+1<BB) (h2:X<D) (hM:MM≤W.heap.size):MkJ w X BB W'.heap.size D xv xu v u' gs ps2 hn hg W' where
 box:=hp.boxed h.box (by
  intro q hq e;have:=hr _ e;simp only [List.mem_cons,List.not_mem_nil,or_false] at hq;rcases hq with rfl|rfl|rfl|rfl|rfl|rfl<;>dsimp only at this<;>omega)
 xb:=hp.boxed h.xb (by
  intro q hq e;have:=hr _ e;simp only [List.mem_cons,List.not_mem_nil,or_false] at hq;rcases hq with rfl|rfl<;>dsimp only at this<;>omega)
 own:=h.own.push_p' hM hp hz
 bel:=h.bel.trans (hp.below _ xo h.bel.size)
 dk:=(hp.same D (Array.getElem?_eq_some_iff.1 h.dk).1 (fun e=>by have:=hr _ e;omega)).trans h.dk
 sz:=Nat.lt_of_lt_of_le h.sz hp.size
theorem MkJ.setx {w:World} {X BB MM D:Nat} {xv xu v u:Value} {gs ps:List Int} {hn hg:Int} {W:World} (h:MkJ w X BB MM D xv xu v u gs ps hn hg W) (h1:w.heap.size+1+1<X) (h2:X<D) (hv:v.ownBlock≠some X) (hu:u.ownBlock≠some X) (yv yu:Value):
    MkJ w X BB MM D yv yu v u gs ps hn hg ((W.setCell ⟨X,0,none⟩ yv).setCell ⟨X,1,none⟩ yu) where
 box:=by
  refine (h.box.other _ _ ?_).other _ _ ?_;all_goals
    intro q hq;simp only [List.mem_cons,List.not_mem_nil,or_false] at hq;rcases hq with rfl|rfl|rfl|rfl|rfl|rfl<;>dsimp only<;>omega
 xb:=h.xb.set2
 own:=(h.own.other' _ _ hv hu).other' _ _ hv hu
 bel:=(h.bel.setCell xdo _).setCell xdo _
 dk:=by rw [heap_setCell_ne _ _ _ xdo,heap_setCell_ne _ _ _ xdo];exact h.dk
 sz:=by simpa using h.sz
end
section
open Go.RowKit Go.Shelf
def findReg (n:Nat):Code→Option Code
  | .region k ops d=>if k=n then some (.region k ops d) else none
  | .seq a b=>match findReg n a with
    | some c=>some c
    | none=>findReg n b
  | .block _ c=>findReg n c
  | .scope c=>findReg n c
  | .loop c=>findReg n c
  | .cond _ a b=>match findReg n a with
    | some c=>some c
    | none=>findReg n b
  | _=>none
noncomputable def makeReg:Code:=(Tryz.f58.body.bind (findReg 13)).getD .skip
def MakeRegQ (w:World) (X D:Nat) (gs2 ps2:List Int) (len:Nat) (ds:List Deferred):Exit→Act→World→Prop:=
  Exit.then (fun a' w'=>(∃(va2 ua2:Option Addr) (vc2 uc2 MM:Nat),MkJ w X (w.heap.size+1+1+1) MM D (.slice va2 gs2.length vc2) (.slice ua2 ps2.length uc2) (.slice va2 gs2.length vc2) (.slice ua2 ps2.length uc2) gs2 ps2 len 0 w')∧
    ∃u:Nat→Value,a'= {tmps:= #[u 0,u 1,u 2,u 3,.pointer (some ⟨w.heap.size+1,0,none⟩),.pointer (some ⟨w.heap.size+1+1,0,none⟩),u 6,u 7,.pointer (some ⟨X,0,none⟩),.pointer (some ⟨X+1,0,none⟩),u 10,u 11,u 12,u 13,u 14,u 15,u 16,u 17,u 18,u 19,u 20,u 21,u 22,u 23,u 24,u 25,u 26,u 27,u 28,u 29,u 30,u 31,u 32,u 33,u 34,u 35,u 36,u 37,u 38,u 39,u 40,u 41,u 42,u 43,u 44,u 45,u 46,u 47,u 48,u 49,u 50,u 51,u 52,u 53,u 54,u 55,u 56,u 57,u 58,u 59,u 60,u 61,u 62,u 63,u 64,u 65,u 66,u 67,u 68,u 69,u 70,u 71,u 72,u 73,u 74,u 75,u 76,u 77,u 78,u 79,u 80,u 81,u 82,u 83,u 84,u 85,u 86,u 87,u 88,u 89,u 90,u 91,u 92,u 93,u 94,u 95,u 96,u 97,u 98,u 99,u 100,u 101,u 102],defers:=ds}) (fun _ _ _=>False)
theorem make_region {w W3:World} {X D:Nat} {va ua:Option Addr} {vc uc:Nat} {gs ps gs2 ps2:List Int} {at_:Int} {len:Nat} {ds:List Deferred} {t0 t2 t3 t6 t7 t10 t11 t12 t13 t14 t15 t16 t17 t18 t19 t20 t21 t22 t23 t24 t25 t26 t27 t28 t29 t30 t31 t32 t33 t34 t35 t36 t37 t38 t39 t40 t41 t42 t43 t44 t45 t46 t47 t48 t49 t50 t51 t52 t53 t54 t55 t56 t57 t58 t59 t60 t61 t62 t63 t64 t65 t66 t67 t68 t69 t70 t71 t72 t73 t74 t75 t76 t77 t78 t79 t80 t81 t82 t83 t84 t85 t86 t87 t88 t89 t90 t91 t92 t93 t94 t95 t96 t97 t98 t99 t100 t101 t102:Value}
    (h1:gs.length<65536) (h2:ps.length<65536) (hX:w.heap.size+1+1+1≤X) (hD:X<D) (HGS:Hid (gs++[0]=gs2)) (HPS:Hid (ps++[at_]=ps2))
    (HVR:Hid (∀k,(Value.slice va len vc).ownBlock=some k→w.heap.size+1+1+1≤k∧k<X)) (HUR:Hid (∀k,(Value.slice ua len uc).ownBlock=some k→w.heap.size+1+1+1≤k∧k<X))
    (HJ:Hid (MkJ w X (w.heap.size+1+1+1) X D (.slice va len vc) (.slice ua len uc) (.slice va len vc) (.slice ua len uc) gs ps len 0 W3)):
    Code.wp Tryz.prog makeReg (MakeRegQ w X D gs2 ps2 len ds) {tmps:= #[t0,.int .i64 at_,t2,t3,.pointer (some ⟨w.heap.size+1,0,none⟩),.pointer (some ⟨w.heap.size+1+1,0,none⟩),t6,t7,.pointer (some ⟨X,0,none⟩),.pointer (some ⟨X+1,0,none⟩),t10,t11,t12,t13,t14,t15,t16,t17,t18,t19,t20,t21,t22,t23,t24,t25,t26,t27,t28,t29,t30,t31,t32,t33,t34,t35,t36,t37,t38,t39,t40,t41,t42,t43,t44,t45,t46,t47,t48,t49,t50,t51,t52,t53,t54,t55,t56,t57,t58,t59,t60,t61,t62,t63,t64,t65,t66,t67,t68,t69,t70,t71,t72,t73,t74,t75,t76,t77,t78,t79,t80,t81,t82,t83,t84,t85,t86,t87,t88,t89,t90,t91,t92,t93,t94,t95,t96,t97,t98,t99,t100,t101,t102],defers:=ds} W3:=by
 have c_x0:=HJ.out.xb.cell X 0 (.slice va len vc) xsi;have c_x1:=HJ.out.xb.cell X 1 (.slice ua len uc) xsi;have f_x0:=HJ.out.xb.frozen X 0 (.slice va len vc) xsi;have f_x1:=HJ.out.xb.frozen X 1 (.slice ua len uc) xsi;have hXW:X<W3.heap.size:=by have:=HJ.out.sz;omega
 unfold MakeRegQ;conv=>arg 2;whnf
 go_region_law (first
   | (refine step_append1 (.tmp 56) (.tmp 57) (w.heap.size+1+1+1) _ _ gs 0 (owns_below HJ.out.own.g xbel) xcn xo xlt rfl rfl rfl rfl ?_
      intro v' wA hpa;obtain ⟨va2,vc2,rfl,-,-⟩:=owns_news (hpa.own' HGS.out);have hzA:=hpa.size;try simp only [World.size_alloc,World.size_drew] at hzA
      have HJA:=hid ((HJ.out.below xbel).push_g hpa HGS.out HVR.out xo xo xlt);have HVR2:=hid (hpa.range HVR.out);have HPA:=hid hpa;have hxA:X<wA.heap.size:=by have:=HJA.out.sz;omega
      have c_x0:=HJA.out.xb.cell X 0 (.slice va len vc) xsi;have c_x1:=HJA.out.xb.cell X 1 (.slice ua len uc) xsi;have f_x0:=HJA.out.xb.frozen X 0 (.slice va len vc) xsi;have f_x1:=HJA.out.xb.frozen X 1 (.slice ua len uc) xsi;clear hpa)
   | (refine step_append1 (.tmp 63) (.tmp 65) (w.heap.size+1+1+1) _ _ ps at_ (owns_below HJA.out.own.p xbel) (by first|(exact xcn)|exact HPA.out.cell xcn (fun e=>by have:=HVR.out _ e;dsimp only at this;omega)) xo xlt rfl rfl rfl rfl ?_
      intro u' wB hpb;obtain ⟨ua2,uc2,rfl,-,-⟩:=owns_news (hpb.own' HPS.out);have hzB:=hpb.size;try simp only [World.size_alloc,World.size_drew] at hzB
      have HJB:=hid ((HJA.out.below xbel).push_p hpb HPS.out HUR.out xo xo xlt);have HUR2:=hid (hpb.range HUR.out);have hxB:X<wB.heap.size:=by have:=HJB.out.sz;omega
      have c_x0:=HJB.out.xb.cell X 0 (.slice va len vc) xsi;have c_x1:=HJB.out.xb.cell X 1 (.slice ua len uc) xsi;have f_x0:=HJB.out.xb.frozen X 0 (.slice va len vc) xsi;have f_x1:=HJB.out.xb.frozen X 1 (.slice ua len uc) xsi;clear hpb)
   | fail)
 all_goals
   refine ⟨⟨va2,ua2,vc2,uc2,wB.heap.size,HJB.out.setx xo xo ?_ ?_ _ _⟩,frame_mk _ _ _ ?_⟩
   · intro e;have:=HVR2.out _ e;try simp only [World.size_alloc,World.size_drew] at this
     omega
   · intro e;have:=HUR2.out _ e;try simp only [World.size_alloc,World.size_drew] at this
     omega
   · rfl
end
end Go.Proofs.YtjhpblejlchhjaaGreatDoor

/- Merged: ConfC, ConfF, WinW, QuietT. -/
import Derived.Test.YtbedhbpgnfffmaaGreatCobTellsP11
import Derived.Lib.QuietBelow
import Derived.Deep.CutRange
import Derived.Test.YtbedhbpgnfffmaaGreatCobTellsP4
import Derived.Laws.BitsAllLaws
import Derived.Test.YtbedhbpgnfffmaaGreatCobTellsP1
namespace Go.Proofs.YtbedhbpgnfffmaaGreat
set_option maxRecDepth 100000
set_option maxHeartbeats 40000000
set_option linter.unusedVariables false
set_option linter.unusedSimpArgs false
section
open Go.RowKit Go.Shelf Go.Sort
attribute [local go_sem] Oper.semAt_some
theorem cell_heap {w:World} {g:Nat} {cs:Array Value} {e:TypeId} {fr:Nat×Nat} (h:w.heap[g]? =some (.cells cs e fr)) (i:Nat):w.cell? ⟨g,i,none⟩=cs[i]? :=by
 unfold World.cell?;simp [h]
theorem bools_heap {w:World} {g:Nat} {e:TypeId} {l:List Bool} (h:w.heap[g]? =some (.cells (l.map Value.bool).toArray e (0,0))):IsBools w g l:=by
 intro i hi;rw [cell_heap h];simp [List.getD_eq_getElem?_getD,hi]
def Fact.bools {T:TypeId} (e:TypeId) (he:e≠T) (n:Nat) (l:List Bool):Fact T:=⟨fun v w=>∃g,v= .slice (some ⟨g,0,none⟩) n n∧w.heap[g]? =some (.cells (l.map Value.bool).toArray e (0,0)),fun _ _ _ h ⟨g,h1,h2⟩=>⟨g,h1,h.same _ _ h2 (fun cs fr e'=>by cases e';exact he rfl)⟩⟩
def szL (c:Cfg):List Bool:=[decide (1≤c.tag),decide (c.tag≤3),decide (1≤c.most),decide (c.most≤16384),powB c.seg 4 64,powB c.least c.seg 256,decide (1≤c.den),decide (c.den≤64)]
def ptL (c:Cfg):List Bool:=[decide (0≤c.ll),decide (c.ll<c.rl),decide (c.rl<c.rh),decide (c.rh<c.lh),decide (c.lh≤c.den)]
def lsL (c:Cfg):List Bool:=[decide (c.den≤2*c.rh),decide (8*c.rl≤c.den),decide (2*c.den≤c.rl*c.least)]
theorem cfHead_split (c:Cfg):cfHead c=((szL c).all id&&(ptL c).all id&&(lsL c).all id):=by
 simp [cfHead,szL,ptL,lsL,Bool.and_assoc]
theorem szp_num {c:Cfg} (h1:(szL c).all id=true) (h2:(ptL c).all id=true):1≤c.den∧c.den≤64∧0≤c.ll∧c.ll<c.rl∧c.rl<c.rh∧c.rh<c.lh∧c.lh≤c.den∧c.rl*c.least≤64*256∧0≤c.rl*c.least:=by
 simp only [szL,ptL,List.all_cons,List.all_nil,Bool.and_true,id,Bool.and_eq_true,decide_eq_true_eq] at h1 h2;obtain ⟨a1,a2,a3,a4,a5,a6,a7,a8⟩:=h1;obtain ⟨b1,b2,b3,b4,b5⟩:=h2;have s:=powB_iff.1 a5;have l:=powB_iff.1 a6;have q:=mul_bd (show 0≤c.rl by omega) (show c.rl≤64 by omega) (show 0≤c.least by omega) l.2.1;exact ⟨a7,a8,b1,b2,b3,b4,b5,q.2,q.1⟩
theorem cfE_bad {c:Cfg} (h:cfHead c=false):cfE c=50:=by simp [cfE,cfMay,h]
theorem Check5_ok (c:Cfg) (w:World):
    Calls Tryz.prog 79 #[.agg #[.int .u8 c.tag,.int .i64 c.most,.int .i64 c.seg,.int .i64 c.least,.int .i64 c.den,.int .i64 c.ll,.int .i64 c.rl,.int .i64 c.rh,.int .i64 c.lh]] w (AnsB w (.int .i64 (cfE c))):=by
 obtain ⟨s,hs⟩:∃s,(szL c).all id=s:=⟨_,rfl⟩
 obtain ⟨p,hp⟩:∃p,(ptL c).all id=p:=⟨_,rfl⟩
 obtain ⟨q,hq⟩:∃q,(lsL c).all id=q:=⟨_,rfl⟩
 have hh:=cfHead_split c;rw [hs,hp,hq] at hh;obtain ⟨r,hr⟩:∃r,cfE c=r:=⟨_,rfl⟩
 rw [hr];have HH:=hid hh;have HR:=hid hr;have HP:=hid hp;have HQ:=hid hq;have HSZ:=hid hs;clear hh hr hp hq;go_enter Tryz.func79,Tryz.ntmps79
 go_upto_region 1 with (fail)
 generalize hwz:w.alloc _=wz;have c_t0:wz.cell? ⟨w.heap.size,0,none⟩=some (.int .u8 c.tag):=by rw [←hwz];(exact xcg)
 have c_t1:wz.cell? ⟨w.heap.size,1,none⟩=some (.int .i64 c.most):=by rw [←hwz];(exact xcg)
 have c_t2:wz.cell? ⟨w.heap.size,2,none⟩=some (.int .i64 c.seg):=by rw [←hwz];(exact xcg)
 have c_t3:wz.cell? ⟨w.heap.size,3,none⟩=some (.int .i64 c.least):=by rw [←hwz];(exact xcg)
 have c_t4:wz.cell? ⟨w.heap.size,4,none⟩=some (.int .i64 c.den):=by rw [←hwz];(exact xcg)
 have c_t5:wz.cell? ⟨w.heap.size,5,none⟩=some (.int .i64 c.ll):=by rw [←hwz];(exact xcg)
 have c_t6:wz.cell? ⟨w.heap.size,6,none⟩=some (.int .i64 c.rl):=by rw [←hwz];(exact xcg)
 have c_t7:wz.cell? ⟨w.heap.size,7,none⟩=some (.int .i64 c.rh):=by rw [←hwz];(exact xcg)
 have c_t8:wz.cell? ⟨w.heap.size,8,none⟩=some (.int .i64 c.lh):=by rw [←hwz];(exact xcg)
 have z_t:w.heap.size<wz.heap.size:=by rw [←hwz];(exact xlt)
 have HS:Hid (Below w.heap.size w wz):=by rw [←hwz];exact hid (br.alloc (Nat.le_refl _) _)
 have hz:w.heap.size+1=wz.heap.size:=by rw [←hwz];simp
 clear hwz;refine wp_region_facts 28 xk (N:=108) rfl xk xk xdd (fun w'=>Below wz.heap.size wz w') (Ext 23) (factAt [.is (.pointer (some ⟨w.heap.size,0,none⟩)),.is (.int .u8 c.tag),.is (.bool (decide (1≤c.tag))),.is (.pointer (some ⟨w.heap.size,0,none⟩)),.is (.int .u8 c.tag),.is (.bool (decide (c.tag≤3))),.is (.pointer (some ⟨w.heap.size,1,none⟩)),.is (.int .i64 c.most),.is (.bool (decide (1≤c.most))),.is (.pointer (some ⟨w.heap.size,1,none⟩)),.is (.int .i64 c.most),.is (.bool (decide (c.most≤16384))),.is (.pointer (some ⟨w.heap.size,2,none⟩)),.is (.int .i64 c.seg),.is (.bool (powB c.seg 4 64)),.is (.pointer (some ⟨w.heap.size,3,none⟩)),.is (.int .i64 c.least),.is (.pointer (some ⟨w.heap.size,2,none⟩)),.is (.int .i64 c.seg),.is (.bool (powB c.least c.seg 256)),.is (.pointer (some ⟨w.heap.size,4,none⟩)),.is (.int .i64 c.den),.is (.bool (decide (1≤c.den))),.is (.pointer (some ⟨w.heap.size,4,none⟩)),.is (.int .i64 c.den),.is (.bool (decide (c.den≤64))),.bools 4 xdd 8 (szL c),.is (.bool s)]) (factAt_stays _) br.drew ?steps ?fin
 case steps=>
     refine ⟨?o0,?o1,?o2,?o3,?o4,?o5,?o6,?o7,?o8,?o9,?o10,?o11,?o12,?o13,?o14,?o15,?o16,?o17,?o18,?o19,?o20,?o21,?o22,?o23,?o24,?o25,?o26,?o27,trivial⟩<;>intro u a w' ev hJ hd K hK
     case o0=>
      have e1:tg a 1= .pointer (some ⟨w.heap.size,0,none⟩):=ev 1 xdd;have HK:=hid hK;clear hK ev hd;go_simp;exact HK.out _ _ xzc hJ rfl (Ext.refl _ _)
     case o1=>
      have e5:tg a 5= .pointer (some ⟨w.heap.size,0,none⟩):=(ev 5 xdd).trans (hd 0 _ xk rfl);have g0:=xjc hJ c_t0;have HK:=hid hK;clear hK ev hd;go_simp;exact HK.out _ _ xzc hJ rfl (Ext.refl _ _)
     case o2=>
      have e6:tg a 6= .int .u8 c.tag:=(ev 6 xdd).trans (hd 1 _ xk rfl);have HK:=hid hK;clear hK ev hd;go_simp;exact HK.out _ _ xzc hJ rfl (Ext.refl _ _)
     case o3=>
      have e1:tg a 1= .pointer (some ⟨w.heap.size,0,none⟩):=ev 1 xdd;have HK:=hid hK;clear hK ev hd;go_simp;exact HK.out _ _ xzc hJ rfl (Ext.refl _ _)
     case o4=>
      have e8:tg a 8= .pointer (some ⟨w.heap.size,0,none⟩):=(ev 8 xdd).trans (hd 3 _ xk rfl);have g0:=xjc hJ c_t0;have HK:=hid hK;clear hK ev hd;go_simp;exact HK.out _ _ xzc hJ rfl (Ext.refl _ _)
     case o5=>
      have e9:tg a 9= .int .u8 c.tag:=(ev 9 xdd).trans (hd 4 _ xk rfl);have HK:=hid hK;clear hK ev hd;go_simp;exact HK.out _ _ xzc hJ rfl (Ext.refl _ _)
     case o6=>
      have e1:tg a 1= .pointer (some ⟨w.heap.size,0,none⟩):=ev 1 xdd;have HK:=hid hK;clear hK ev hd;go_simp;exact HK.out _ _ xzc hJ rfl (Ext.refl _ _)
     case o7=>
      have e11:tg a 11= .pointer (some ⟨w.heap.size,1,none⟩):=(ev 11 xdd).trans (hd 6 _ xk rfl);have g0:=xjc hJ c_t1;have HK:=hid hK;clear hK ev hd;go_simp;exact HK.out _ _ xzc hJ rfl (Ext.refl _ _)
     case o8=>
      have e12:tg a 12= .int .i64 c.most:=(ev 12 xdd).trans (hd 7 _ xk rfl);have HK:=hid hK;clear hK ev hd;go_simp;exact HK.out _ _ xzc hJ rfl (Ext.refl _ _)
     case o9=>
      have e1:tg a 1= .pointer (some ⟨w.heap.size,0,none⟩):=ev 1 xdd;have HK:=hid hK;clear hK ev hd;go_simp;exact HK.out _ _ xzc hJ rfl (Ext.refl _ _)
     case o10=>
      have e14:tg a 14= .pointer (some ⟨w.heap.size,1,none⟩):=(ev 14 xdd).trans (hd 9 _ xk rfl);have g0:=xjc hJ c_t1;have HK:=hid hK;clear hK ev hd;go_simp;exact HK.out _ _ xzc hJ rfl (Ext.refl _ _)
     case o11=>
      have e15:tg a 15= .int .i64 c.most:=(ev 15 xdd).trans (hd 10 _ xk rfl);have HK:=hid hK;clear hK ev hd;go_simp;exact HK.out _ _ xzc hJ rfl (Ext.refl _ _)
     case o12=>
      have e1:tg a 1= .pointer (some ⟨w.heap.size,0,none⟩):=ev 1 xdd;have HK:=hid hK;clear hK ev hd;go_simp;exact HK.out _ _ xzc hJ rfl (Ext.refl _ _)
     case o13=>
      have e17:tg a 17= .pointer (some ⟨w.heap.size,2,none⟩):=(ev 17 xdd).trans (hd 12 _ xk rfl);have g0:=xjc hJ c_t2;have HK:=hid hK;clear hK ev hd;go_simp;exact HK.out _ _ xzc hJ rfl (Ext.refl _ _)
     case o14=>
      have e18:tg a 18= .int .i64 c.seg:=(ev 18 xdd).trans (hd 13 _ xk rfl);have HK:=hid hK;have HC:=hid (cpower_ok c.seg 4 64 xo w');clear hK ev hd;go_simp;refine HC.out.mono ?_;rintro e w'' ⟨rfl,rfl⟩;exact HK.out _ _ xzc hJ rfl (Ext.refl _ _)
     case o15=>
      have e1:tg a 1= .pointer (some ⟨w.heap.size,0,none⟩):=ev 1 xdd;have HK:=hid hK;clear hK ev hd;go_simp;exact HK.out _ _ xzc hJ rfl (Ext.refl _ _)
     case o16=>
      have e20:tg a 20= .pointer (some ⟨w.heap.size,3,none⟩):=(ev 20 xdd).trans (hd 15 _ xk rfl);have g0:=xjc hJ c_t3;have HK:=hid hK;clear hK ev hd;go_simp;exact HK.out _ _ xzc hJ rfl (Ext.refl _ _)
     case o17=>
      have e1:tg a 1= .pointer (some ⟨w.heap.size,0,none⟩):=ev 1 xdd;have HK:=hid hK;clear hK ev hd;go_simp;exact HK.out _ _ xzc hJ rfl (Ext.refl _ _)
     case o18=>
      have e22:tg a 22= .pointer (some ⟨w.heap.size,2,none⟩):=(ev 22 xdd).trans (hd 17 _ xk rfl);have g0:=xjc hJ c_t2;have HK:=hid hK;clear hK ev hd;go_simp;exact HK.out _ _ xzc hJ rfl (Ext.refl _ _)
     case o19=>
      have e21:tg a 21= .int .i64 c.least:=(ev 21 xdd).trans (hd 16 _ xk rfl);have e23:tg a 23= .int .i64 c.seg:=(ev 23 xdd).trans (hd 18 _ xk rfl);have HK:=hid hK;have HC:=hid (cpower_ok c.least c.seg 256 xo w');clear hK ev hd;go_simp;refine HC.out.mono ?_;rintro e w'' ⟨rfl,rfl⟩;exact HK.out _ _ xzc hJ rfl (Ext.refl _ _)
     case o20=>
      have e1:tg a 1= .pointer (some ⟨w.heap.size,0,none⟩):=ev 1 xdd;have HK:=hid hK;clear hK ev hd;go_simp;exact HK.out _ _ xzc hJ rfl (Ext.refl _ _)
     case o21=>
      have e25:tg a 25= .pointer (some ⟨w.heap.size,4,none⟩):=(ev 25 xdd).trans (hd 20 _ xk rfl);have g0:=xjc hJ c_t4;have HK:=hid hK;clear hK ev hd;go_simp;exact HK.out _ _ xzc hJ rfl (Ext.refl _ _)
     case o22=>
      have e26:tg a 26= .int .i64 c.den:=(ev 26 xdd).trans (hd 21 _ xk rfl);have HK:=hid hK;clear hK ev hd;go_simp;exact HK.out _ _ xzc hJ rfl (Ext.refl _ _)
     case o23=>
      have e1:tg a 1= .pointer (some ⟨w.heap.size,0,none⟩):=ev 1 xdd;have HK:=hid hK;clear hK ev hd;go_simp;exact HK.out _ _ xzc hJ rfl (Ext.refl _ _)
     case o24=>
      have e28:tg a 28= .pointer (some ⟨w.heap.size,4,none⟩):=(ev 28 xdd).trans (hd 23 _ xk rfl);have g0:=xjc hJ c_t4;have HK:=hid hK;clear hK ev hd;go_simp;exact HK.out _ _ xzc hJ rfl (Ext.refl _ _)
     case o25=>
      have e29:tg a 29= .int .i64 c.den:=(ev 29 xdd).trans (hd 24 _ xk rfl);have HK:=hid hK;clear hK ev hd;go_simp;exact HK.out _ _ xzc hJ rfl (Ext.refl _ _)
     case o26=>
      have e7:tg a 7= .bool (decide (1≤c.tag)):=(ev 7 xdd).trans (hd 2 _ xk rfl);have e10:tg a 10= .bool (decide (c.tag≤3)):=(ev 10 xdd).trans (hd 5 _ xk rfl);have e13:tg a 13= .bool (decide (1≤c.most)):=(ev 13 xdd).trans (hd 8 _ xk rfl);have e16:tg a 16= .bool (decide (c.most≤16384)):=(ev 16 xdd).trans (hd 11 _ xk rfl);have e19:tg a 19= .bool (powB c.seg 4 64):=(ev 19 xdd).trans (hd 14 _ xk rfl);have e24:tg a 24= .bool (powB c.least c.seg 256):=(ev 24 xdd).trans (hd 19 _ xk rfl);have e27:tg a 27= .bool (decide (1≤c.den)):=(ev 27 xdd).trans (hd 22 _ xk rfl);have e30:tg a 30= .bool (decide (c.den≤64)):=(ev 30 xdd).trans (hd 25 _ xk rfl);have f7:a.tmps[7]?.getD undef= .bool (decide (1≤c.tag)):=by rw [←Array.getD_eq_getD_getElem?];exact e7
      have f10:a.tmps[10]?.getD undef= .bool (decide (c.tag≤3)):=by rw [←Array.getD_eq_getD_getElem?];exact e10
      have f13:a.tmps[13]?.getD undef= .bool (decide (1≤c.most)):=by rw [←Array.getD_eq_getD_getElem?];exact e13
      have f16:a.tmps[16]?.getD undef= .bool (decide (c.most≤16384)):=by rw [←Array.getD_eq_getD_getElem?];exact e16
      have f19:a.tmps[19]?.getD undef= .bool (powB c.seg 4 64):=by rw [←Array.getD_eq_getD_getElem?];exact e19
      have f24:a.tmps[24]?.getD undef= .bool (powB c.least c.seg 256):=by rw [←Array.getD_eq_getD_getElem?];exact e24
      have f27:a.tmps[27]?.getD undef= .bool (decide (1≤c.den)):=by rw [←Array.getD_eq_getD_getElem?];exact e27
      have f30:a.tmps[30]?.getD undef= .bool (decide (c.den≤64)):=by rw [←Array.getD_eq_getD_getElem?];exact e30
      have HK:=hid hK;have hz':=hJ.size;clear hK ev hd;go_simp;exact HK.out _ _ xzc (hJ.alloc hz' _) ⟨_,rfl,alloc_new _ _⟩ (Ext.below (br.alloc (Nat.le_refl _) _))
     case o27=>
      obtain ⟨g,h1,h2⟩:(Fact.bools (T:=23) 4 xdd 8 (szL c)).holds (u 31) w':=hd 26 _ xk rfl;have e31:tg a 31= .slice (some ⟨g,0,none⟩) 8 8:=(ev 31 xdd).trans h1;have HK:=hid hK;have HC:=hid (all_ok (szL c) 8 g (by simp [szL]) w' (bools_heap h2));rw [hs,show (szL c).length=8 from rfl] at HC;clear hK ev hd h1 h2;go_simp;refine HC.out.mono ?_;rintro e w'' ⟨rfl,rfl⟩;exact HK.out _ _ xzc hJ rfl (Ext.refl _ _)
 case fin=>
  intro u w2 hJ hG;have h1:u 32= .bool s:=hG 27 _ rfl;have hz_w2:=hJ.size;replace c_t0:w2.cell? ⟨w.heap.size,0,none⟩=some (.int .u8 c.tag):=xjt hJ xlt xcn;replace c_t1:w2.cell? ⟨w.heap.size,1,none⟩=some (.int .i64 c.most):=xjt hJ xlt xcn;replace c_t2:w2.cell? ⟨w.heap.size,2,none⟩=some (.int .i64 c.seg):=xjt hJ xlt xcn;replace c_t3:w2.cell? ⟨w.heap.size,3,none⟩=some (.int .i64 c.least):=xjt hJ xlt xcn;replace c_t4:w2.cell? ⟨w.heap.size,4,none⟩=some (.int .i64 c.den):=xjt hJ xlt xcn;replace c_t5:w2.cell? ⟨w.heap.size,5,none⟩=some (.int .i64 c.ll):=xjt hJ xlt xcn;replace c_t6:w2.cell? ⟨w.heap.size,6,none⟩=some (.int .i64 c.rl):=xjt hJ xlt xcn;replace c_t7:w2.cell? ⟨w.heap.size,7,none⟩=some (.int .i64 c.rh):=xjt hJ xlt xcn;replace c_t8:w2.cell? ⟨w.heap.size,8,none⟩=some (.int .i64 c.lh):=xjt hJ xlt xcn;replace z_t:w.heap.size<w2.heap.size:=xo;have HB2:=hid (below_via hJ HS.out xo);have hz2:=hJ.size;clear hG hJ;simp only [mixFrame,mixL,dstsOf,List.take_succ_cons,List.take_zero,List.filterMap_cons,List.filterMap_nil,List.contains_cons,List.contains_nil,Nat.reduceBEq,Bool.or_false,Bool.false_or,Bool.or_true,Bool.true_or,if_true,if_false,Bool.false_eq_true,Nat.reduceAdd,Nat.zero_add,List.drop_succ_cons,List.drop_zero,h1];go_wp2_with fail
  refine (all_ok (ptL c) 5 w2.heap.size (by simp [ptL]) _ (bools_alloc w2 (ptL c) _)).mono ?_;rw [HP.out];rintro e w3 ⟨rfl,rfl⟩;have HB3:=hid (HB2.out.alloc (by omega:w.heap.size≤w2.heap.size) (.cells ((ptL c).map Value.bool).toArray 4));cases s with
  | false=>
   have hr50:r=50:=by rw [←HR.out];exact cfE_bad (by rw [HH.out];rfl)
   subst hr50;go_wp2
   go_ret
   exact ⟨rfl,HB3.out⟩
  | true=>
   cases p with
   | false=>
    have hr50:r=50:=by rw [←HR.out];exact cfE_bad (by rw [HH.out];rfl)
    subst hr50;go_wp2
    go_ret
    exact ⟨rfl,HB3.out⟩
   | true=>
    obtain ⟨d1,d2,d3,d4,d5,d6,d7,d8,d9⟩:=szp_num HSZ.out HP.out;have w1:IntKind.i64.wrap (2*c.rh)=2*c.rh:=IntWalk.i64_in _ xo;have w2':IntKind.i64.wrap (8*c.rl)=8*c.rl:=IntWalk.i64_in _ xo;have w3':IntKind.i64.wrap (2*c.den)=2*c.den:=IntWalk.i64_in _ xo;have w4':IntKind.i64.wrap (c.rl*c.least)=c.rl*c.least:=IntWalk.i64_in _ xo;go_wp2_with fail
    refine (all_ok (lsL c) 3 (w2.heap.size+1) (by simp [lsL]) _ ?_).mono ?_
    · have hb:=bools_alloc (w2.alloc (.cells ((ptL c).map Value.bool).toArray 4)) (lsL c) 4;rw [World.size_alloc] at hb;exact hb
    rw [HQ.out];rintro e w3 ⟨rfl,rfl⟩;have HB4:=hid (HB3.out.alloc (by simp;omega) (.cells ((lsL c).map Value.bool).toArray 4));clear HB3;cases q with
    | false=>
     have hr50:r=50:=by rw [←HR.out];exact cfE_bad (by rw [HH.out];rfl)
     subst hr50;go_wp2
     go_ret
     exact ⟨rfl,HB4.out⟩
    | true=>
     have hd:cfHead c=true:=HH.out;have hnum:=cfHead_num hd;have tb:=taks_bd hd (n:=c.most) xo xo;have TK:=hid (fun W=>takes_ok c hd c.most xo xo W);have HT:=hid (fun W=>height_ok c (taks c c.most) xo xo xo W);have hb:=htC_bd (c:=c) xo (size:=taks c c.most) xo xo;have m1:=mul_bd (show 0≤c.den by omega) d2 (show (0:Int)≤(htC c (taks c c.most):Nat) by omega) (show ((htC c (taks c c.most):Nat):Int)≤16 by omega);have m2:=mul_bd (show 0≤c.lh-c.rh by omega) (show c.lh-c.rh≤64 by omega) (show 0≤c.seg by omega) (show c.seg≤64 by omega);have he:r=if c.den*(htC c (taks c c.most):Nat)≤(c.lh-c.rh)*c.seg then 0 else 50:=by
      rw [←HR.out,cfE,cfMay,hd,Bool.true_and];simp
     have HE:=hid he;clear he hb tb hnum hd;generalize taks c c.most=T at *;generalize ((htC c T:Nat):Int)=HHt at *;have w5:IntKind.i64.wrap (c.den*HHt)=c.den*HHt:=IntWalk.i64_in _ xo;have w6:IntKind.i64.wrap ((c.lh-c.rh)*c.seg)=(c.lh-c.rh)*c.seg:=IntWalk.i64_in _ xo;have w7:IntKind.i64.wrap (c.lh-c.rh)=c.lh-c.rh:=IntWalk.i64_in _ xo;clear m1 m2;go_upto_region 5 with (fail)
     generalize hwy:(w2.alloc (.cells ((ptL c).map Value.bool).toArray 4)).alloc _=wy;replace c_t0:wy.cell? ⟨w.heap.size,0,none⟩=some (.int .u8 c.tag):=by rw [←hwy];(exact xcg)
     replace c_t1:wy.cell? ⟨w.heap.size,1,none⟩=some (.int .i64 c.most):=by rw [←hwy];(exact xcg)
     replace c_t2:wy.cell? ⟨w.heap.size,2,none⟩=some (.int .i64 c.seg):=by rw [←hwy];(exact xcg)
     replace c_t3:wy.cell? ⟨w.heap.size,3,none⟩=some (.int .i64 c.least):=by rw [←hwy];(exact xcg)
     replace c_t4:wy.cell? ⟨w.heap.size,4,none⟩=some (.int .i64 c.den):=by rw [←hwy];(exact xcg)
     replace c_t5:wy.cell? ⟨w.heap.size,5,none⟩=some (.int .i64 c.ll):=by rw [←hwy];(exact xcg)
     replace c_t6:wy.cell? ⟨w.heap.size,6,none⟩=some (.int .i64 c.rl):=by rw [←hwy];(exact xcg)
     replace c_t7:wy.cell? ⟨w.heap.size,7,none⟩=some (.int .i64 c.rh):=by rw [←hwy];(exact xcg)
     replace c_t8:wy.cell? ⟨w.heap.size,8,none⟩=some (.int .i64 c.lh):=by rw [←hwy];(exact xcg)
     replace z_t:w.heap.size<wy.heap.size:=by rw [←hwy];(exact xlt)
     have HB5:Hid (Below w.heap.size w wy):=by rw [←hwy];exact HB4
     clear hwy HB4;obtain ⟨X,hX⟩:∃X,c.den*HHt=X:=⟨_,rfl⟩
     obtain ⟨Y,hY⟩:∃Y,(c.lh-c.rh)*c.seg=Y:=⟨_,rfl⟩
     rw [hX] at w5 HE;rw [hY] at w6 HE;have K0:=hid (fun d os=>kr wy d os (TK.out _));have K1:=hid (fun d os=>kr wy d os (HT.out _));have q0:=cg c_t0;have q1:=cg c_t1;have q2:=cg c_t2;have q3:=cg c_t3;have q4:=cg c_t4;have q5:=cg c_t5;have q6:=cg c_t6;have q7:=cg c_t7;have q8:=cg c_t8;refine wp_region_quiet_below xk xk ?_;repeat (go_big_quiet_step (first|exact K0.out _ _|exact K1.out _ _))
     refine wpQuiet_nil ?_;intro _ hw';obtain ⟨⟨dq,osq⟩,hw''⟩:=hw';subst hw'';have hbq:=below_regrown wy dq osq;clear q0 q1 q2 q3 q4 q5 q6 q7 q8 K0 K1;have HB6:=xv hbq HB5;clear hbq HB5;generalize Sort.grow (redrawn wy dq) osq=wx at *;by_cases hc:X≤Y
     · have hr0:=HE.out;rw [if_pos hc] at hr0;subst hr0;go_wp2
       go_ret
       exact ⟨rfl,HB6.out⟩
     · have hr0:=HE.out;rw [if_neg hc] at hr0;subst hr0;go_wp2
       go_ret
       exact ⟨rfl,HB6.out⟩
end
section
open Go.RowKit Go.Shelf Go.Sort
theorem cfMay_head {c:Cfg} (h:cfMay c=true):cfHead c=true:=by
 simp only [cfMay,Bool.and_eq_true] at h;exact h.1
theorem cfE_ok {c:Cfg} (h:cfMay c=true):cfE c=0:=by simp [cfE,h]
theorem High_no (c:Cfg) (hc:cfMay c=true) (size:Int) (hp:powB size c.least (taks c c.most)=false) (w:World):
    Calls Tryz.prog 96 #[.agg #[.int .u8 c.tag,.int .i64 c.most,.int .i64 c.seg,.int .i64 c.least,.int .i64 c.den,.int .i64 c.ll,.int .i64 c.rl,.int .i64 c.rh,.int .i64 c.lh],.int .i64 size] w (AnsB w (.tuple #[.int .i64 0,.int .i64 2])):=by
 have hd:=cfMay_head hc;obtain ⟨d0,d1,d2,d3,d4,d5,d6,d7,d8,d9,d10,d11,d12,d13,d14,d15,d16,d17⟩:=cfHead_num hd;have tb:=taks_bd hd (n:=c.most) xo xo;have CK:=hid (fun W=>Check5_ok c W);rw [cfE_ok hc] at CK;have TK:=hid (fun W=>takes_ok c hd c.most xo xo W);have PW:=hid (fun W=>cpower_ok size c.least (taks c c.most) xo W);rw [hp] at PW;clear hd hc hp;generalize taks c c.most=T at *;go_enter Tryz.func96,Tryz.ntmps96
 go_wp2_with fail
 refine (CK.out _).mono ?_;rintro e w1 ⟨rfl,hb1⟩;have hz_w1:=hb1.size;try simp only [World.size_alloc,World.size_setCell] at hz_w1
 have hh:=bc9 hb1 (al9 (b:=w.heap.size) xsi);obtain ⟨c_t0,c_t1,c_t2,c_t3,c_t4,c_t5,c_t6,c_t7,c_t8⟩:=hh;have z_t:=blt hb1 (alz (b:=w.heap.size) xsi);have hB1:Below w.heap.size w w1:=xbel;have HB1:=hid hB1;clear hb1 hB1;go_upto_region 4 with (fail)
 have K0:=hid (fun d os=>kr w1 d os (TK.out _));have K1:=hid (fun d os=>kr w1 d os ((PW.out _).mono fun _ _ h=>⟨h.1,h.2 ▸ Below.refl _ _⟩));have q0:=cg c_t0;have q1:=cg c_t1;have q2:=cg c_t2;have q3:=cg c_t3;have q4:=cg c_t4;have q5:=cg c_t5;have q6:=cg c_t6;have q7:=cg c_t7;have q8:=cg c_t8;refine wp_region_quiet_below xk xk ?_;repeat (go_big_quiet_step (first|exact K0.out _ _|exact K1.out _ _))
 refine wpQuiet_nil ?_;intro _ hw';obtain ⟨⟨dq,osq⟩,hw''⟩:=hw';subst hw'';have hbq:=below_regrown w1 dq osq;clear q0 q1 q2 q3 q4 q5 q6 q7 q8 K0 K1;generalize Sort.grow (redrawn w1 dq) osq=wx at *;have HB2:=xv hbq HB1;go_wp2
 go_ret2
 exact ⟨rfl,HB2.out⟩
theorem High_in (c:Cfg) (hc:cfMay c=true) (size:Int) (hp:powB size c.least (taks c c.most)=true) (w:World):
    Calls Tryz.prog 96 #[.agg #[.int .u8 c.tag,.int .i64 c.most,.int .i64 c.seg,.int .i64 c.least,.int .i64 c.den,.int .i64 c.ll,.int .i64 c.rl,.int .i64 c.rh,.int .i64 c.lh],.int .i64 size] w (AnsB w (.tuple #[.int .i64 (htC c size:Nat),.int .i64 0])):=by
 have hd:=cfMay_head hc;obtain ⟨d0,d1,d2,d3,d4,d5,d6,d7,d8,d9,d10,d11,d12,d13,d14,d15,d16,d17⟩:=cfHead_num hd;have tb:=taks_bd hd (n:=c.most) xo xo;have CK:=hid (fun W=>Check5_ok c W);rw [cfE_ok hc] at CK;have TK:=hid (fun W=>takes_ok c hd c.most xo xo W);have PW:=hid (fun W=>cpower_ok size c.least (taks c c.most) xo W);have sb:=powB_iff.1 hp;have HT:=hid (fun W=>height_ok c size xo xo xo W);rw [hp] at PW;clear hd hc hp;generalize taks c c.most=T at *;generalize ((htC c size:Nat):Int)=HH at *;clear sb tb;go_enter Tryz.func96,Tryz.ntmps96
 go_wp2_with fail
 refine (CK.out _).mono ?_;rintro e w1 ⟨rfl,hb1⟩;have hz_w1:=hb1.size;try simp only [World.size_alloc,World.size_setCell] at hz_w1
 have hh:=bc9 hb1 (al9 (b:=w.heap.size) xsi);obtain ⟨c_t0,c_t1,c_t2,c_t3,c_t4,c_t5,c_t6,c_t7,c_t8⟩:=hh;have z_t:=blt hb1 (alz (b:=w.heap.size) xsi);have hB1:Below w.heap.size w w1:=xbel;have HB1:=hid hB1;clear hb1 hB1;go_upto_region 4 with (fail)
 have K0:=hid (fun d os=>kr w1 d os (TK.out _));have K1:=hid (fun d os=>kr w1 d os ((PW.out _).mono fun _ _ h=>⟨h.1,h.2 ▸ Below.refl _ _⟩));have q0:=cg c_t0;have q1:=cg c_t1;have q2:=cg c_t2;have q3:=cg c_t3;have q4:=cg c_t4;have q5:=cg c_t5;have q6:=cg c_t6;have q7:=cg c_t7;have q8:=cg c_t8;refine wp_region_quiet_below xk xk ?_;repeat (go_big_quiet_step (first|exact K0.out _ _|exact K1.out _ _))
 refine wpQuiet_nil ?_;intro _ hw';obtain ⟨⟨dq,osq⟩,hw''⟩:=hw';subst hw'';have hbq:=below_regrown w1 dq osq;clear q0 q1 q2 q3 q4 q5 q6 q7 q8 K0 K1;generalize Sort.grow (redrawn w1 dq) osq=wx at *;have HB2:=xv hbq HB1;have hz_wx:=hbq.size;simp (disch:=omega) only [xcl hbq] at *;replace z_t:=blt hbq z_t;have hz2:=HB2.out.size;go_wp2_with fail
 refine (HT.out _).mono ?_;rintro e w3 ⟨rfl,hb3⟩;have hz_w3:=hb3.size;simp (disch:=omega) only [xcl hb3] at *;replace z_t:=blt hb3 z_t;have HB3:=hid (below_via hb3 HB2.out hz2);go_wp2
 go_ret2
 exact ⟨rfl,HB3.out⟩
structure CapC (c:Cfg) (size:Int) (a H:Nat):Prop where
 may:cfMay c=true
 cap:powB size c.least (taks c c.most)=true
 seg:c.seg=((2^a:Nat):Int)
 a2:2≤a
 a6:a≤6
 all:size=((2^a*2^H:Nat):Int)
 big:2^a*2^H≤65536
 hgt:htC c size=H
 h14:H≤14
theorem pow2_bd {a lo hi:Nat} (h1:2^lo≤2^a) (h2:2^a≤2^hi):lo≤a∧a≤hi:=
  ⟨(Nat.pow_le_pow_iff_right xo).1 h1,(Nat.pow_le_pow_iff_right xo).1 h2⟩
theorem capC_of {c:Cfg} {size:Int} (hc:cfMay c=true) (hp:powB size c.least (taks c c.most)=true):∃a H,CapC c size a H:=by
 have hd:=cfMay_head hc;obtain ⟨d0,d1,d2,d3,d4,d5,d6,d7,d8,d9,d10,d11,d12,d13,d14,d15,d16,d17⟩:=cfHead_num hd;have tb:=taks_bd hd (n:=c.most) xo xo;have hf:=cfHead_facts hd;obtain ⟨-,-,a,ea⟩:=powB_nat hf.2.2.2.2.1;obtain ⟨l1,l2,b,eb⟩:=powB_nat hp;have ha:=pow2_bd (a:=a) (lo:=2) (hi:=6) xo xo;have hab:a≤b:=(Nat.pow_le_pow_iff_right (a:=2) xo).1 xo;obtain ⟨H,rfl⟩:∃H,b=a+H:=⟨b-a,by omega⟩
 rw [Nat.pow_add] at eb;have hb:=pow2_bd (a:=a+H) (lo:=0) (hi:=16) (by rw [Nat.pow_add];omega) (by rw [Nat.pow_add];omega);refine ⟨a,H,hc,hp,ea,ha.1,ha.2,eb,by omega,?_,by omega⟩;rw [htC,ea,eb,Int.natCast_mul,Int.mul_ediv_cancel_left _ (by have:=Nat.two_pow_pos a;omega),Int.toNat_natCast,Nat.log2_two_pow]
theorem CapC.wd {c:Cfg} {size:Int} {a H h:Nat} (k:CapC c size a H) (hh:h≤H):wdC c h=((2^a*2^h:Nat):Int)∧4≤wdC c h∧wdC c h≤65536∧2^a*2^h≤2^a*2^H:=by
 have h1:=wdC_bd k.seg k.big hh;have e:wdC c h=((2^a*2^h:Nat):Int):=by rw [wdC,k.seg];push_cast;rfl
 have h4:2^2≤2^a:=Nat.pow_le_pow_right xo k.a2;have h5:=Nat.mul_le_mul h4 (Nat.two_pow_pos h);have h6:2^a*2^h≤2^a*2^H:=Nat.mul_le_mul_left _ (Nat.pow_le_pow_right xo hh);exact ⟨e,by omega,h1.2,h6⟩
theorem CapC.least {c:Cfg} {size:Int} {a H:Nat} (k:CapC c size a H):size=c.least∨0<H:=by
 have l:=powB_iff.1 k.cap;obtain ⟨d0,d1,d2,d3,d4,d5,d6,d7,d8,d9,d10,d11,d12,d13,d14,d15,d16,d17⟩:=cfHead_num (cfMay_head k.may);rcases Nat.eq_zero_or_pos H with e|e
 · left;have:=k.all;have:=k.seg;rw [e] at *;simp at *;omega
 · exact Or.inr e
theorem casked_in (c:Cfg) (size:Int) (a H h:Nat) (k:CapC c size a H) (hh:h≤H) (n:Int) (h0:0≤n) (h1:n≤wdC c h) (w:World):
    Calls Tryz.prog 132 #[.agg #[.int .u8 c.tag,.int .i64 c.most,.int .i64 c.seg,.int .i64 c.least,.int .i64 c.den,.int .i64 c.ll,.int .i64 c.rl,.int .i64 c.rh,.int .i64 c.lh],.int .i64 size,.int .i64 h,.int .i64 n] w (AnsB w (.tuple #[.int .i64 H,.int .i64 0])):=by
 obtain ⟨e,w4,w6,-⟩:=k.wd hh;have e2:c.seg*2^h=wdC c h:=rfl;have hH:=k.h14;have HI:=hid (fun W=>High_in c k.may size k.cap W);rw [k.hgt] at HI;clear k e;generalize wdC c h=W at *;have hwr:IntKind.i64.wrap (c.seg*2^h)=W:=by rw [e2];exact IntWalk.i64_in _ xo
 clear e2;go_enter Tryz.func132,Tryz.ntmps132
 go_wp2_with fail
 refine (HI.out _).mono ?_;rintro e w1 ⟨rfl,hb1⟩;have hz_w1:=hb1.size;try simp only [World.size_alloc,World.size_setCell] at hz_w1
 have hh:=bc9 hb1 (al9 (b:=w.heap.size) xsi);obtain ⟨c_t0,c_t1,c_t2,c_t3,c_t4,c_t5,c_t6,c_t7,c_t8⟩:=hh;have z_t:=blt hb1 (alz (b:=w.heap.size) xsi);have hB1:Below w.heap.size w w1:=xbel;have HB1:=hid hB1;clear hb1 hB1;go_wp2
 go_ret2
 exact ⟨rfl,HB1.out⟩
theorem casked_out (c:Cfg) (size:Int) (a H h:Nat) (k:CapC c size a H) (hh:h≤H) (n:Int) (h0:0≤n) (h1:wdC c h<n) (w:World):
    Calls Tryz.prog 132 #[.agg #[.int .u8 c.tag,.int .i64 c.most,.int .i64 c.seg,.int .i64 c.least,.int .i64 c.den,.int .i64 c.ll,.int .i64 c.rl,.int .i64 c.rh,.int .i64 c.lh],.int .i64 size,.int .i64 h,.int .i64 n] w (AnsB w (.tuple #[.int .i64 0,.int .i64 2])):=by
 obtain ⟨e,w4,w6,-⟩:=k.wd hh;have e2:c.seg*2^h=wdC c h:=rfl;have hH:=k.h14;have HI:=hid (fun W=>High_in c k.may size k.cap W);rw [k.hgt] at HI;clear k e;generalize wdC c h=W at *;have hwr:IntKind.i64.wrap (c.seg*2^h)=W:=by rw [e2];exact IntWalk.i64_in _ xo
 clear e2;go_enter Tryz.func132,Tryz.ntmps132
 go_wp2_with fail
 refine (HI.out _).mono ?_;rintro e w1 ⟨rfl,hb1⟩;have hz_w1:=hb1.size;try simp only [World.size_alloc,World.size_setCell] at hz_w1
 have hh:=bc9 hb1 (al9 (b:=w.heap.size) xsi);obtain ⟨c_t0,c_t1,c_t2,c_t3,c_t4,c_t5,c_t6,c_t7,c_t8⟩:=hh;have z_t:=blt hb1 (alz (b:=w.heap.size) xsi);have hB1:Below w.heap.size w w1:=xbel;have HB1:=hid hB1;clear hb1 hB1;go_wp2
 go_ret2
 exact ⟨rfl,HB1.out⟩
theorem density_ok (c:Cfg) (size:Int) (a H h:Nat) (k:CapC c size a H) (hh:h≤H) (n leaf root:Int) (h0:0≤n) (h1:n≤65538) (l0:0≤leaf) (l1:leaf≤64) (r0:0≤root) (r1:root≤64) (w:World):
    Calls Tryz.prog 133 #[.agg #[.int .u8 c.tag,.int .i64 c.most,.int .i64 c.seg,.int .i64 c.least,.int .i64 c.den,.int .i64 c.ll,.int .i64 c.rl,.int .i64 c.rh,.int .i64 c.lh],.int .i64 H,.int .i64 h,.int .i64 n,.int .i64 leaf,.int .i64 root] w (AnsB w (.int .i64 (dnsV c H h n leaf root))):=by
 obtain ⟨e,w4,w6,-⟩:=k.wd hh;have e2:c.seg*2^h=wdC c h:=rfl;have hH:=k.h14;obtain ⟨d0,d1,d2,d3,d4,d5,d6,d7,d8,d9,d10,d11,d12,d13,d14,d15,d16,d17⟩:=cfHead_num (cfMay_head k.may);have m1:=mul_bd (show 0≤c.den by omega) d9 (show (0:Int)≤(H:Int) by omega) (show (H:Int)≤14 by omega);have m2:=mul_bd l0 l1 (show (0:Int)≤(H:Int) by omega) (show (H:Int)≤14 by omega);have m3:=mul_bd l0 l1 (show (0:Int)≤(H:Int)-h by omega) (show (H:Int)-h≤14 by omega);have m4:=mul_bd r0 r1 (show (0:Int)≤(h:Int) by omega) (show (h:Int)≤14 by omega);have m5:=mul_bd l0 l1 (show (0:Int)≤(h:Int) by omega) (show (h:Int)≤14 by omega);have el:=limF_eq leaf root H h;have el2:limF leaf root H h=leaf*H+(root-leaf)*h:=rfl;have e3:(root-leaf)*h=root*h-leaf*h:=Int.sub_mul ..;have bl:0≤limF leaf root H h∧limF leaf root H h≤2000:=xo;have x1:IntKind.i64.wrap (leaf*H)=leaf*H:=IntWalk.i64_in _ xo;have x2:IntKind.i64.wrap ((root-leaf)*h)=(root-leaf)*h:=IntWalk.i64_in _ xo;have x3:IntKind.i64.wrap (leaf*H+(root-leaf)*h)=leaf*H+(root-leaf)*h:=IntWalk.i64_in _ xo;have x4:IntKind.i64.wrap (root-leaf)=root-leaf:=IntWalk.i64_in _ xo;have x5:IntKind.i64.wrap (c.den*H)=c.den*H:=IntWalk.i64_in _ xo;unfold dnsV;have BT:=hid (fun W (hp:0<H)=>Between_ok leaf root h H ⟨by omega,by omega⟩ ⟨by omega,by omega⟩ ⟨by omega,by omega⟩ ⟨by omega,by omega⟩ xo xo xo (limF leaf root H h) rfl x1 x2 x3 x4 W);have C1:=hid (fun W=>Cross_ok n (wdC c h) (limF leaf root H h) (c.den*H) ⟨by omega,by omega⟩ ⟨by omega,by omega⟩ ⟨by omega,by omega⟩ ⟨by omega,by omega⟩ W);have C2:=hid (fun W=>Cross_ok n (wdC c h) root c.den ⟨by omega,by omega⟩ ⟨by omega,by omega⟩ ⟨by omega,by omega⟩ ⟨by omega,by omega⟩ W);clear k e m1 m2 m3 m4 m5 el el2 e3 bl x1 x2 x3 x4;generalize wdC c h=W at *;have hwr:IntKind.i64.wrap (c.seg*2^h)=W:=by rw [e2];exact IntWalk.i64_in _ xo
 clear e2;generalize limF leaf root H h=lim at *;clear d0 d1 d2 d3 d4 d5 d6 d7 d8 d9 d10 d11 d12 d13 d14 d15 d16 d17;rcases Nat.eq_zero_or_pos H with hz|hz
 · rw [if_neg xo];generalize crossV n W root c.den=v at *;have hg:decide (0<(H:Int))=false:=by simp;omega
   clear BT C1;go_enter Tryz.func133,Tryz.ntmps133
   go_upto_region 1 with (fail)
   generalize hwz:w.alloc _=wz;have hh:=ec9 hwz (al9 (b:=w.heap.size) xsi);obtain ⟨c_t0,c_t1,c_t2,c_t3,c_t4,c_t5,c_t6,c_t7,c_t8⟩:=hh;have z_t:=elt hwz (alz (b:=w.heap.size) xsi);have HS:Hid (Below w.heap.size w wz):=by rw [←hwz];exact hid (br.alloc (Nat.le_refl _) _)
   clear hwz;have q0:=cg c_t0;have q1:=cg c_t1;have q2:=cg c_t2;have q3:=cg c_t3;have q4:=cg c_t4;have q5:=cg c_t5;have q6:=cg c_t6;have q7:=cg c_t7;have q8:=cg c_t8;refine wp_region_quiet_below xk xk ?_;repeat (go_big_quiet_step (fail))
   refine wpQuiet_nil ?_;intro _ hw';obtain ⟨⟨dq,osq⟩,hw''⟩:=hw';subst hw'';have hbq:=below_regrown wz dq osq;clear q0 q1 q2 q3 q4 q5 q6 q7 q8;generalize Sort.grow (redrawn wz dq) osq=wx at *;have HB2:=xv hbq HS;have hz2:=HB2.out.size;have hz_wx:=hbq.size;simp (disch:=omega) only [xcl hbq] at *;replace z_t:=blt hbq z_t;go_wp2_with fail
   refine (C2.out _).mono ?_;rintro e w3 ⟨rfl,hb3⟩;have hz_w3:=hb3.size;simp (disch:=omega) only [xcl hb3] at *;replace z_t:=blt hb3 z_t;have HB3:=hid (below_via hb3 HB2.out hz2);go_wp2
   go_ret
   exact ⟨rfl,HB3.out⟩
 · rw [if_pos hz];generalize crossV n W lim (c.den*H)=v at *;have hg:decide (0<(H:Int))=true:=by simp;omega
   have BT':=hid (fun W=>BT.out W hz);clear BT C2;generalize hdH:c.den*(H:Int)=dH at *;go_enter Tryz.func133,Tryz.ntmps133
   go_upto_region 1 with (fail)
   generalize hwz:w.alloc _=wz;have hh:=ec9 hwz (al9 (b:=w.heap.size) xsi);obtain ⟨c_t0,c_t1,c_t2,c_t3,c_t4,c_t5,c_t6,c_t7,c_t8⟩:=hh;have z_t:=elt hwz (alz (b:=w.heap.size) xsi);have HS:Hid (Below w.heap.size w wz):=by rw [←hwz];exact hid (br.alloc (Nat.le_refl _) _)
   clear hwz;have q0:=cg c_t0;have q1:=cg c_t1;have q2:=cg c_t2;have q3:=cg c_t3;have q4:=cg c_t4;have q5:=cg c_t5;have q6:=cg c_t6;have q7:=cg c_t7;have q8:=cg c_t8;refine wp_region_quiet_below xk xk ?_;repeat (go_big_quiet_step (fail))
   refine wpQuiet_nil ?_;intro _ hw';obtain ⟨⟨dq,osq⟩,hw''⟩:=hw';subst hw'';have hbq:=below_regrown wz dq osq;clear q0 q1 q2 q3 q4 q5 q6 q7 q8;generalize Sort.grow (redrawn wz dq) osq=wx at *;have HB2:=xv hbq HS;have hz2:=HB2.out.size;have hz_wx:=hbq.size;simp (disch:=omega) only [xcl hbq] at *;replace z_t:=blt hbq z_t;go_wp2_with fail
   refine (BT'.out _).mono ?_;rintro e w3 ⟨rfl,hb3⟩;have hz_w3:=hb3.size;simp (disch:=omega) only [xcl hb3] at *;replace z_t:=blt hb3 z_t;have HB3:=hid (below_via hb3 HB2.out hz2);have hz3:=HB3.out.size;go_wp2_with fail
   refine (C1.out _).mono ?_;rintro e w4' ⟨rfl,hb4⟩;have hz_w4':=hb4.size;simp (disch:=omega) only [xcl hb4] at *;replace z_t:=blt hb4 z_t;have HB4:=hid (below_via hb4 HB3.out hz3);go_wp2
   go_ret
   exact ⟨rfl,HB4.out⟩
def inB (c:Cfg) (h:Nat) (n:Int):Int:=if n≤wdC c h then 0 else 2
theorem fulB_in {c:Cfg} {size:Int} {a H h:Nat} (k:CapC c size a H) (hh:h≤H) {n:Int} (h1:wdC c h<n):fulB c H h n=false:=by
 obtain ⟨e,w4,w6,-⟩:=k.wd hh;obtain ⟨d0,d1,d2,d3,d4,d5,d6,d7,d8,d9,d10,d11,d12,d13,d14,d15,d16,d17⟩:=cfHead_num (cfMay_head k.may);have m0:wdC c h*c.rh≤wdC c h*c.den:=Int.mul_le_mul_of_nonneg_left xo xo;have m1:wdC c h*c.den<n*c.den:=Int.mul_lt_mul_of_pos_right h1 xo;unfold fulB;split
 · rw [decide_eq_false_iff_not];omega
 · rename_i hz
   rw [decide_eq_false_iff_not];have p1:c.lh*((H:Int)-h)≤c.den*((H:Int)-h):=Int.mul_le_mul_of_nonneg_right xo xo;have p2:c.rh*(h:Int)≤c.den*(h:Int):=Int.mul_le_mul_of_nonneg_right xo xo;have p3:c.den*((H:Int)-h)+c.den*(h:Int)=c.den*(H:Int):=by rw [←Int.mul_add];congr 1;omega
   have p4:wdC c h*(c.lh*((H:Int)-h)+c.rh*h)≤wdC c h*(c.den*(H:Int)):=Int.mul_le_mul_of_nonneg_left xo xo;have p5:wdC c h*(c.den*(H:Int))<n*(c.den*(H:Int)):=Int.mul_lt_mul_of_pos_right h1 (Int.mul_pos xo xo);have p6:n*(H:Int)*c.den=n*(c.den*(H:Int)):=by rw [Int.mul_assoc,Int.mul_comm (H:Int)]
   omega
theorem Full_ok (c:Cfg) (size:Int) (a H h:Nat) (k:CapC c size a H) (hh:h≤H) (n:Int) (h0:0≤n) (h1:n≤65537) (w:World):
    Calls Tryz.prog 100 #[.agg #[.int .u8 c.tag,.int .i64 c.most,.int .i64 c.seg,.int .i64 c.least,.int .i64 c.den,.int .i64 c.ll,.int .i64 c.rl,.int .i64 c.rh,.int .i64 c.lh],.int .i64 size,.int .i64 h,.int .i64 n] w (AnsB w (.tuple #[.bool (fulB c H h n),.int .i64 (inB c h n)])):=by
 unfold inB;by_cases hn:n≤wdC c h
 · rw [if_pos hn];obtain ⟨d0,d1,d2,d3,d4,d5,d6,d7,d8,d9,d10,d11,d12,d13,d14,d15,d16,d17⟩:=cfHead_num (cfMay_head k.may);have AK:=hid (fun W=>casked_in c size a H h k hh n h0 hn W);have DN:=hid (fun W=>density_ok c size a H h k hh n c.lh c.rh h0 xo xo xo xo xo W);have hr:=fulB_dns c H h n;generalize fulB c H h n=r at *;generalize dnsV c H h n c.lh c.rh=v at *;clear k hn;go_enter Tryz.func100,Tryz.ntmps100
   go_wp2_with fail
   refine (AK.out _).mono ?_;rintro e w1 ⟨rfl,hb1⟩;have hz_w1:=hb1.size;try simp only [World.size_alloc,World.size_setCell] at hz_w1
   have hh:=bc9 hb1 (al9 (b:=w.heap.size) xsi);obtain ⟨c_t0,c_t1,c_t2,c_t3,c_t4,c_t5,c_t6,c_t7,c_t8⟩:=hh;have z_t:=blt hb1 (alz (b:=w.heap.size) xsi);have hB1:Below w.heap.size w w1:=xbel;have HB1:=hid hB1;have hz1:=hB1.size;clear hb1 hB1;go_wp2_with fail
   refine (DN.out _).mono ?_;rintro e w3 ⟨rfl,hb3⟩;have hz_w3:=hb3.size;simp (disch:=omega) only [xcl hb3] at *;replace z_t:=blt hb3 z_t;have HB3:=hid (below_via hb3 HB1.out hz1);go_wp2
   go_ret2
   exact ⟨rfl,HB3.out⟩
 · rw [if_neg hn,fulB_in k hh xo];have AK:=hid (fun W=>casked_out c size a H h k hh n h0 xo W);clear k hn;go_enter Tryz.func100,Tryz.ntmps100
   go_wp2_with fail
   refine (AK.out _).mono ?_;rintro e w1 ⟨rfl,hb1⟩;have hz_w1:=hb1.size;try simp only [World.size_alloc,World.size_setCell] at hz_w1
   have hh:=bc9 hb1 (al9 (b:=w.heap.size) xsi);obtain ⟨c_t0,c_t1,c_t2,c_t3,c_t4,c_t5,c_t6,c_t7,c_t8⟩:=hh;have z_t:=blt hb1 (alz (b:=w.heap.size) xsi);have hB1:Below w.heap.size w w1:=xbel;go_wp2
   go_ret2
   exact ⟨rfl,hB1⟩
theorem Sparse_in (c:Cfg) (size:Int) (a H h:Nat) (k:CapC c size a H) (hh:h≤H) (n:Int) (h0:0≤n) (h1:n≤wdC c h) (w:World):
    Calls Tryz.prog 101 #[.agg #[.int .u8 c.tag,.int .i64 c.most,.int .i64 c.seg,.int .i64 c.least,.int .i64 c.den,.int .i64 c.ll,.int .i64 c.rl,.int .i64 c.rh,.int .i64 c.lh],.int .i64 size,.int .i64 h,.int .i64 n] w (AnsB w (.tuple #[.bool (sprB c size H h n),.int .i64 0])):=by
 obtain ⟨d0,d1,d2,d3,d4,d5,d6,d7,d8,d9,d10,d11,d12,d13,d14,d15,d16,d17⟩:=cfHead_num (cfMay_head k.may);obtain ⟨e,w4,w6,-⟩:=k.wd hh;have AK:=hid (fun W=>casked_in c size a H h k hh n h0 h1 W);have DN:=hid (fun W=>density_ok c size a H h k hh (n+1) c.ll c.rl xo xo xo xo xo xo W);have hw1:IntKind.i64.wrap (n+1)=n+1:=IntWalk.i64_in _ xo;have hl:=k.least;unfold sprB;by_cases hs:size=c.least
 · rw [decide_eq_true hs,Bool.true_or];have hs2:(size==c.least)=true:=by simp [hs]
   clear k h1 DN hs hl;generalize c.least=le at *;go_enter Tryz.func101,Tryz.ntmps101
   go_wp2_with fail
   refine (AK.out _).mono ?_;rintro e w1 ⟨rfl,hb1⟩;have hz_w1:=hb1.size;try simp only [World.size_alloc,World.size_setCell] at hz_w1
   have hh:=bc9 hb1 (al9 (b:=w.heap.size) xsi);obtain ⟨c_t0,c_t1,c_t2,c_t3,c_t4,c_t5,c_t6,c_t7,c_t8⟩:=hh;have z_t:=blt hb1 (alz (b:=w.heap.size) xsi);have hB1:Below w.heap.size w w1:=xbel;go_wp2
   go_ret2
   exact ⟨rfl,hB1⟩
 · rw [decide_eq_false hs,Bool.false_or];have hz:0<H:=by
    rcases hl with q|q
    · exact absurd q hs
    · exact q
   have hr:=sprB_dns c size H h n hz;rw [←hr];have hs2:(size==c.least)=false:=by simp [hs]
   clear k h1 hl hr hs;generalize dnsV c H h (n+1) c.ll c.rl=v at *;generalize c.least=le at *;go_enter Tryz.func101,Tryz.ntmps101
   go_wp2_with fail
   refine (AK.out _).mono ?_;rintro e w1 ⟨rfl,hb1⟩;have hz_w1:=hb1.size;try simp only [World.size_alloc,World.size_setCell] at hz_w1
   have hh:=bc9 hb1 (al9 (b:=w.heap.size) xsi);obtain ⟨c_t0,c_t1,c_t2,c_t3,c_t4,c_t5,c_t6,c_t7,c_t8⟩:=hh;have z_t:=blt hb1 (alz (b:=w.heap.size) xsi);have hB1:Below w.heap.size w w1:=xbel;have HB1:=hid hB1;have hz1:=hB1.size;clear hb1 hB1;go_wp2_with fail
   refine (DN.out _).mono ?_;rintro e w3 ⟨rfl,hb3⟩;have hz_w3:=hb3.size;simp (disch:=omega) only [xcl hb3] at *;replace z_t:=blt hb3 z_t;have HB3:=hid (below_via hb3 HB1.out hz1);go_wp2
   go_ret2
   exact ⟨rfl,HB3.out⟩
end
section
open Go.RowKit
theorem nat_and_pow {n e:Nat} (hn:n<9223372036854775808) (he:e≤62):n &&& (18446744073709551615-(2^e-1))=n/2^e*2^e:=by
 have h:2^e<2^64:=Nat.pow_lt_pow_right xo xo;have hp:=Nat.two_pow_pos e;rw [show 18446744073709551615-(2^e-1)=2^64-((2^e-1)+1) by omega];apply Nat.eq_of_testBit_eq;intro i;rw [Nat.testBit_and,Nat.testBit_two_pow_sub_succ xo,Nat.testBit_two_pow_sub_one];have h2:=cutLo_bit (x:=(n:Int)) xo e i;have h3:cutLo (n:Int) e=((n/2^e*2^e:Nat):Int):=by rw [cutLo];push_cast;rfl
 rw [h3,bitI_nat,bitI_nat] at h2;rw [h2];by_cases hi:i<64
 · by_cases hie:i<e
   · have:¬e≤i:=xo;simp [hi,hie,this]
   · have:e≤i:=xo;simp [hi,hie,this]
 · have:n.testBit i=false:=by
     have:=bitI_high (x:=(n:Int)) xo (k:=i) xo;rwa [bitI_nat] at this
   simp [this]
theorem i64_andNot_pow {n e:Nat} (hn:n<9223372036854775808) (he:e≤62):bits .andNot .i64 (n:Int) ((2^e-1:Nat):Int)=((n/2^e*2^e:Nat):Int):=by
 have h:2^e<2^64:=Nat.pow_lt_pow_right xo xo;have hd:=Nat.div_mul_le_self n (2^e);show IntKind.i64.wrap ((BitVec.ofInt 64 (n:Int) &&& ~~~BitVec.ofInt 64 ((2^e-1:Nat):Int)).toNat:Int)=_;rw [BitVec.toNat_and,BitVec.toNat_not,ofInt_u64 n xo,ofInt_u64 (2^e-1) xo,show 2^64-1-(2^e-1)=18446744073709551615-(2^e-1) by omega,nat_and_pow hn he,IntWalk.i64_in _ xo]
structure WinC (seg size:Int) (a H:Nat):Prop where
 seg:seg=((2^a:Nat):Int)
 all:size=((2^a*2^H:Nat):Int)
 a2:2≤a
 a6:a≤6
 big:2^a*2^H≤65536
theorem WinC.nums {seg size:Int} {a H:Nat} (k:WinC seg size a H):4≤seg∧seg≤64∧seg≤size∧size≤65536∧pwB seg=true∧pwB size=true∧size/seg=((2^H:Nat):Int)∧H≤14∧2^H≤16384:=by
 obtain ⟨k1,k2,k3,k4,k5⟩:=k;have h4:2^2≤2^a:=Nat.pow_le_pow_right xo k3;have h6:2^a≤2^6:=Nat.pow_le_pow_right xo k4;have h7:2^a*1≤2^a*2^H:=Nat.mul_le_mul_left _ (Nat.two_pow_pos H);have h8:2^2*2^H≤2^a*2^H:=Nat.mul_le_mul_right _ h4;have hH:H≤14:=by
  rcases Nat.lt_or_ge 14 H with q|q
  · have:=Nat.pow_lt_pow_right (a:=2) xo q;omega
  · exact q
 refine ⟨by omega,by omega,by omega,by omega,by rw [k1];exact pwB_two a,by rw [k2,←Nat.pow_add];exact pwB_two _,?_,hH,by omega⟩;rw [k1,k2,Int.natCast_mul,Int.mul_ediv_cancel_left _ (by have:=Nat.two_pow_pos a;omega)]
theorem winHigh_ok (seg size:Int) (a H:Nat) (k:WinC seg size a H) (w:World):
    Calls Tryz.prog 149 #[.int .i64 seg,.int .i64 size] w fun e w'=>e= .returned (.tuple #[.int .i64 H,.int .i64 0])∧w=w':=by
 obtain ⟨n1,n2,n3,n4,n5,n6,n7,n8,n9⟩:=k.nums;have P1:=hid (fun w=>Power_ok seg xo w);have P2:=hid (fun w=>Power_ok size xo w);rw [n5] at P1;rw [n6] at P2;have hp:=Nat.two_pow_pos H;have DN:=hid (fun w=>Down_ok (2^H) (size/seg) n7 xo xo w);rw [Nat.log2_two_pow] at DN;have hq2:size.tdiv seg=size/seg:=Int.tdiv_eq_ediv_of_nonneg xo;have hs0:(seg==0)=false:=by simp;omega
 have hqb:size/seg≤65536:=xo;have hq0:0≤size/seg:=xo;generalize size/seg=q at *;have hwq:IntKind.i64.wrap q=q:=IntWalk.i64_in _ xo;clear k n5 n6 n7 hp;go_enter Tryz.func149,Tryz.ntmps149
 go_wp2_with (first
   | (go_at_call 140;first|(with_reducible refine (P1.out _).mono ?_;rintro e w' ⟨rfl,rfl⟩)|(with_reducible refine (P2.out _).mono ?_;rintro e w' ⟨rfl,rfl⟩))
   | (go_at_call 81;refine (DN.out _).mono ?_;rintro e w' ⟨rfl,rfl⟩))
 go_ret2
 exact ⟨rfl,rfl⟩
theorem wasked_ok (seg size:Int) (a H:Nat) (k:WinC seg size a H) (p:Option Addr) (ca m:Nat) (xs:List Int) (hm:xs.length=m) (hm2:m≤1000) (hx:∀i,i<m→0≤xs.getD i 0∧xs.getD i 0<size) (w:World) (hw:IsRow .i64 w p xs):
    Calls Tryz.prog 130 #[.int .i64 seg,.int .i64 size,.slice p m ca] w fun e w'=>e= .returned (.tuple #[.int .i64 H,.int .i64 0])∧w=w':=by
 have WH:=hid (fun w=>winHigh_ok seg size a H k w);have HW:=hid hw;have HX:=hid hx;have HM:=hid hm;clear k hw hx hm;go_enter Tryz.func130,Tryz.ntmps130
 go_wp2_with (go_at_call 149;refine (WH.out _).mono ?_;rintro e w' ⟨rfl,rfl⟩)
 go_loopg [23] m (fun gk iv wr=>∃i:Nat,i+gk=m∧iv= .int .i64 i∧wr=w)
 case atStart=>exact ⟨0,by omega,rfl,rfl⟩
 case round=>
  obtain ⟨i,hi,rfl,rfl⟩:=hrel;by_cases hlt:i<m
  · obtain ⟨b,off,x,rfl,hxx,hc,-⟩:=HW.out.get (i:=i) (by rw [HM.out];exact hlt);have hb:=HX.out i hlt;rw [hxx.out] at hb;obtain ⟨hb1,hb2⟩:=hb;clear hxx;go_wp2
    go_roundg (gk-1)
    case measure=>omega
    case rel=>exact ⟨i+1,by omega,by go_num,rfl⟩
  · go_wp2
    go_ret2
    exact ⟨rfl,rfl⟩
theorem two_at_b {w:World} {b:Nat} {x y:Value} (h0:w.cell? ⟨b,0,none⟩=some x) (h1:w.cell? ⟨b,1,none⟩=some y):∀j v,[x,y][j]? =some v→w.cell? ⟨b,j,none⟩=some v:=by
 intro j v hj;match j,hj with
 | 0,hj=>cases hj;exact h0
 | 1,hj=>cases hj;exact h1
theorem around_ok (W at_ f:Int) (hb:bits .andNot .i64 at_ (W-1)=f) (h0:1≤W) (h1:W≤65536) (h2:0≤f) (h3:f≤65536) (w:World):
    Calls Tryz.prog 131 #[.int .i64 W,.int .i64 at_] w (AnsB w (.agg #[.int .i64 f,.int .i64 (f+W)])):=by
 have w1:IntKind.i64.wrap (W-1)=W-1:=IntWalk.i64_in _ xo;have w2:IntKind.i64.wrap (f+W)=f+W:=IntWalk.i64_in _ xo;go_enter Tryz.func131,Tryz.ntmps131
 go_wp2
 refine bodyPost_ret (results_c rfl rfl (run_loadVar_many [.int .i64 f,.int .i64 (f+W)] Tryz.underlying156 rfl xk (two_at_b ?_ ?_))) rfl ⟨rfl,?_⟩
 · (exact xcn)
 · (exact xcn)
 · (exact xbel)
theorem info_w2:(Tryz.prog.info? 156).map (fun i=>(i.zero,i.size,i.bytes))=some (some (.agg #[.int .i64 0,.int .i64 0]),2,16):=by kernel_rfl
def rowL (W m:Nat):List (Int×Int):=(List.range m).map fun i=>(((i*W:Nat):Int),((i*W:Nat):Int)+W)
theorem rowL_length (W m:Nat):(rowL W m).length=m:=by simp [rowL]
theorem rowL_succ (W m:Nat):rowL W (m+1)=rowL W m++[(((m*W:Nat):Int),((m*W:Nat):Int)+W)]:=by
 simp [rowL,List.range_succ]
theorem rowL_get {W m i:Nat} (h:i<m):(rowL W m).getD i (0,0)=(((i*W:Nat):Int),((i*W:Nat):Int)+W):=by
 rw [List.getD_eq_getElem?_getD,rowL,List.getElem?_map,List.getElem?_range h];rfl
def FreshW2 (w:World) (l:List (Int×Int)) (x:Value) (e:Ending) (w':World):Prop:=
  ∃v,e= .returned (.tuple #[v,x])∧w'.ownsRow w.heap.size 156 2 v l.length ((prI l).map (Value.int .i64))∧Below w.heap.size w w'
theorem Row_ok (seg size:Int) (a H h:Nat) (k:WinC seg size a H) (hh:h≤H) (w:World):
    Calls Tryz.prog 99 #[.int .i64 seg,.int .i64 size,.int .i64 h] w (FreshW2 w (rowL (2^a*2^h) (2^(H-h))) (.int .i64 0)):=by
 obtain ⟨n1,n2,n3,n4,n5,n6,n7,n8,n9⟩:=k.nums;have AK:=hid (fun w=>wasked_ok seg size a H k none 0 0 [] rfl xo (fun i hi=>by omega) w (fun i hi=>by simp at hi));have hWW:2^a*2^h=2^(a+h):=(Nat.pow_add ..).symm;have hall:size=((2^(a+h)*2^(H-h):Nat):Int):=by rw [k.all,Nat.pow_add,Nat.mul_assoc,←Nat.pow_add 2 h (H-h),Nat.add_sub_cancel' hh]
 have hshl:seg*2^h=((2^(a+h):Nat):Int):=by rw [k.seg,Nat.pow_add];push_cast;rfl
 have hah:a+h≤62:=by have:=k.a6;omega
 have AR:=hid (fun (i:Nat) (hi:i*2^(a+h)<65536) w=>(around_ok ((2^(a+h):Nat):Int) ((i*2^(a+h):Nat):Int) ((i*2^(a+h):Nat):Int) (by
     have:=i64_andNot_pow (n:=i*2^(a+h)) (e:=a+h) xo hah;rw [Nat.mul_div_cancel _ (Nat.two_pow_pos _)] at this;rw [←this];congr 1
     have:=Nat.two_pow_pos (a+h);omega) (by have:=Nat.two_pow_pos (a+h);omega) (by
     have:2^(a+h)*1≤2^(a+h)*2^(H-h):=Nat.mul_le_mul_left _ (Nat.two_pow_pos _);omega) xo xo w))
 rw [hWW];have hW0:=Nat.two_pow_pos (a+h);have hm0:=Nat.two_pow_pos (H-h);generalize 2^(a+h)=W at *;generalize 2^(H-h)=m at *;have hWb:W≤65536:=by
  have:W*1≤W*m:=Nat.mul_le_mul_left _ hm0;omega
 have hmb:m≤65536:=by
  have:1*m≤W*m:=Nat.mul_le_mul_right _ hW0;omega
 have hwr:IntKind.i64.wrap (seg*2^h)=(W:Int):=by rw [hshl];exact IntWalk.i64_in _ xo
 have hzb:((W*m:Nat):Int)≤65536:=xo;have HALL:=hid hall;have hHh:decide (H<h)=false:=by simp;omega
 clear k hWW hshl n5 n6 n7 hall;go_enter Tryz.func99,Tryz.ntmps99
 go_wp2_with (go_at_call 130;refine (AK.out _).mono ?_;rintro e w' ⟨rfl,rfl⟩)
 go_loopg [6,9] m (fun gk v iv wr=>∃i:Nat,i+gk=m∧iv= .int .i64 ((i*W:Nat):Int)∧Hid (wr.ownsRow w.heap.size 156 2 v i ((prI (rowL W i)).map (Value.int .i64)))∧Hid (Below w.heap.size w wr)∧w.heap.size≤wr.heap.size)
 case atStart=>exact ⟨0,by omega,by simp,hid (World.ownsRow_nil _ _ _ _),hid br,Nat.le_refl _⟩
 case round=>
  obtain ⟨i,hi,rfl,HO,HB,hz⟩:=hrel;obtain ⟨ao,co,rfl,-⟩:=owns_news HO.out;by_cases hlt:i<m
  · have hiw:(i+1)*W≤W*m:=by rw [Nat.mul_comm W];exact Nat.mul_le_mul_right _ hlt
    have hs:=rowL_succ W i;have hl1:(prI (rowL W i)).length=i*2:=by rw [prI_length,rowL_length]
    rw [Nat.succ_mul] at hiw;have A1:=hid (fun w=>AR.out i xo w);have HSU:=hid hs;have HAL:=HALL.out;have hgo:decide (((i*W:Nat):Int)<size)=true:=by simp;rw [HAL];omega
    have hnx:IntKind.i64.wrap (((i*W:Nat):Int)+W)=(((i+1)*W:Nat):Int):=by rw [Nat.succ_mul];push_cast;exact IntWalk.i64_in _ (by push_cast at hiw;omega)
    clear hs AR HAL;obtain ⟨f,hf⟩:∃f:Int,((i*W:Nat):Int)=f:=⟨_,rfl⟩
    rw [hf] at A1 HSU hgo hnx ⊢;clear hf hiw;go_wp2_with fail
    refine (A1.out _).mono ?_;rintro e w1 ⟨rfl,hb1⟩;have hz1:=hb1.size;have HB1:=xv hb1 HB;have HO1:=hid (owns_below HO.out hb1);clear hb1
    go_wp2_with (at_builtin;refine wpl_append (.tmp 34) (.tmp 40) 153 156 (.agg #[.int .i64 0,.int .i64 0]) 2 16 Tryz.underlying153 info_w2 rfl xdd xdd w.heap.size _ i _ (some ⟨w1.heap.size,0,none⟩) 1 1 [.int .i64 f,.int .i64 (f+W)] (HO1.out.alloc _) rfl xzc (new_cells _ [.int .i64 f,.int .i64 (f+W)] _ _ rfl) (by simp [Value.oneCell']) xo (by simp;omega) rfl rfl rfl rfl ?_;intro v2 w2 ho2 hg2 _
                 obtain ⟨a2,c2,rfl,-⟩:=owns_news ho2;have HO2:=hid ho2;have HG2:=hid hg2;clear ho2 hg2)
    have HB2:=hid ((HB1.out.alloc (by have:=HB1.out.size;omega) (.cells #[.int .i64 f,.int .i64 (f+W)] 156)).grown HG2.out (by simp;omega) (fun z hz=>by have:=(HO1.out.lt z hz).1;omega));have hz2:=HB2.out.size;go_roundg (gk-1)
    case measure=>omega
    case rel=>
     refine ⟨i+1,by omega,by first|rw [hnx]|rfl,hid ?_,HB2,hz2⟩;rw [HSU.out,prI_append,List.map_append];exact HO2.out
  · have him:m=i:=xo;subst him;have hgo:decide (((m*W:Nat):Int)<size)=false:=by simp;rw [HALL.out,Nat.mul_comm];omega
    clear AR;obtain ⟨f,hf⟩:∃f:Int,((m*W:Nat):Int)=f:=⟨_,rfl⟩
    rw [hf] at hgo ⊢;clear hf;go_wp2
    go_ret2
    refine ⟨_,rfl,?_,HB.out⟩;rw [rowL_length];exact HO.out
end
section
open Go.RowKit Go.Sort
theorem wpList_of_quiet {P:Program} {ops:Array Oper} {C:World→Prop} {Q:Exit→Act→World→Prop}:∀(l:List Oper) (a:Act) (w:World),C w→
    wpQuiet P ops C (fun a'=>∀w',C w'→Q .normal a' w') l a→wpList P ops Q l a w
  | [],_,w,hC,h=>h w hC
  | o::rest,a,w,hC,h=>by
   unfold wpQuiet at h;unfold wpList;split
   · rename_i hw
     rw [if_pos hw] at h;exact .inl (Oper.wp_of_quiet hC (fun a' w' hw' hk=>wpList_of_quiet rest a' w' hw' hk) h)
   · rename_i hw
     rw [if_neg hw] at h;exact wpList_of_quiet rest _ w hC h
theorem wp_text_quiet_below {P:Program} {id:Nat} {Q:Exit→Act→World→Prop} {a:Act} {w:World} {l:List Oper}
    (h:wpQuiet P l.toArray (fun w'=>∃p:Regrown,w'=grow (redrawn w p.d) p.os) (fun a'=>∀w',(∃p:Regrown,w'=grow (redrawn w p.d) p.os)→Q .normal a' w') l a):(Code.region id l.toArray false).wp P Q a w:=
  wp_region_lit (wpList_of_quiet (C:=fun w'=>∃p:Regrown,w'=grow (redrawn w p.d) p.os) l a w ⟨⟨w.drawn,#[]⟩,by rw [grow_empty];rfl⟩ h)
end
end Go.Proofs.YtbedhbpgnfffmaaGreat

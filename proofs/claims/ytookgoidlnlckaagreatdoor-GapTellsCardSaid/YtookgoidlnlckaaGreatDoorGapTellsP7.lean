/- Merged: ConfC, ConfF. -/
import Derived.Test.YtookgoidlnlckaaGreatDoorGapTellsP6
import Derived.Lib.QuietBelow
import Derived.Deep.CutRange
namespace Go.Proofs.YtookgoidlnlckaaGreatDoor
set_option maxRecDepth 100000
set_option maxHeartbeats 40000000
set_option linter.unusedVariables false
set_option linter.unusedSimpArgs false
section
open Go.RowKit Go.Shelf Go.Sort
attribute [local go_sem] Oper.semAt_some
theorem cell_heap {w:World} {g:Nat} {cs:Array Value} {e:TypeId} {fr:Nat×Nat} (h:w.heap[g]? =some (.cells cs e fr)) (i:Nat):w.cell? ⟨g,i,none⟩=cs[i]? :=by
 unfold World.cell?;simp [h]
theorem bools_heap {w:World} {g:Nat} {e:TypeId} {l:List Bool} (h:w.heap[g]? =some (.cells (l.map Value.bool).toArray e (0,0))):IsBools w g l:=by
 intro i hi;rw [cell_heap h];simp [List.getD_eq_getElem?_getD,hi]
def Fact.bools {T:TypeId} (e:TypeId) (he:e≠T) (n:Nat) (l:List Bool):Fact T:=⟨fun v w=>∃g,v= .slice (some ⟨g,0,none⟩) n n∧w.heap[g]? =some (.cells (l.map Value.bool).toArray e (0,0)),fun _ _ _ h ⟨g,h1,h2⟩=>⟨g,h1,h.same _ _ h2 (fun cs fr e'=>by cases e';exact he rfl)⟩⟩
def szL (c:Cfg):List Bool:=[decide (1≤c.tag),decide (c.tag≤3),decide (1≤c.most),decide (c.most≤16384),powB c.seg 4 64,powB c.least c.seg 256,decide (1≤c.den),decide (c.den≤64)]
def ptL (c:Cfg):List Bool:=[decide (0≤c.ll),decide (c.ll<c.rl),decide (c.rl<c.rh),decide (c.rh<c.lh),decide (c.lh≤c.den)]
def lsL (c:Cfg):List Bool:=[decide (c.den≤2*c.rh),decide (8*c.rl≤c.den),decide (2*c.den≤c.rl*c.least)]
theorem cfHead_split (c:Cfg):cfHead c=((szL c).all id&&(ptL c).all id&&(lsL c).all id):=by
 simp [cfHead,szL,ptL,lsL,Bool.and_assoc]
theorem szp_num {c:Cfg} (h1:(szL c).all id=true) (h2:(ptL c).all id=true):1≤c.den∧c.den≤64∧0≤c.ll∧c.ll<c.rl∧c.rl<c.rh∧c.rh<c.lh∧c.lh≤c.den∧c.rl*c.least≤64*256∧0≤c.rl*c.least:=by
 simp only [szL,ptL,List.all_cons,List.all_nil,Bool.and_true,id,Bool.and_eq_true,decide_eq_true_eq] at h1 h2;obtain ⟨a1,a2,a3,a4,a5,a6,a7,a8⟩:=h1;obtain ⟨b1,b2,b3,b4,b5⟩:=h2;have s:=powB_iff.1 a5;have l:=powB_iff.1 a6;have q:=mul_bd (show 0≤c.rl by omega) (show c.rl≤64 by omega) (show 0≤c.least by omega) l.2.1;exact ⟨a7,a8,b1,b2,b3,b4,b5,q.2,q.1⟩
theorem cfE_bad {c:Cfg} (h:cfHead c=false):cfE c=50:=by simp [cfE,cfMay,h]
theorem Check5_ok (c:Cfg) (w:World):
    Calls Tryz.prog 16 #[.agg #[.int .u8 c.tag,.int .i64 c.most,.int .i64 c.seg,.int .i64 c.least,.int .i64 c.den,.int .i64 c.ll,.int .i64 c.rl,.int .i64 c.rh,.int .i64 c.lh]] w (AnsB w (.int .i64 (cfE c))):=by
 obtain ⟨s,hs⟩:∃s,(szL c).all id=s:=⟨_,rfl⟩
 obtain ⟨p,hp⟩:∃p,(ptL c).all id=p:=⟨_,rfl⟩
 obtain ⟨q,hq⟩:∃q,(lsL c).all id=q:=⟨_,rfl⟩
 have hh:=cfHead_split c;rw [hs,hp,hq] at hh;obtain ⟨r,hr⟩:∃r,cfE c=r:=⟨_,rfl⟩
 rw [hr];have HH:=hid hh;have HR:=hid hr;have HP:=hid hp;have HQ:=hid hq;have HSZ:=hid hs;clear hh hr hp hq;go_enter Tryz.func16,Tryz.ntmps16
 go_upto_region 1 with (fail)
 generalize hwz:w.alloc (.cells #[.int .u8 c.tag,.int .i64 c.most,.int .i64 c.seg,.int .i64 c.least,.int .i64 c.den,.int .i64 c.ll,.int .i64 c.rl,.int .i64 c.rh,.int .i64 c.lh] 23)=wz;have c_t0:wz.cell? ⟨w.heap.size,0,none⟩=some (.int .u8 c.tag):=by rw [←hwz];(exact xcg)
 have c_t1:wz.cell? ⟨w.heap.size,1,none⟩=some (.int .i64 c.most):=by rw [←hwz];(exact xcg)
 have c_t2:wz.cell? ⟨w.heap.size,2,none⟩=some (.int .i64 c.seg):=by rw [←hwz];(exact xcg)
 have c_t3:wz.cell? ⟨w.heap.size,3,none⟩=some (.int .i64 c.least):=by rw [←hwz];(exact xcg)
 have c_t4:wz.cell? ⟨w.heap.size,4,none⟩=some (.int .i64 c.den):=by rw [←hwz];(exact xcg)
 have c_t5:wz.cell? ⟨w.heap.size,5,none⟩=some (.int .i64 c.ll):=by rw [←hwz];(exact xcg)
 have c_t6:wz.cell? ⟨w.heap.size,6,none⟩=some (.int .i64 c.rl):=by rw [←hwz];(exact xcg)
 have c_t7:wz.cell? ⟨w.heap.size,7,none⟩=some (.int .i64 c.rh):=by rw [←hwz];(exact xcg)
 have c_t8:wz.cell? ⟨w.heap.size,8,none⟩=some (.int .i64 c.lh):=by rw [←hwz];(exact xcg)
 have z_t:w.heap.size<wz.heap.size:=by rw [←hwz];(exact xlt)
 have HS:Hid (Below w.heap.size w wz):=by rw [←hwz];exact hid ((Below.refl _ _).alloc (Nat.le_refl _) _)
 have hz:w.heap.size+1=wz.heap.size:=by rw [←hwz];simp
 clear hwz;refine wp_region_facts 28 xk (N:=108) rfl xk xk (by decide) (fun w'=>Below wz.heap.size wz w') (Ext 23) (factAt [.is (.pointer (some ⟨w.heap.size,0,none⟩)),.is (.int .u8 c.tag),.is (.bool (decide (1≤c.tag))),.is (.pointer (some ⟨w.heap.size,0,none⟩)),.is (.int .u8 c.tag),.is (.bool (decide (c.tag≤3))),.is (.pointer (some ⟨w.heap.size,1,none⟩)),.is (.int .i64 c.most),.is (.bool (decide (1≤c.most))),.is (.pointer (some ⟨w.heap.size,1,none⟩)),.is (.int .i64 c.most),.is (.bool (decide (c.most≤16384))),.is (.pointer (some ⟨w.heap.size,2,none⟩)),.is (.int .i64 c.seg),.is (.bool (powB c.seg 4 64)),.is (.pointer (some ⟨w.heap.size,3,none⟩)),.is (.int .i64 c.least),.is (.pointer (some ⟨w.heap.size,2,none⟩)),.is (.int .i64 c.seg),.is (.bool (powB c.least c.seg 256)),.is (.pointer (some ⟨w.heap.size,4,none⟩)),.is (.int .i64 c.den),.is (.bool (decide (1≤c.den))),.is (.pointer (some ⟨w.heap.size,4,none⟩)),.is (.int .i64 c.den),.is (.bool (decide (c.den≤64))),.bools 4 (by decide) 8 (szL c),.is (.bool s)]) (factAt_stays _) (Below.refl _ _).drew ?steps ?fin
 case steps=>
     refine ⟨?o0,?o1,?o2,?o3,?o4,?o5,?o6,?o7,?o8,?o9,?o10,?o11,?o12,?o13,?o14,?o15,?o16,?o17,?o18,?o19,?o20,?o21,?o22,?o23,?o24,?o25,?o26,?o27,trivial⟩
     case o0=>
      intro u a w' ev hJ hd K hK;have e1:a.tmps.getD 1 undef= .pointer (some ⟨w.heap.size,0,none⟩):=ev 1 (by decide);have HK:=hid hK;clear hK ev hd;go_simp;exact HK.out _ _ xzc hJ rfl (Ext.refl _ _)
     case o1=>
      intro u a w' ev hJ hd K hK;have e5:a.tmps.getD 5 undef= .pointer (some ⟨w.heap.size,0,none⟩):=(ev 5 (by decide)).trans (hd 0 _ xk rfl);have g0:=(hJ.cell (p:=⟨w.heap.size,0,none⟩) xdo).trans c_t0;have HK:=hid hK;clear hK ev hd;go_simp;exact HK.out _ _ xzc hJ rfl (Ext.refl _ _)
     case o2=>
      intro u a w' ev hJ hd K hK;have e6:a.tmps.getD 6 undef= .int .u8 c.tag:=(ev 6 (by decide)).trans (hd 1 _ xk rfl);have HK:=hid hK;clear hK ev hd;go_simp;exact HK.out _ _ xzc hJ rfl (Ext.refl _ _)
     case o3=>
      intro u a w' ev hJ hd K hK;have e1:a.tmps.getD 1 undef= .pointer (some ⟨w.heap.size,0,none⟩):=ev 1 (by decide);have HK:=hid hK;clear hK ev hd;go_simp;exact HK.out _ _ xzc hJ rfl (Ext.refl _ _)
     case o4=>
      intro u a w' ev hJ hd K hK;have e8:a.tmps.getD 8 undef= .pointer (some ⟨w.heap.size,0,none⟩):=(ev 8 (by decide)).trans (hd 3 _ xk rfl);have g0:=(hJ.cell (p:=⟨w.heap.size,0,none⟩) xdo).trans c_t0;have HK:=hid hK;clear hK ev hd;go_simp;exact HK.out _ _ xzc hJ rfl (Ext.refl _ _)
     case o5=>
      intro u a w' ev hJ hd K hK;have e9:a.tmps.getD 9 undef= .int .u8 c.tag:=(ev 9 (by decide)).trans (hd 4 _ xk rfl);have HK:=hid hK;clear hK ev hd;go_simp;exact HK.out _ _ xzc hJ rfl (Ext.refl _ _)
     case o6=>
      intro u a w' ev hJ hd K hK;have e1:a.tmps.getD 1 undef= .pointer (some ⟨w.heap.size,0,none⟩):=ev 1 (by decide);have HK:=hid hK;clear hK ev hd;go_simp;exact HK.out _ _ xzc hJ rfl (Ext.refl _ _)
     case o7=>
      intro u a w' ev hJ hd K hK;have e11:a.tmps.getD 11 undef= .pointer (some ⟨w.heap.size,1,none⟩):=(ev 11 (by decide)).trans (hd 6 _ xk rfl);have g0:=(hJ.cell (p:=⟨w.heap.size,1,none⟩) xdo).trans c_t1;have HK:=hid hK;clear hK ev hd;go_simp;exact HK.out _ _ xzc hJ rfl (Ext.refl _ _)
     case o8=>
      intro u a w' ev hJ hd K hK;have e12:a.tmps.getD 12 undef= .int .i64 c.most:=(ev 12 (by decide)).trans (hd 7 _ xk rfl);have HK:=hid hK;clear hK ev hd;go_simp;exact HK.out _ _ xzc hJ rfl (Ext.refl _ _)
     case o9=>
      intro u a w' ev hJ hd K hK;have e1:a.tmps.getD 1 undef= .pointer (some ⟨w.heap.size,0,none⟩):=ev 1 (by decide);have HK:=hid hK;clear hK ev hd;go_simp;exact HK.out _ _ xzc hJ rfl (Ext.refl _ _)
     case o10=>
      intro u a w' ev hJ hd K hK;have e14:a.tmps.getD 14 undef= .pointer (some ⟨w.heap.size,1,none⟩):=(ev 14 (by decide)).trans (hd 9 _ xk rfl);have g0:=(hJ.cell (p:=⟨w.heap.size,1,none⟩) xdo).trans c_t1;have HK:=hid hK;clear hK ev hd;go_simp;exact HK.out _ _ xzc hJ rfl (Ext.refl _ _)
     case o11=>
      intro u a w' ev hJ hd K hK;have e15:a.tmps.getD 15 undef= .int .i64 c.most:=(ev 15 (by decide)).trans (hd 10 _ xk rfl);have HK:=hid hK;clear hK ev hd;go_simp;exact HK.out _ _ xzc hJ rfl (Ext.refl _ _)
     case o12=>
      intro u a w' ev hJ hd K hK;have e1:a.tmps.getD 1 undef= .pointer (some ⟨w.heap.size,0,none⟩):=ev 1 (by decide);have HK:=hid hK;clear hK ev hd;go_simp;exact HK.out _ _ xzc hJ rfl (Ext.refl _ _)
     case o13=>
      intro u a w' ev hJ hd K hK;have e17:a.tmps.getD 17 undef= .pointer (some ⟨w.heap.size,2,none⟩):=(ev 17 (by decide)).trans (hd 12 _ xk rfl);have g0:=(hJ.cell (p:=⟨w.heap.size,2,none⟩) xdo).trans c_t2;have HK:=hid hK;clear hK ev hd;go_simp;exact HK.out _ _ xzc hJ rfl (Ext.refl _ _)
     case o14=>
      intro u a w' ev hJ hd K hK;have e18:a.tmps.getD 18 undef= .int .i64 c.seg:=(ev 18 (by decide)).trans (hd 13 _ xk rfl);have HK:=hid hK;have HC:=hid (cpower_ok c.seg 4 64 xo w');clear hK ev hd;go_simp;refine HC.out.mono ?_;rintro e w'' ⟨rfl,rfl⟩;exact HK.out _ _ xzc hJ rfl (Ext.refl _ _)
     case o15=>
      intro u a w' ev hJ hd K hK;have e1:a.tmps.getD 1 undef= .pointer (some ⟨w.heap.size,0,none⟩):=ev 1 (by decide);have HK:=hid hK;clear hK ev hd;go_simp;exact HK.out _ _ xzc hJ rfl (Ext.refl _ _)
     case o16=>
      intro u a w' ev hJ hd K hK;have e20:a.tmps.getD 20 undef= .pointer (some ⟨w.heap.size,3,none⟩):=(ev 20 (by decide)).trans (hd 15 _ xk rfl);have g0:=(hJ.cell (p:=⟨w.heap.size,3,none⟩) xdo).trans c_t3;have HK:=hid hK;clear hK ev hd;go_simp;exact HK.out _ _ xzc hJ rfl (Ext.refl _ _)
     case o17=>
      intro u a w' ev hJ hd K hK;have e1:a.tmps.getD 1 undef= .pointer (some ⟨w.heap.size,0,none⟩):=ev 1 (by decide);have HK:=hid hK;clear hK ev hd;go_simp;exact HK.out _ _ xzc hJ rfl (Ext.refl _ _)
     case o18=>
      intro u a w' ev hJ hd K hK;have e22:a.tmps.getD 22 undef= .pointer (some ⟨w.heap.size,2,none⟩):=(ev 22 (by decide)).trans (hd 17 _ xk rfl);have g0:=(hJ.cell (p:=⟨w.heap.size,2,none⟩) xdo).trans c_t2;have HK:=hid hK;clear hK ev hd;go_simp;exact HK.out _ _ xzc hJ rfl (Ext.refl _ _)
     case o19=>
      intro u a w' ev hJ hd K hK;have e21:a.tmps.getD 21 undef= .int .i64 c.least:=(ev 21 (by decide)).trans (hd 16 _ xk rfl);have e23:a.tmps.getD 23 undef= .int .i64 c.seg:=(ev 23 (by decide)).trans (hd 18 _ xk rfl);have HK:=hid hK;have HC:=hid (cpower_ok c.least c.seg 256 xo w');clear hK ev hd;go_simp;refine HC.out.mono ?_;rintro e w'' ⟨rfl,rfl⟩;exact HK.out _ _ xzc hJ rfl (Ext.refl _ _)
     case o20=>
      intro u a w' ev hJ hd K hK;have e1:a.tmps.getD 1 undef= .pointer (some ⟨w.heap.size,0,none⟩):=ev 1 (by decide);have HK:=hid hK;clear hK ev hd;go_simp;exact HK.out _ _ xzc hJ rfl (Ext.refl _ _)
     case o21=>
      intro u a w' ev hJ hd K hK;have e25:a.tmps.getD 25 undef= .pointer (some ⟨w.heap.size,4,none⟩):=(ev 25 (by decide)).trans (hd 20 _ xk rfl);have g0:=(hJ.cell (p:=⟨w.heap.size,4,none⟩) xdo).trans c_t4;have HK:=hid hK;clear hK ev hd;go_simp;exact HK.out _ _ xzc hJ rfl (Ext.refl _ _)
     case o22=>
      intro u a w' ev hJ hd K hK;have e26:a.tmps.getD 26 undef= .int .i64 c.den:=(ev 26 (by decide)).trans (hd 21 _ xk rfl);have HK:=hid hK;clear hK ev hd;go_simp;exact HK.out _ _ xzc hJ rfl (Ext.refl _ _)
     case o23=>
      intro u a w' ev hJ hd K hK;have e1:a.tmps.getD 1 undef= .pointer (some ⟨w.heap.size,0,none⟩):=ev 1 (by decide);have HK:=hid hK;clear hK ev hd;go_simp;exact HK.out _ _ xzc hJ rfl (Ext.refl _ _)
     case o24=>
      intro u a w' ev hJ hd K hK;have e28:a.tmps.getD 28 undef= .pointer (some ⟨w.heap.size,4,none⟩):=(ev 28 (by decide)).trans (hd 23 _ xk rfl);have g0:=(hJ.cell (p:=⟨w.heap.size,4,none⟩) xdo).trans c_t4;have HK:=hid hK;clear hK ev hd;go_simp;exact HK.out _ _ xzc hJ rfl (Ext.refl _ _)
     case o25=>
      intro u a w' ev hJ hd K hK;have e29:a.tmps.getD 29 undef= .int .i64 c.den:=(ev 29 (by decide)).trans (hd 24 _ xk rfl);have HK:=hid hK;clear hK ev hd;go_simp;exact HK.out _ _ xzc hJ rfl (Ext.refl _ _)
     case o26=>
      intro u a w' ev hJ hd K hK;have e7:a.tmps.getD 7 undef= .bool (decide (1≤c.tag)):=(ev 7 (by decide)).trans (hd 2 _ xk rfl);have e10:a.tmps.getD 10 undef= .bool (decide (c.tag≤3)):=(ev 10 (by decide)).trans (hd 5 _ xk rfl);have e13:a.tmps.getD 13 undef= .bool (decide (1≤c.most)):=(ev 13 (by decide)).trans (hd 8 _ xk rfl);have e16:a.tmps.getD 16 undef= .bool (decide (c.most≤16384)):=(ev 16 (by decide)).trans (hd 11 _ xk rfl);have e19:a.tmps.getD 19 undef= .bool (powB c.seg 4 64):=(ev 19 (by decide)).trans (hd 14 _ xk rfl);have e24:a.tmps.getD 24 undef= .bool (powB c.least c.seg 256):=(ev 24 (by decide)).trans (hd 19 _ xk rfl);have e27:a.tmps.getD 27 undef= .bool (decide (1≤c.den)):=(ev 27 (by decide)).trans (hd 22 _ xk rfl);have e30:a.tmps.getD 30 undef= .bool (decide (c.den≤64)):=(ev 30 (by decide)).trans (hd 25 _ xk rfl);have f7:a.tmps[7]?.getD undef= .bool (decide (1≤c.tag)):=by rw [←Array.getD_eq_getD_getElem?];exact e7
      have f10:a.tmps[10]?.getD undef= .bool (decide (c.tag≤3)):=by rw [←Array.getD_eq_getD_getElem?];exact e10
      have f13:a.tmps[13]?.getD undef= .bool (decide (1≤c.most)):=by rw [←Array.getD_eq_getD_getElem?];exact e13
      have f16:a.tmps[16]?.getD undef= .bool (decide (c.most≤16384)):=by rw [←Array.getD_eq_getD_getElem?];exact e16
      have f19:a.tmps[19]?.getD undef= .bool (powB c.seg 4 64):=by rw [←Array.getD_eq_getD_getElem?];exact e19
      have f24:a.tmps[24]?.getD undef= .bool (powB c.least c.seg 256):=by rw [←Array.getD_eq_getD_getElem?];exact e24
      have f27:a.tmps[27]?.getD undef= .bool (decide (1≤c.den)):=by rw [←Array.getD_eq_getD_getElem?];exact e27
      have f30:a.tmps[30]?.getD undef= .bool (decide (c.den≤64)):=by rw [←Array.getD_eq_getD_getElem?];exact e30
      have HK:=hid hK;have hz':=hJ.size;clear hK ev hd;go_simp;exact HK.out _ _ xzc (hJ.alloc hz' _) ⟨_,rfl,alloc_new _ _⟩ (Ext.below ((Below.refl _ _).alloc (Nat.le_refl _) _))
     case o27=>
      intro u a w' ev hJ hd K hK;obtain ⟨g,h1,h2⟩:(Fact.bools (T:=23) 4 (by decide) 8 (szL c)).holds (u 31) w':=hd 26 _ xk rfl;have e31:a.tmps.getD 31 undef= .slice (some ⟨g,0,none⟩) 8 8:=(ev 31 (by decide)).trans h1;have HK:=hid hK;have HC:=hid (all_ok (szL c) 8 g (by simp [szL]) w' (bools_heap h2));rw [hs,show (szL c).length=8 from rfl] at HC;clear hK ev hd h1 h2;go_simp;refine HC.out.mono ?_;rintro e w'' ⟨rfl,rfl⟩;exact HK.out _ _ xzc hJ rfl (Ext.refl _ _)
 case fin=>
  intro u w2 hJ hG;have h1:u 32= .bool s:=hG 27 _ rfl;have hz_w2:=hJ.size;replace c_t0:w2.cell? ⟨w.heap.size,0,none⟩=some (.int .u8 c.tag):=(hJ.cell (p:=⟨w.heap.size,0,none⟩) xlt).trans xcn;replace c_t1:w2.cell? ⟨w.heap.size,1,none⟩=some (.int .i64 c.most):=(hJ.cell (p:=⟨w.heap.size,1,none⟩) xlt).trans xcn;replace c_t2:w2.cell? ⟨w.heap.size,2,none⟩=some (.int .i64 c.seg):=(hJ.cell (p:=⟨w.heap.size,2,none⟩) xlt).trans xcn;replace c_t3:w2.cell? ⟨w.heap.size,3,none⟩=some (.int .i64 c.least):=(hJ.cell (p:=⟨w.heap.size,3,none⟩) xlt).trans xcn;replace c_t4:w2.cell? ⟨w.heap.size,4,none⟩=some (.int .i64 c.den):=(hJ.cell (p:=⟨w.heap.size,4,none⟩) xlt).trans xcn;replace c_t5:w2.cell? ⟨w.heap.size,5,none⟩=some (.int .i64 c.ll):=(hJ.cell (p:=⟨w.heap.size,5,none⟩) xlt).trans xcn;replace c_t6:w2.cell? ⟨w.heap.size,6,none⟩=some (.int .i64 c.rl):=(hJ.cell (p:=⟨w.heap.size,6,none⟩) xlt).trans xcn;replace c_t7:w2.cell? ⟨w.heap.size,7,none⟩=some (.int .i64 c.rh):=(hJ.cell (p:=⟨w.heap.size,7,none⟩) xlt).trans xcn;replace c_t8:w2.cell? ⟨w.heap.size,8,none⟩=some (.int .i64 c.lh):=(hJ.cell (p:=⟨w.heap.size,8,none⟩) xlt).trans xcn;replace z_t:w.heap.size<w2.heap.size:=xo;have HB2:=hid (below_via hJ HS.out xo);have hz2:=hJ.size;clear hG hJ;simp only [mixFrame,mixL,dstsOf,List.take_succ_cons,List.take_zero,List.filterMap_cons,List.filterMap_nil,List.contains_cons,List.contains_nil,Nat.reduceBEq,Bool.or_false,Bool.false_or,Bool.or_true,Bool.true_or,if_true,if_false,Bool.false_eq_true,Nat.reduceAdd,Nat.zero_add,List.drop_succ_cons,List.drop_zero,h1];go_wp2_with fail
  refine (all_ok (ptL c) 5 w2.heap.size (by simp [ptL]) _ (bools_alloc w2 (ptL c) _)).mono ?_;rw [HP.out];rintro e w3 ⟨rfl,rfl⟩;have HB3:=hid (HB2.out.alloc (by omega:w.heap.size≤w2.heap.size) (.cells ((ptL c).map Value.bool).toArray 4));cases s with
  | false=>
   have hr50:r=50:=by rw [←HR.out];exact cfE_bad (by rw [HH.out];rfl)
   subst hr50;go_wp2
   go_ret
   exact ⟨rfl,HB3.out⟩
  | true=>
   cases p with
   | false=>
    have hr50:r=50:=by rw [←HR.out];exact cfE_bad (by rw [HH.out];rfl)
    subst hr50;go_wp2
    go_ret
    exact ⟨rfl,HB3.out⟩
   | true=>
    obtain ⟨d1,d2,d3,d4,d5,d6,d7,d8,d9⟩:=szp_num HSZ.out HP.out;have w1:IntKind.i64.wrap (2*c.rh)=2*c.rh:=IntWalk.i64_in _ xo;have w2':IntKind.i64.wrap (8*c.rl)=8*c.rl:=IntWalk.i64_in _ xo;have w3':IntKind.i64.wrap (2*c.den)=2*c.den:=IntWalk.i64_in _ xo;have w4':IntKind.i64.wrap (c.rl*c.least)=c.rl*c.least:=IntWalk.i64_in _ xo;go_wp2_with fail
    refine (all_ok (lsL c) 3 (w2.heap.size+1) (by simp [lsL]) _ ?_).mono ?_
    · have hb:=bools_alloc (w2.alloc (.cells ((ptL c).map Value.bool).toArray 4)) (lsL c) 4;rw [World.size_alloc] at hb;exact hb
    rw [HQ.out];rintro e w3 ⟨rfl,rfl⟩;have HB4:=hid (HB3.out.alloc (by simp;omega) (.cells ((lsL c).map Value.bool).toArray 4));clear HB3;cases q with
    | false=>
     have hr50:r=50:=by rw [←HR.out];exact cfE_bad (by rw [HH.out];rfl)
     subst hr50;go_wp2
     go_ret
     exact ⟨rfl,HB4.out⟩
    | true=>
     have hd:cfHead c=true:=HH.out;have hnum:=cfHead_num hd;have tb:=taks_bd hd (n:=c.most) xo xo;have TK:=hid (fun W=>takes_ok c hd c.most xo xo W);have HT:=hid (fun W=>height_ok c (taks c c.most) xo xo xo W);have hb:=htC_bd (c:=c) xo (size:=taks c c.most) xo xo;have m1:=mul_bd (show 0≤c.den by omega) d2 (show (0:Int)≤(htC c (taks c c.most):Nat) by omega) (show ((htC c (taks c c.most):Nat):Int)≤16 by omega);have m2:=mul_bd (show 0≤c.lh-c.rh by omega) (show c.lh-c.rh≤64 by omega) (show 0≤c.seg by omega) (show c.seg≤64 by omega);have he:r=if c.den*(htC c (taks c c.most):Nat)≤(c.lh-c.rh)*c.seg then 0 else 50:=by
      rw [←HR.out,cfE,cfMay,hd,Bool.true_and];simp
     have HE:=hid he;clear he hb tb hnum hd;generalize taks c c.most=T at *;generalize ((htC c T:Nat):Int)=HHt at *;have w5:IntKind.i64.wrap (c.den*HHt)=c.den*HHt:=IntWalk.i64_in _ xo;have w6:IntKind.i64.wrap ((c.lh-c.rh)*c.seg)=(c.lh-c.rh)*c.seg:=IntWalk.i64_in _ xo;have w7:IntKind.i64.wrap (c.lh-c.rh)=c.lh-c.rh:=IntWalk.i64_in _ xo;clear m1 m2;go_upto_region 5 with (fail)
     generalize hwy:(w2.alloc (.cells ((ptL c).map Value.bool).toArray 4)).alloc (.cells #[.bool (decide (c.den≤2*c.rh)),.bool (decide (8*c.rl≤c.den)),.bool (decide (2*c.den≤c.rl*c.least))] 4)=wy;replace c_t0:wy.cell? ⟨w.heap.size,0,none⟩=some (.int .u8 c.tag):=by rw [←hwy];(exact xcg)
     replace c_t1:wy.cell? ⟨w.heap.size,1,none⟩=some (.int .i64 c.most):=by rw [←hwy];(exact xcg)
     replace c_t2:wy.cell? ⟨w.heap.size,2,none⟩=some (.int .i64 c.seg):=by rw [←hwy];(exact xcg)
     replace c_t3:wy.cell? ⟨w.heap.size,3,none⟩=some (.int .i64 c.least):=by rw [←hwy];(exact xcg)
     replace c_t4:wy.cell? ⟨w.heap.size,4,none⟩=some (.int .i64 c.den):=by rw [←hwy];(exact xcg)
     replace c_t5:wy.cell? ⟨w.heap.size,5,none⟩=some (.int .i64 c.ll):=by rw [←hwy];(exact xcg)
     replace c_t6:wy.cell? ⟨w.heap.size,6,none⟩=some (.int .i64 c.rl):=by rw [←hwy];(exact xcg)
     replace c_t7:wy.cell? ⟨w.heap.size,7,none⟩=some (.int .i64 c.rh):=by rw [←hwy];(exact xcg)
     replace c_t8:wy.cell? ⟨w.heap.size,8,none⟩=some (.int .i64 c.lh):=by rw [←hwy];(exact xcg)
     replace z_t:w.heap.size<wy.heap.size:=by rw [←hwy];(exact xlt)
     have HB5:Hid (Below w.heap.size w wy):=by rw [←hwy];exact HB4
     clear hwy HB4;obtain ⟨X,hX⟩:∃X,c.den*HHt=X:=⟨_,rfl⟩
     obtain ⟨Y,hY⟩:∃Y,(c.lh-c.rh)*c.seg=Y:=⟨_,rfl⟩
     rw [hX] at w5 HE;rw [hY] at w6 HE;have K0:=hid (fun d os=>Calls.regrown_of (w:=wy) (d:=d) (os:=os) (TK.out (grow (redrawn wy d) os)));have K1:=hid (fun d os=>Calls.regrown_of (w:=wy) (d:=d) (os:=os) (HT.out (grow (redrawn wy d) os)));have q0:=cell_regrown c_t0;have q1:=cell_regrown c_t1;have q2:=cell_regrown c_t2;have q3:=cell_regrown c_t3;have q4:=cell_regrown c_t4;have q5:=cell_regrown c_t5;have q6:=cell_regrown c_t6;have q7:=cell_regrown c_t7;have q8:=cell_regrown c_t8;refine wp_region_quiet_below xk xk ?_;repeat (go_big_quiet_step (first|exact K0.out _ _|exact K1.out _ _))
     refine wpQuiet_nil ?_;intro _ hw';obtain ⟨⟨dq,osq⟩,hw''⟩:=hw';subst hw'';have hbq:=below_regrown wy dq osq;clear q0 q1 q2 q3 q4 q5 q6 q7 q8 K0 K1;have HB6:=xv hbq HB5;clear hbq HB5;generalize Sort.grow (redrawn wy dq) osq=wx at *;by_cases hc:X≤Y
     · have hr0:=HE.out;rw [if_pos hc] at hr0;subst hr0;go_wp2
       go_ret
       exact ⟨rfl,HB6.out⟩
     · have hr0:=HE.out;rw [if_neg hc] at hr0;subst hr0;go_wp2
       go_ret
       exact ⟨rfl,HB6.out⟩
end
section
open Go.RowKit Go.Shelf Go.Sort
theorem cfMay_head {c:Cfg} (h:cfMay c=true):cfHead c=true:=by
 simp only [cfMay,Bool.and_eq_true] at h;exact h.1
theorem cfE_ok {c:Cfg} (h:cfMay c=true):cfE c=0:=by simp [cfE,h]
theorem High_no (c:Cfg) (hc:cfMay c=true) (size:Int) (hp:powB size c.least (taks c c.most)=false) (w:World):
    Calls Tryz.prog 38 #[.agg #[.int .u8 c.tag,.int .i64 c.most,.int .i64 c.seg,.int .i64 c.least,.int .i64 c.den,.int .i64 c.ll,.int .i64 c.rl,.int .i64 c.rh,.int .i64 c.lh],.int .i64 size] w (AnsB w (.tuple #[.int .i64 0,.int .i64 2])):=by
 have hd:=cfMay_head hc;obtain ⟨d0,d1,d2,d3,d4,d5,d6,d7,d8,d9,d10,d11,d12,d13,d14,d15,d16,d17⟩:=cfHead_num hd;have tb:=taks_bd hd (n:=c.most) xo xo;have CK:=hid (fun W=>Check5_ok c W);rw [cfE_ok hc] at CK;have TK:=hid (fun W=>takes_ok c hd c.most xo xo W);have PW:=hid (fun W=>cpower_ok size c.least (taks c c.most) xo W);rw [hp] at PW;clear hd hc hp;generalize taks c c.most=T at *;go_enter Tryz.func38,Tryz.ntmps38
 go_wp2_with fail
 refine (CK.out _).mono ?_;rintro e w1 ⟨rfl,hb1⟩;have hz_w1:=hb1.size;try simp only [World.size_alloc,World.size_setCell] at hz_w1
 have hh:=bc9 hb1 (al9 (b:=w.heap.size) (by simp));obtain ⟨c_t0,c_t1,c_t2,c_t3,c_t4,c_t5,c_t6,c_t7,c_t8⟩:=hh;have z_t:=blt hb1 (alz (b:=w.heap.size) (by simp));have hB1:Below w.heap.size w w1:=xbel;have HB1:=hid hB1;clear hb1 hB1;go_upto_region 4 with (fail)
 have K0:=hid (fun d os=>Calls.regrown_of (w:=w1) (d:=d) (os:=os) (TK.out (grow (redrawn w1 d) os)));have K1:=hid (fun d os=>Calls.regrown_of (w:=w1) (d:=d) (os:=os) ((PW.out (grow (redrawn w1 d) os)).mono fun _ _ h=>⟨h.1,h.2 ▸ Below.refl _ _⟩));have q0:=cell_regrown c_t0;have q1:=cell_regrown c_t1;have q2:=cell_regrown c_t2;have q3:=cell_regrown c_t3;have q4:=cell_regrown c_t4;have q5:=cell_regrown c_t5;have q6:=cell_regrown c_t6;have q7:=cell_regrown c_t7;have q8:=cell_regrown c_t8;refine wp_region_quiet_below xk xk ?_;repeat (go_big_quiet_step (first|exact K0.out _ _|exact K1.out _ _))
 refine wpQuiet_nil ?_;intro _ hw';obtain ⟨⟨dq,osq⟩,hw''⟩:=hw';subst hw'';have hbq:=below_regrown w1 dq osq;clear q0 q1 q2 q3 q4 q5 q6 q7 q8 K0 K1;generalize Sort.grow (redrawn w1 dq) osq=wx at *;have HB2:=xv hbq HB1;go_wp2
 go_ret2
 exact ⟨rfl,HB2.out⟩
theorem High_in (c:Cfg) (hc:cfMay c=true) (size:Int) (hp:powB size c.least (taks c c.most)=true) (w:World):
    Calls Tryz.prog 38 #[.agg #[.int .u8 c.tag,.int .i64 c.most,.int .i64 c.seg,.int .i64 c.least,.int .i64 c.den,.int .i64 c.ll,.int .i64 c.rl,.int .i64 c.rh,.int .i64 c.lh],.int .i64 size] w (AnsB w (.tuple #[.int .i64 (htC c size:Nat),.int .i64 0])):=by
 have hd:=cfMay_head hc;obtain ⟨d0,d1,d2,d3,d4,d5,d6,d7,d8,d9,d10,d11,d12,d13,d14,d15,d16,d17⟩:=cfHead_num hd;have tb:=taks_bd hd (n:=c.most) xo xo;have CK:=hid (fun W=>Check5_ok c W);rw [cfE_ok hc] at CK;have TK:=hid (fun W=>takes_ok c hd c.most xo xo W);have PW:=hid (fun W=>cpower_ok size c.least (taks c c.most) xo W);have sb:=powB_iff.1 hp;have HT:=hid (fun W=>height_ok c size xo xo xo W);rw [hp] at PW;clear hd hc hp;generalize taks c c.most=T at *;generalize ((htC c size:Nat):Int)=HH at *;clear sb tb;go_enter Tryz.func38,Tryz.ntmps38
 go_wp2_with fail
 refine (CK.out _).mono ?_;rintro e w1 ⟨rfl,hb1⟩;have hz_w1:=hb1.size;try simp only [World.size_alloc,World.size_setCell] at hz_w1
 have hh:=bc9 hb1 (al9 (b:=w.heap.size) (by simp));obtain ⟨c_t0,c_t1,c_t2,c_t3,c_t4,c_t5,c_t6,c_t7,c_t8⟩:=hh;have z_t:=blt hb1 (alz (b:=w.heap.size) (by simp));have hB1:Below w.heap.size w w1:=xbel;have HB1:=hid hB1;clear hb1 hB1;go_upto_region 4 with (fail)
 have K0:=hid (fun d os=>Calls.regrown_of (w:=w1) (d:=d) (os:=os) (TK.out (grow (redrawn w1 d) os)));have K1:=hid (fun d os=>Calls.regrown_of (w:=w1) (d:=d) (os:=os) ((PW.out (grow (redrawn w1 d) os)).mono fun _ _ h=>⟨h.1,h.2 ▸ Below.refl _ _⟩));have q0:=cell_regrown c_t0;have q1:=cell_regrown c_t1;have q2:=cell_regrown c_t2;have q3:=cell_regrown c_t3;have q4:=cell_regrown c_t4;have q5:=cell_regrown c_t5;have q6:=cell_regrown c_t6;have q7:=cell_regrown c_t7;have q8:=cell_regrown c_t8;refine wp_region_quiet_below xk xk ?_;repeat (go_big_quiet_step (first|exact K0.out _ _|exact K1.out _ _))
 refine wpQuiet_nil ?_;intro _ hw';obtain ⟨⟨dq,osq⟩,hw''⟩:=hw';subst hw'';have hbq:=below_regrown w1 dq osq;clear q0 q1 q2 q3 q4 q5 q6 q7 q8 K0 K1;generalize Sort.grow (redrawn w1 dq) osq=wx at *;have HB2:=xv hbq HB1;have hz_wx:=hbq.size;simp (disch:=omega) only [xcl hbq] at c_t0 c_t1 c_t2 c_t3 c_t4 c_t5 c_t6 c_t7 c_t8;replace z_t:=blt hbq z_t;have hz2:=HB2.out.size;go_wp2_with fail
 refine (HT.out _).mono ?_;rintro e w3 ⟨rfl,hb3⟩;have hz_w3:=hb3.size;simp (disch:=omega) only [xcl hb3] at c_t0 c_t1 c_t2 c_t3 c_t4 c_t5 c_t6 c_t7 c_t8;replace z_t:=blt hb3 z_t;have HB3:=hid (below_via hb3 HB2.out hz2);go_wp2
 go_ret2
 exact ⟨rfl,HB3.out⟩
theorem Cap_in (c:Cfg) (hc:cfMay c=true) (n:Int) (h0:0≤n) (h1:n≤c.most) (w:World):
    Calls Tryz.prog 27 #[.agg #[.int .u8 c.tag,.int .i64 c.most,.int .i64 c.seg,.int .i64 c.least,.int .i64 c.den,.int .i64 c.ll,.int .i64 c.rl,.int .i64 c.rh,.int .i64 c.lh],.int .i64 n] w (AnsB w (.tuple #[.int .i64 (taks c n),.int .i64 0])):=by
 have hd:=cfMay_head hc;obtain ⟨d0,d1,d2,d3,d4,d5,d6,d7,d8,d9,d10,d11,d12,d13,d14,d15,d16,d17⟩:=cfHead_num hd;have CK:=hid (fun W=>Check5_ok c W);rw [cfE_ok hc] at CK;have TK:=hid (fun W=>takes_ok c hd n xo xo W);clear hd hc;generalize taks c n=T at *;clear d0 d1 d2 d4 d5 d6 d7 d8 d9 d10 d11 d12 d13 d14 d15 d16 d17;go_enter Tryz.func27,Tryz.ntmps27
 go_wp2_with fail
 refine (CK.out _).mono ?_;rintro e w1 ⟨rfl,hb1⟩;have hz_w1:=hb1.size;try simp only [World.size_alloc,World.size_setCell] at hz_w1
 have hh:=bc9 hb1 (al9 (b:=w.heap.size) (by simp));obtain ⟨c_t0,c_t1,c_t2,c_t3,c_t4,c_t5,c_t6,c_t7,c_t8⟩:=hh;have z_t:=blt hb1 (alz (b:=w.heap.size) (by simp));have hB1:Below w.heap.size w w1:=xbel;have HB1:=hid hB1;have hz1:=hB1.size;clear hb1 hB1;go_wp2_with fail
 refine (TK.out _).mono ?_;rintro e w3 ⟨rfl,hb3⟩;have hz_w3:=hb3.size;simp (disch:=omega) only [xcl hb3] at c_t0 c_t1 c_t2 c_t3 c_t4 c_t5 c_t6 c_t7 c_t8;replace z_t:=blt hb3 z_t;have HB3:=hid (below_via hb3 HB1.out hz1);go_wp2
 go_ret2
 exact ⟨rfl,HB3.out⟩
structure CapC (c:Cfg) (size:Int) (a H:Nat):Prop where
 may:cfMay c=true
 cap:powB size c.least (taks c c.most)=true
 seg:c.seg=((2^a:Nat):Int)
 a2:2≤a
 a6:a≤6
 all:size=((2^a*2^H:Nat):Int)
 big:2^a*2^H≤65536
 hgt:htC c size=H
 h14:H≤14
theorem pow2_bd {a lo hi:Nat} (h1:2^lo≤2^a) (h2:2^a≤2^hi):lo≤a∧a≤hi:=
  ⟨(Nat.pow_le_pow_iff_right xo).1 h1,(Nat.pow_le_pow_iff_right xo).1 h2⟩
theorem capC_of {c:Cfg} {size:Int} (hc:cfMay c=true) (hp:powB size c.least (taks c c.most)=true):∃a H,CapC c size a H:=by
 have hd:=cfMay_head hc;obtain ⟨d0,d1,d2,d3,d4,d5,d6,d7,d8,d9,d10,d11,d12,d13,d14,d15,d16,d17⟩:=cfHead_num hd;have tb:=taks_bd hd (n:=c.most) xo xo;have hf:=cfHead_facts hd;obtain ⟨-,-,a,ea⟩:=powB_nat hf.2.2.2.2.1;obtain ⟨l1,l2,b,eb⟩:=powB_nat hp;have ha:=pow2_bd (a:=a) (lo:=2) (hi:=6) xo xo;have hab:a≤b:=(Nat.pow_le_pow_iff_right (a:=2) xo).1 xo;obtain ⟨H,rfl⟩:∃H,b=a+H:=⟨b-a,by omega⟩
 rw [Nat.pow_add] at eb;have hb:=pow2_bd (a:=a+H) (lo:=0) (hi:=16) (by rw [Nat.pow_add];omega) (by rw [Nat.pow_add];omega);refine ⟨a,H,hc,hp,ea,ha.1,ha.2,eb,by omega,?_,by omega⟩;rw [htC,ea,eb,Int.natCast_mul,Int.mul_ediv_cancel_left _ (by have:=Nat.two_pow_pos a;omega),Int.toNat_natCast,Nat.log2_two_pow]
theorem CapC.wd {c:Cfg} {size:Int} {a H h:Nat} (k:CapC c size a H) (hh:h≤H):wdC c h=((2^a*2^h:Nat):Int)∧4≤wdC c h∧wdC c h≤65536∧2^a*2^h≤2^a*2^H:=by
 have h1:=wdC_bd k.seg k.big hh;have e:wdC c h=((2^a*2^h:Nat):Int):=by rw [wdC,k.seg];push_cast;rfl
 have h4:2^2≤2^a:=Nat.pow_le_pow_right xo k.a2;have h5:=Nat.mul_le_mul h4 (Nat.two_pow_pos h);have h6:2^a*2^h≤2^a*2^H:=Nat.mul_le_mul_left _ (Nat.pow_le_pow_right xo hh);exact ⟨e,by omega,h1.2,h6⟩
theorem CapC.least {c:Cfg} {size:Int} {a H:Nat} (k:CapC c size a H):size=c.least∨0<H:=by
 have l:=powB_iff.1 k.cap;obtain ⟨d0,d1,d2,d3,d4,d5,d6,d7,d8,d9,d10,d11,d12,d13,d14,d15,d16,d17⟩:=cfHead_num (cfMay_head k.may);rcases Nat.eq_zero_or_pos H with e|e
 · left;have:=k.all;have:=k.seg;rw [e] at *;simp at *;omega
 · exact Or.inr e
theorem casked_in (c:Cfg) (size:Int) (a H h:Nat) (k:CapC c size a H) (hh:h≤H) (n:Int) (h0:0≤n) (h1:n≤wdC c h) (w:World):
    Calls Tryz.prog 53 #[.agg #[.int .u8 c.tag,.int .i64 c.most,.int .i64 c.seg,.int .i64 c.least,.int .i64 c.den,.int .i64 c.ll,.int .i64 c.rl,.int .i64 c.rh,.int .i64 c.lh],.int .i64 size,.int .i64 h,.int .i64 n] w (AnsB w (.tuple #[.int .i64 H,.int .i64 0])):=by
 obtain ⟨e,w4,w6,-⟩:=k.wd hh;have e2:c.seg*2^h=wdC c h:=rfl;have hH:=k.h14;have HI:=hid (fun W=>High_in c k.may size k.cap W);rw [k.hgt] at HI;clear k e;generalize wdC c h=W at *;have hwr:IntKind.i64.wrap (c.seg*2^h)=W:=by rw [e2];exact IntWalk.i64_in _ xo
 clear e2;go_enter Tryz.func53,Tryz.ntmps53
 go_wp2_with fail
 refine (HI.out _).mono ?_;rintro e w1 ⟨rfl,hb1⟩;have hz_w1:=hb1.size;try simp only [World.size_alloc,World.size_setCell] at hz_w1
 have hh:=bc9 hb1 (al9 (b:=w.heap.size) (by simp));obtain ⟨c_t0,c_t1,c_t2,c_t3,c_t4,c_t5,c_t6,c_t7,c_t8⟩:=hh;have z_t:=blt hb1 (alz (b:=w.heap.size) (by simp));have hB1:Below w.heap.size w w1:=xbel;have HB1:=hid hB1;clear hb1 hB1;go_wp2
 go_ret2
 exact ⟨rfl,HB1.out⟩
theorem casked_out (c:Cfg) (size:Int) (a H h:Nat) (k:CapC c size a H) (hh:h≤H) (n:Int) (h0:0≤n) (h1:wdC c h<n) (w:World):
    Calls Tryz.prog 53 #[.agg #[.int .u8 c.tag,.int .i64 c.most,.int .i64 c.seg,.int .i64 c.least,.int .i64 c.den,.int .i64 c.ll,.int .i64 c.rl,.int .i64 c.rh,.int .i64 c.lh],.int .i64 size,.int .i64 h,.int .i64 n] w (AnsB w (.tuple #[.int .i64 0,.int .i64 2])):=by
 obtain ⟨e,w4,w6,-⟩:=k.wd hh;have e2:c.seg*2^h=wdC c h:=rfl;have hH:=k.h14;have HI:=hid (fun W=>High_in c k.may size k.cap W);rw [k.hgt] at HI;clear k e;generalize wdC c h=W at *;have hwr:IntKind.i64.wrap (c.seg*2^h)=W:=by rw [e2];exact IntWalk.i64_in _ xo
 clear e2;go_enter Tryz.func53,Tryz.ntmps53
 go_wp2_with fail
 refine (HI.out _).mono ?_;rintro e w1 ⟨rfl,hb1⟩;have hz_w1:=hb1.size;try simp only [World.size_alloc,World.size_setCell] at hz_w1
 have hh:=bc9 hb1 (al9 (b:=w.heap.size) (by simp));obtain ⟨c_t0,c_t1,c_t2,c_t3,c_t4,c_t5,c_t6,c_t7,c_t8⟩:=hh;have z_t:=blt hb1 (alz (b:=w.heap.size) (by simp));have hB1:Below w.heap.size w w1:=xbel;have HB1:=hid hB1;clear hb1 hB1;go_wp2
 go_ret2
 exact ⟨rfl,HB1.out⟩
theorem density_ok (c:Cfg) (size:Int) (a H h:Nat) (k:CapC c size a H) (hh:h≤H) (n leaf root:Int) (h0:0≤n) (h1:n≤65538) (l0:0≤leaf) (l1:leaf≤64) (r0:0≤root) (r1:root≤64) (w:World):
    Calls Tryz.prog 54 #[.agg #[.int .u8 c.tag,.int .i64 c.most,.int .i64 c.seg,.int .i64 c.least,.int .i64 c.den,.int .i64 c.ll,.int .i64 c.rl,.int .i64 c.rh,.int .i64 c.lh],.int .i64 H,.int .i64 h,.int .i64 n,.int .i64 leaf,.int .i64 root] w (AnsB w (.int .i64 (dnsV c H h n leaf root))):=by
 obtain ⟨e,w4,w6,-⟩:=k.wd hh;have e2:c.seg*2^h=wdC c h:=rfl;have hH:=k.h14;obtain ⟨d0,d1,d2,d3,d4,d5,d6,d7,d8,d9,d10,d11,d12,d13,d14,d15,d16,d17⟩:=cfHead_num (cfMay_head k.may);have m1:=mul_bd (show 0≤c.den by omega) d9 (show (0:Int)≤(H:Int) by omega) (show (H:Int)≤14 by omega);have m2:=mul_bd l0 l1 (show (0:Int)≤(H:Int) by omega) (show (H:Int)≤14 by omega);have m3:=mul_bd l0 l1 (show (0:Int)≤(H:Int)-h by omega) (show (H:Int)-h≤14 by omega);have m4:=mul_bd r0 r1 (show (0:Int)≤(h:Int) by omega) (show (h:Int)≤14 by omega);have m5:=mul_bd l0 l1 (show (0:Int)≤(h:Int) by omega) (show (h:Int)≤14 by omega);have el:=limF_eq leaf root H h;have el2:limF leaf root H h=leaf*H+(root-leaf)*h:=rfl;have e3:(root-leaf)*h=root*h-leaf*h:=Int.sub_mul ..;have bl:0≤limF leaf root H h∧limF leaf root H h≤2000:=xo;have x1:IntKind.i64.wrap (leaf*H)=leaf*H:=IntWalk.i64_in _ xo;have x2:IntKind.i64.wrap ((root-leaf)*h)=(root-leaf)*h:=IntWalk.i64_in _ xo;have x3:IntKind.i64.wrap (leaf*H+(root-leaf)*h)=leaf*H+(root-leaf)*h:=IntWalk.i64_in _ xo;have x4:IntKind.i64.wrap (root-leaf)=root-leaf:=IntWalk.i64_in _ xo;have x5:IntKind.i64.wrap (c.den*H)=c.den*H:=IntWalk.i64_in _ xo;unfold dnsV;have BT:=hid (fun W (hp:0<H)=>Between_ok leaf root h H ⟨by omega,by omega⟩ ⟨by omega,by omega⟩ ⟨by omega,by omega⟩ ⟨by omega,by omega⟩ xo xo xo (limF leaf root H h) rfl x1 x2 x3 x4 W);have C1:=hid (fun W=>Cross_ok n (wdC c h) (limF leaf root H h) (c.den*H) ⟨by omega,by omega⟩ ⟨by omega,by omega⟩ ⟨by omega,by omega⟩ ⟨by omega,by omega⟩ W);have C2:=hid (fun W=>Cross_ok n (wdC c h) root c.den ⟨by omega,by omega⟩ ⟨by omega,by omega⟩ ⟨by omega,by omega⟩ ⟨by omega,by omega⟩ W);clear k e m1 m2 m3 m4 m5 el el2 e3 bl x1 x2 x3 x4;generalize wdC c h=W at *;have hwr:IntKind.i64.wrap (c.seg*2^h)=W:=by rw [e2];exact IntWalk.i64_in _ xo
 clear e2;generalize limF leaf root H h=lim at *;clear d0 d1 d2 d3 d4 d5 d6 d7 d8 d9 d10 d11 d12 d13 d14 d15 d16 d17;rcases Nat.eq_zero_or_pos H with hz|hz
 · rw [if_neg xo];generalize crossV n W root c.den=v at *;have hg:decide (0<(H:Int))=false:=by simp;omega
   clear BT C1;go_enter Tryz.func54,Tryz.ntmps54
   go_upto_region 1 with (fail)
   generalize hwz:w.alloc (.cells #[.int .u8 c.tag,.int .i64 c.most,.int .i64 c.seg,.int .i64 c.least,.int .i64 c.den,.int .i64 c.ll,.int .i64 c.rl,.int .i64 c.rh,.int .i64 c.lh] 23)=wz;have hh:=ec9 hwz (al9 (b:=w.heap.size) (by simp));obtain ⟨c_t0,c_t1,c_t2,c_t3,c_t4,c_t5,c_t6,c_t7,c_t8⟩:=hh;have z_t:=elt hwz (alz (b:=w.heap.size) (by simp));have HS:Hid (Below w.heap.size w wz):=by rw [←hwz];exact hid ((Below.refl _ _).alloc (Nat.le_refl _) _)
   clear hwz;have q0:=cell_regrown c_t0;have q1:=cell_regrown c_t1;have q2:=cell_regrown c_t2;have q3:=cell_regrown c_t3;have q4:=cell_regrown c_t4;have q5:=cell_regrown c_t5;have q6:=cell_regrown c_t6;have q7:=cell_regrown c_t7;have q8:=cell_regrown c_t8;refine wp_region_quiet_below xk xk ?_;repeat (go_big_quiet_step (fail))
   refine wpQuiet_nil ?_;intro _ hw';obtain ⟨⟨dq,osq⟩,hw''⟩:=hw';subst hw'';have hbq:=below_regrown wz dq osq;clear q0 q1 q2 q3 q4 q5 q6 q7 q8;generalize Sort.grow (redrawn wz dq) osq=wx at *;have HB2:=xv hbq HS;have hz2:=HB2.out.size;have hz_wx:=hbq.size;simp (disch:=omega) only [xcl hbq] at c_t0 c_t1 c_t2 c_t3 c_t4 c_t5 c_t6 c_t7 c_t8;replace z_t:=blt hbq z_t;go_wp2_with fail
   refine (C2.out _).mono ?_;rintro e w3 ⟨rfl,hb3⟩;have hz_w3:=hb3.size;simp (disch:=omega) only [xcl hb3] at c_t0 c_t1 c_t2 c_t3 c_t4 c_t5 c_t6 c_t7 c_t8;replace z_t:=blt hb3 z_t;have HB3:=hid (below_via hb3 HB2.out hz2);go_wp2
   go_ret
   exact ⟨rfl,HB3.out⟩
 · rw [if_pos hz];generalize crossV n W lim (c.den*H)=v at *;have hg:decide (0<(H:Int))=true:=by simp;omega
   have BT':=hid (fun W=>BT.out W hz);clear BT C2;generalize hdH:c.den*(H:Int)=dH at *;go_enter Tryz.func54,Tryz.ntmps54
   go_upto_region 1 with (fail)
   generalize hwz:w.alloc (.cells #[.int .u8 c.tag,.int .i64 c.most,.int .i64 c.seg,.int .i64 c.least,.int .i64 c.den,.int .i64 c.ll,.int .i64 c.rl,.int .i64 c.rh,.int .i64 c.lh] 23)=wz;have hh:=ec9 hwz (al9 (b:=w.heap.size) (by simp));obtain ⟨c_t0,c_t1,c_t2,c_t3,c_t4,c_t5,c_t6,c_t7,c_t8⟩:=hh;have z_t:=elt hwz (alz (b:=w.heap.size) (by simp));have HS:Hid (Below w.heap.size w wz):=by rw [←hwz];exact hid ((Below.refl _ _).alloc (Nat.le_refl _) _)
   clear hwz;have q0:=cell_regrown c_t0;have q1:=cell_regrown c_t1;have q2:=cell_regrown c_t2;have q3:=cell_regrown c_t3;have q4:=cell_regrown c_t4;have q5:=cell_regrown c_t5;have q6:=cell_regrown c_t6;have q7:=cell_regrown c_t7;have q8:=cell_regrown c_t8;refine wp_region_quiet_below xk xk ?_;repeat (go_big_quiet_step (fail))
   refine wpQuiet_nil ?_;intro _ hw';obtain ⟨⟨dq,osq⟩,hw''⟩:=hw';subst hw'';have hbq:=below_regrown wz dq osq;clear q0 q1 q2 q3 q4 q5 q6 q7 q8;generalize Sort.grow (redrawn wz dq) osq=wx at *;have HB2:=xv hbq HS;have hz2:=HB2.out.size;have hz_wx:=hbq.size;simp (disch:=omega) only [xcl hbq] at c_t0 c_t1 c_t2 c_t3 c_t4 c_t5 c_t6 c_t7 c_t8;replace z_t:=blt hbq z_t;go_wp2_with fail
   refine (BT'.out _).mono ?_;rintro e w3 ⟨rfl,hb3⟩;have hz_w3:=hb3.size;simp (disch:=omega) only [xcl hb3] at c_t0 c_t1 c_t2 c_t3 c_t4 c_t5 c_t6 c_t7 c_t8;replace z_t:=blt hb3 z_t;have HB3:=hid (below_via hb3 HB2.out hz2);have hz3:=HB3.out.size;go_wp2_with fail
   refine (C1.out _).mono ?_;rintro e w4' ⟨rfl,hb4⟩;have hz_w4':=hb4.size;simp (disch:=omega) only [xcl hb4] at c_t0 c_t1 c_t2 c_t3 c_t4 c_t5 c_t6 c_t7 c_t8;replace z_t:=blt hb4 z_t;have HB4:=hid (below_via hb4 HB3.out hz3);go_wp2
   go_ret
   exact ⟨rfl,HB4.out⟩
def inB (c:Cfg) (h:Nat) (n:Int):Int:=if n≤wdC c h then 0 else 2
theorem fulB_in {c:Cfg} {size:Int} {a H h:Nat} (k:CapC c size a H) (hh:h≤H) {n:Int} (h1:wdC c h<n):fulB c H h n=false:=by
 obtain ⟨e,w4,w6,-⟩:=k.wd hh;obtain ⟨d0,d1,d2,d3,d4,d5,d6,d7,d8,d9,d10,d11,d12,d13,d14,d15,d16,d17⟩:=cfHead_num (cfMay_head k.may);have m0:wdC c h*c.rh≤wdC c h*c.den:=Int.mul_le_mul_of_nonneg_left xo xo;have m1:wdC c h*c.den<n*c.den:=Int.mul_lt_mul_of_pos_right h1 xo;unfold fulB;split
 · rw [decide_eq_false_iff_not];omega
 · rename_i hz
   rw [decide_eq_false_iff_not];have p1:c.lh*((H:Int)-h)≤c.den*((H:Int)-h):=Int.mul_le_mul_of_nonneg_right xo xo;have p2:c.rh*(h:Int)≤c.den*(h:Int):=Int.mul_le_mul_of_nonneg_right xo xo;have p3:c.den*((H:Int)-h)+c.den*(h:Int)=c.den*(H:Int):=by rw [←Int.mul_add];congr 1;omega
   have p4:wdC c h*(c.lh*((H:Int)-h)+c.rh*h)≤wdC c h*(c.den*(H:Int)):=Int.mul_le_mul_of_nonneg_left xo xo;have p5:wdC c h*(c.den*(H:Int))<n*(c.den*(H:Int)):=Int.mul_lt_mul_of_pos_right h1 (Int.mul_pos xo xo);have p6:n*(H:Int)*c.den=n*(c.den*(H:Int)):=by rw [Int.mul_assoc,Int.mul_comm (H:Int)]
   omega
theorem Full_ok (c:Cfg) (size:Int) (a H h:Nat) (k:CapC c size a H) (hh:h≤H) (n:Int) (h0:0≤n) (h1:n≤65537) (w:World):
    Calls Tryz.prog 22 #[.agg #[.int .u8 c.tag,.int .i64 c.most,.int .i64 c.seg,.int .i64 c.least,.int .i64 c.den,.int .i64 c.ll,.int .i64 c.rl,.int .i64 c.rh,.int .i64 c.lh],.int .i64 size,.int .i64 h,.int .i64 n] w (AnsB w (.tuple #[.bool (fulB c H h n),.int .i64 (inB c h n)])):=by
 unfold inB;by_cases hn:n≤wdC c h
 · rw [if_pos hn];obtain ⟨d0,d1,d2,d3,d4,d5,d6,d7,d8,d9,d10,d11,d12,d13,d14,d15,d16,d17⟩:=cfHead_num (cfMay_head k.may);have AK:=hid (fun W=>casked_in c size a H h k hh n h0 hn W);have DN:=hid (fun W=>density_ok c size a H h k hh n c.lh c.rh h0 xo xo xo xo xo W);have hr:=fulB_dns c H h n;generalize fulB c H h n=r at *;generalize dnsV c H h n c.lh c.rh=v at *;clear k hn;go_enter Tryz.func22,Tryz.ntmps22
   go_wp2_with fail
   refine (AK.out _).mono ?_;rintro e w1 ⟨rfl,hb1⟩;have hz_w1:=hb1.size;try simp only [World.size_alloc,World.size_setCell] at hz_w1
   have hh:=bc9 hb1 (al9 (b:=w.heap.size) (by simp));obtain ⟨c_t0,c_t1,c_t2,c_t3,c_t4,c_t5,c_t6,c_t7,c_t8⟩:=hh;have z_t:=blt hb1 (alz (b:=w.heap.size) (by simp));have hB1:Below w.heap.size w w1:=xbel;have HB1:=hid hB1;have hz1:=hB1.size;clear hb1 hB1;go_wp2_with fail
   refine (DN.out _).mono ?_;rintro e w3 ⟨rfl,hb3⟩;have hz_w3:=hb3.size;simp (disch:=omega) only [xcl hb3] at c_t0 c_t1 c_t2 c_t3 c_t4 c_t5 c_t6 c_t7 c_t8;replace z_t:=blt hb3 z_t;have HB3:=hid (below_via hb3 HB1.out hz1);go_wp2
   go_ret2
   exact ⟨rfl,HB3.out⟩
 · rw [if_neg hn,fulB_in k hh xo];have AK:=hid (fun W=>casked_out c size a H h k hh n h0 xo W);clear k hn;go_enter Tryz.func22,Tryz.ntmps22
   go_wp2_with fail
   refine (AK.out _).mono ?_;rintro e w1 ⟨rfl,hb1⟩;have hz_w1:=hb1.size;try simp only [World.size_alloc,World.size_setCell] at hz_w1
   have hh:=bc9 hb1 (al9 (b:=w.heap.size) (by simp));obtain ⟨c_t0,c_t1,c_t2,c_t3,c_t4,c_t5,c_t6,c_t7,c_t8⟩:=hh;have z_t:=blt hb1 (alz (b:=w.heap.size) (by simp));have hB1:Below w.heap.size w w1:=xbel;go_wp2
   go_ret2
   exact ⟨rfl,hB1⟩
theorem Sparse_in (c:Cfg) (size:Int) (a H h:Nat) (k:CapC c size a H) (hh:h≤H) (n:Int) (h0:0≤n) (h1:n≤wdC c h) (w:World):
    Calls Tryz.prog 34 #[.agg #[.int .u8 c.tag,.int .i64 c.most,.int .i64 c.seg,.int .i64 c.least,.int .i64 c.den,.int .i64 c.ll,.int .i64 c.rl,.int .i64 c.rh,.int .i64 c.lh],.int .i64 size,.int .i64 h,.int .i64 n] w (AnsB w (.tuple #[.bool (sprB c size H h n),.int .i64 0])):=by
 obtain ⟨d0,d1,d2,d3,d4,d5,d6,d7,d8,d9,d10,d11,d12,d13,d14,d15,d16,d17⟩:=cfHead_num (cfMay_head k.may);obtain ⟨e,w4,w6,-⟩:=k.wd hh;have AK:=hid (fun W=>casked_in c size a H h k hh n h0 h1 W);have DN:=hid (fun W=>density_ok c size a H h k hh (n+1) c.ll c.rl xo xo xo xo xo xo W);have hw1:IntKind.i64.wrap (n+1)=n+1:=IntWalk.i64_in _ xo;have hl:=k.least;unfold sprB;by_cases hs:size=c.least
 · rw [decide_eq_true hs,Bool.true_or];have hs2:(size==c.least)=true:=by simp [hs]
   clear k h1 DN hs hl;generalize c.least=le at *;go_enter Tryz.func34,Tryz.ntmps34
   go_wp2_with fail
   refine (AK.out _).mono ?_;rintro e w1 ⟨rfl,hb1⟩;have hz_w1:=hb1.size;try simp only [World.size_alloc,World.size_setCell] at hz_w1
   have hh:=bc9 hb1 (al9 (b:=w.heap.size) (by simp));obtain ⟨c_t0,c_t1,c_t2,c_t3,c_t4,c_t5,c_t6,c_t7,c_t8⟩:=hh;have z_t:=blt hb1 (alz (b:=w.heap.size) (by simp));have hB1:Below w.heap.size w w1:=xbel;go_wp2
   go_ret2
   exact ⟨rfl,hB1⟩
 · rw [decide_eq_false hs,Bool.false_or];have hz:0<H:=by
    rcases hl with q|q
    · exact absurd q hs
    · exact q
   have hr:=sprB_dns c size H h n hz;rw [←hr];have hs2:(size==c.least)=false:=by simp [hs]
   clear k h1 hl hr hs;generalize dnsV c H h (n+1) c.ll c.rl=v at *;generalize c.least=le at *;go_enter Tryz.func34,Tryz.ntmps34
   go_wp2_with fail
   refine (AK.out _).mono ?_;rintro e w1 ⟨rfl,hb1⟩;have hz_w1:=hb1.size;try simp only [World.size_alloc,World.size_setCell] at hz_w1
   have hh:=bc9 hb1 (al9 (b:=w.heap.size) (by simp));obtain ⟨c_t0,c_t1,c_t2,c_t3,c_t4,c_t5,c_t6,c_t7,c_t8⟩:=hh;have z_t:=blt hb1 (alz (b:=w.heap.size) (by simp));have hB1:Below w.heap.size w w1:=xbel;have HB1:=hid hB1;have hz1:=hB1.size;clear hb1 hB1;go_wp2_with fail
   refine (DN.out _).mono ?_;rintro e w3 ⟨rfl,hb3⟩;have hz_w3:=hb3.size;simp (disch:=omega) only [xcl hb3] at c_t0 c_t1 c_t2 c_t3 c_t4 c_t5 c_t6 c_t7 c_t8;replace z_t:=blt hb3 z_t;have HB3:=hid (below_via hb3 HB1.out hz1);go_wp2
   go_ret2
   exact ⟨rfl,HB3.out⟩
end
end Go.Proofs.YtookgoidlnlckaaGreatDoor

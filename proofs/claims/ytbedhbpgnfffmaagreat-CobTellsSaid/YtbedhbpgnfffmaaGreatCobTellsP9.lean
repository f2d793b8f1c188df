/- Merged: BuildIx, RowEq, IdxSame, BuildIxs. -/
import Derived.Test.YtbedhbpgnfffmaaGreatCobTellsP8
import Derived.Test.YtbedhbpgnfffmaaGreatCobTellsP7
import Derived.Test.YtbedhbpgnfffmaaGreatCobTellsP4
import Derived.Test.YtbedhbpgnfffmaaGreatCobTellsP5
import Derived.Test.YtbedhbpgnfffmaaGreatCobTellsP2
import Derived.Test.YtbedhbpgnfffmaaGreatCobTellsP6
namespace Go.Proofs.YtbedhbpgnfffmaaGreat
set_option maxRecDepth 100000
set_option maxHeartbeats 40000000
set_option linter.unusedVariables false
set_option linter.unusedSimpArgs false
section
open Go.RowKit Go.Shelf
attribute [local go_sem] Oper.semAt_some
structure FactR (R:World→World→Prop) where
 holds:Value→World→Prop
 stays:∀v w w',R w w'→holds v w→holds v w'
def FactR.any (R:World→World→Prop):FactR R:=⟨fun _ _=>True,fun _ _ _ _ _=>trivial⟩
def FactR.is {R:World→World→Prop} (x:Value):FactR R:=⟨fun v _=>v=x,fun _ _ _ _ h=>h⟩
def FactR.now {R:World→World→Prop} (S:World→Prop) (h:∀w w',R w w'→S w→S w'):FactR R:=⟨fun _ w=>S w,fun _ w w' hr h1=>h w w' hr h1⟩
def factRAt {R:World→World→Prop} (fs:List (FactR R)) (k:Nat) (v:Value) (w:World):Prop:=(fs.getD k (FactR.any R)).holds v w
theorem factRAt_stays {R:World→World→Prop} (fs:List (FactR R)) (k:Nat) (v:Value) (w w':World) (h:R w w'):factRAt fs k v w→factRAt fs k v w':=(fs.getD k (FactR.any R)).stays _ _ _ h
def JB (g:Nat) (X:World) (old new:World→Prop) (w':World):Prop:=(∀q,q≠g→w'.heap[q]? =X.heap[q]?)∧w'.heap.size=X.heap.size∧(w'.os=X.os∧w'.tape=X.tape∧w'.output=X.output)∧(old w'∨new w')
def dn (f:Nat→Int) (n:Nat):Nat→Int:=fun m=>if n<m then f m else 0
theorem putF_dn (f:Nat→Int) (n:Nat) (h0:1≤n):putF (dn f n) n (f n)=dn f (n-1):=by
 funext m
 unfold putF dn;by_cases e:m=n
 · subst e;rw [if_pos rfl,if_pos xo]
 · rw [if_neg e];by_cases h:n<m
   · rw [if_pos xo,if_pos xo]
   · rw [if_neg xo,if_neg xo]
theorem BuildIx_main (seg:Int) (wa ka va ca:Option Addr) (wc kc vc cc lw lk lv lc:Nat) (laid:Int) (w:World) (D:Int) (L N:Nat) (hl:D+1=L) (h1:1≤L) (h2:L≤14) (hN:N+1=2^L) (hlc:N+1=2*lc) (fm fc:Nat→Int)
    (CK:Hid (∀W,Below w.heap.size w W→Calls Tryz.prog 65 #[.agg #[.int .i64 seg,.slice wa lw wc,.slice ka lk kc,.slice va lv vc,.slice ca lc cc,.int .u64 laid]] W (AnsB W (.int .i64 0))))
    (DW:Hid (∀W,Calls Tryz.prog 81 #[.int .i64 lc] W fun e w'=>e= .returned (.tuple #[.int .i64 D,.int .i64 0])∧W=w'))
    (LF:Hid (∀W,Below w.heap.size w W→∀n:Nat,lc≤n→n≤N→Calls Tryz.prog 83 #[.agg #[.int .i64 seg,.slice wa lw wc,.slice ka lk kc,.slice va lv vc,.slice ca lc cc,.int .u64 laid],.int .i64 ((n:Int)-lc)] W (AnsB W (tdV (fm n) (fc n)))))
    (AB:Hid (∀n:Nat,1≤n→n<lc→∀W,Calls Tryz.prog 84 #[tdV (fm (2*n)) (fc (2*n)),tdV (fm (2*n+1)) (fc (2*n+1))] W (AnsB W (tdV (fm n) (fc n))))):
    Calls Tryz.prog 54 #[.agg #[.int .i64 seg,.slice wa lw wc,.slice ka lk kc,.slice va lv vc,.slice ca lc cc,.int .u64 laid]] w (FreshIx2 w (D+1) (bltF L fm fun _=>true) (bltF L fc fun _=>true) (.int .i64 0)):=by
 have hNb:N+1≤16384:=by rw [hN];exact Nat.pow_le_pow_right xo h2
 have hlb:0≤D∧D≤13:=xo;have NDS:=hid (fun W=>nodes_ok L (D+1) hl h1 h2 W);rw [←hN] at NDS;have hlenP:(plc L).length=N:=by rw [plc_length];omega
 have HPG:=hid (fun n (h0:1≤n) (h:n≤N)=>(plc_get (L:=L) (n:=n) h1 h0 xo));have HPV:=hid (fun n (h0:1≤n) (h:n≤N)=>(vpos_lay (L:=L) (n:=n) h1 h0 xo).1);have HB0:=hid (fun f=>bltF_none L h1 f (p:=fun m=>decide (N<m)) (by intro n a b;simp;omega));have HBL:=hid (fun f p=>bltF_length (L:=L) h1 f p);have HBS:=hid (fun f n (h0:1≤n) (h:n≤N)=>bltF_set (L:=L) h1 f (p:=fun m=>decide (n<m)) (q:=fun m=>decide (n-1<m)) (n:=n) h0 xo (by simp;omega) (by intro m hm;simp;omega));have HBS2:=hid (fun f n (h0:1≤n) (h:n≤N)=>bltF_set (L:=L) h1 f (p:=fun m=>decide (n-1<m)) (q:=fun m=>decide (n-1<m)) (n:=n) h0 xo (by simp;omega) (fun _ _=>rfl));have HBA:=hid (fun f=>(bltF_all L h1 f (p:=fun m=>decide (0<m)) (by intro n a b;simp;omega)).trans (bltF_all L h1 f (p:=fun _=>true) (fun _ _ _=>rfl)).symm);rw [show 2^L-1=N by omega] at HB0 HBL HPV;have hN0:0<N:=by have:2^1≤2^L:=Nat.pow_le_pow_right xo h1;omega
 have hwD:IntKind.i64.wrap (D+1)=D+1:=IntWalk.i64_in _ xo;have hwN:IntKind.i64.wrap (N:Int)=(N:Int):=IntWalk.i64_in _ xo;have hg8:decide ((lc:Int)>8192)=false:=by simp;omega
 have HLC:=hid hlc;clear hl h1 h2 hN hlenP hlc;go_enter Tryz.func54,Tryz.ntmps54
 go_wp2_with fail
 refine (CK.out _ ((br.alloc (Nat.le_refl _) _).alloc xsi _)).mono ?_;rintro e wk ⟨rfl,hb1⟩;have hz_wk:=hb1.size;try simp only [World.size_alloc,World.size_setCell] at hz_wk
 have c_t0:wk.cell? ⟨w.heap.size,0,none⟩=some (.int .i64 seg):=xjt hb1 xlt xcn;have c_t1:wk.cell? ⟨w.heap.size,1,none⟩=some (.slice wa lw wc):=xjt hb1 xlt xcn;have c_t2:wk.cell? ⟨w.heap.size,2,none⟩=some (.slice ka lk kc):=xjt hb1 xlt xcn;have c_t3:wk.cell? ⟨w.heap.size,3,none⟩=some (.slice va lv vc):=xjt hb1 xlt xcn;have c_t4:wk.cell? ⟨w.heap.size,4,none⟩=some (.slice ca lc cc):=xjt hb1 xlt xcn;have c_t5:wk.cell? ⟨w.heap.size,5,none⟩=some (.int .u64 laid):=xjt hb1 xlt xcn;have z_t:w.heap.size<wk.heap.size:=xo;have c_r0:wk.cell? ⟨w.heap.size+1,0,none⟩=some (.int .i64 0):=xjt hb1 xlt xcn;have f_r0:wk.frozen? ⟨w.heap.size+1,0,none⟩=false:=xft hb1 xlt xcn;have c_r1:wk.cell? ⟨w.heap.size+1,1,none⟩=some (.slice none 0 0):=xjt hb1 xlt xcn;have f_r1:wk.frozen? ⟨w.heap.size+1,1,none⟩=false:=xft hb1 xlt xcn;have c_r2:wk.cell? ⟨w.heap.size+1,2,none⟩=some (.slice none 0 0):=xjt hb1 xlt xcn;have f_r2:wk.frozen? ⟨w.heap.size+1,2,none⟩=false:=xft hb1 xlt xcn;have z_r:w.heap.size+1<wk.heap.size:=xo;have HSK:Hid (Below w.heap.size w wk):=hid xbel;have hzk:w.heap.size+2≤wk.heap.size:=xo;clear hb1;go_wp2_with fail
 refine (DW.out _).mono ?_;rintro e w' ⟨rfl,rfl⟩;go_wp2_with fail
 refine (NDS.out _).mono ?_;rintro e wz ⟨gn,rfl,hon,hbn⟩;have HON:=hid hon;have HSN:=hid hbn;have hgn:=hon.lt gn rfl;have hzn:=hbn.size;clear hon hbn;go_wp2
 refine wp_region_facts 12 xk (N:=111) rfl xk xk xdd (fun w'=>Below wz.heap.size wz w') (Ext 33) (factAt [.is (.int .i64 D),.is (.int .i64 (D+1)),.is (.slice (some ⟨gn,0,none⟩) (N+1) (N+1)),.is (.int .i64 ((N:Int)+1)),.is (.int .i64 N),.full wz.heap.size 2 xdd N ((List.replicate N (0:Int)).map (Value.int .i64)),.is (.slice (some ⟨gn,0,none⟩) (N+1) (N+1)),.is (.int .i64 ((N:Int)+1)),.is (.int .i64 N),.full wz.heap.size 3 xdd N ((List.replicate N (0:Int)).map (Value.int .i64)),.agg3 (.is (.int .i64 (D+1))) (.full wz.heap.size 2 xdd N ((List.replicate N (0:Int)).map (Value.int .i64))) (.full wz.heap.size 3 xdd N ((List.replicate N (0:Int)).map (Value.int .i64))),.box wz.heap.size 3]) (factAt_stays _) br.drew ?steps ?fin
 case steps=>
  refine ⟨?o0,?o1,?o2,?o3,?o4,?o5,?o6,?o7,?o8,?o9,?o10,?o11,trivial⟩<;>intro u a w' ev hJ hd K hK
  case o0=>
   have e5:tg a 5= .int .i64 D:=ev 5 xdd;have HK:=hid hK;clear hK ev hd;go_simp;exact HK.out _ _ xzc hJ rfl (Ext.refl _ _)
  case o1=>
   have e32:tg a 32= .int .i64 D:=(ev 32 xdd).trans (hd 0 _ xk rfl);have HK:=hid hK;clear hK ev hd;go_simp;exact HK.out _ _ xzc hJ rfl (Ext.refl _ _)
  case o2=>
   have e7:tg a 7= .slice (some ⟨gn,0,none⟩) (N+1) (N+1):=ev 7 xdd;have HK:=hid hK;clear hK ev hd;go_simp;exact HK.out _ _ xzc hJ rfl (Ext.refl _ _)
  case o3=>
   have e34:tg a 34= .slice (some ⟨gn,0,none⟩) (N+1) (N+1):=(ev 34 xdd).trans (hd 2 _ xk rfl);have HK:=hid hK;clear hK ev hd;go_simp;exact HK.out _ _ xzc hJ rfl (Ext.refl _ _)
  case o4=>
   have e35:tg a 35= .int .i64 ((N:Int)+1):=(ev 35 xdd).trans (hd 3 _ xk rfl);have HK:=hid hK;clear hK ev hd;go_simp;exact HK.out _ _ xzc hJ rfl (Ext.refl _ _)
  case o5=>
   have e36:tg a 36= .int .i64 N:=(ev 36 xdd).trans (hd 4 _ xk rfl);exact wp_make (.tmp 36) (.tmp 36) 25 2 _ 1 8 Tryz.underlying25 info_int64 xdd wz.heap.size N _ rfl xo hJ.size rfl e36 e36 (fun g w'' k1 k2 k3=>hK _ _ xzc (hJ.trans (k3.mono hJ.size)) ⟨g,rfl,by rw [made_ints] at k2;exact k2⟩ (Ext.below k3))
  case o6=>
   have e7:tg a 7= .slice (some ⟨gn,0,none⟩) (N+1) (N+1):=ev 7 xdd;have HK:=hid hK;clear hK ev hd;go_simp;exact HK.out _ _ xzc hJ rfl (Ext.refl _ _)
  case o7=>
   have e38:tg a 38= .slice (some ⟨gn,0,none⟩) (N+1) (N+1):=(ev 38 xdd).trans (hd 6 _ xk rfl);have HK:=hid hK;clear hK ev hd;go_simp;exact HK.out _ _ xzc hJ rfl (Ext.refl _ _)
  case o8=>
   have e39:tg a 39= .int .i64 ((N:Int)+1):=(ev 39 xdd).trans (hd 7 _ xk rfl);have HK:=hid hK;clear hK ev hd;go_simp;exact HK.out _ _ xzc hJ rfl (Ext.refl _ _)
  case o9=>
   have e40:tg a 40= .int .i64 N:=(ev 40 xdd).trans (hd 8 _ xk rfl);exact wp_make (.tmp 40) (.tmp 40) 26 3 _ 1 8 Tryz.underlying26 info_int xdd wz.heap.size N _ rfl xo hJ.size rfl e40 e40 (fun g w'' k1 k2 k3=>hK _ _ xzc (hJ.trans (k3.mono hJ.size)) ⟨g,rfl,by rw [made_ints] at k2;exact k2⟩ (Ext.below k3))
  case o10=>
   have h1:u 33= .int .i64 (D+1):=hd 1 _ xk rfl;obtain ⟨g1,h2,h3⟩:(Fact.full (T:=33) wz.heap.size 2 xdd N ((List.replicate N (0:Int)).map (Value.int .i64))).holds (u 37) w':=hd 5 _ xk rfl;obtain ⟨g2,h4,h5⟩:(Fact.full (T:=33) wz.heap.size 3 xdd N ((List.replicate N (0:Int)).map (Value.int .i64))).holds (u 41) w':=hd 9 _ xk rfl;have e13:tg a 33= .int .i64 (D+1):=(ev 33 xdd).trans h1;have e16:tg a 37= .slice (some ⟨g1,0,none⟩) N N:=(ev 37 xdd).trans h2;have e19:tg a 41= .slice (some ⟨g2,0,none⟩) N N:=(ev 41 xdd).trans h4;have f13:a.tmps[33]?.getD undef= .int .i64 (D+1):=by rw [←Array.getD_eq_getD_getElem?];exact e13
   have f16:a.tmps[37]?.getD undef= .slice (some ⟨g1,0,none⟩) N N:=by rw [←Array.getD_eq_getD_getElem?];exact e16
   have f19:a.tmps[41]?.getD undef= .slice (some ⟨g2,0,none⟩) N N:=by rw [←Array.getD_eq_getD_getElem?];exact e19
   have HK:=hid hK;have H3:=hid h3;have H5:=hid h5;clear hK ev hd h1 h2 h3 h4 h5;go_simp;exact HK.out _ _ xzc hJ ⟨_,_,_,rfl,rfl,⟨_,rfl,H3.out⟩,⟨_,rfl,H5.out⟩⟩ (Ext.refl _ _)
  case o11=>
   have HK:=hid hK;have hzJ:=hJ.size;have HJ:=hid hJ;clear hK ev hd hJ;go_simp;exact HK.out _ _ xzc (HJ.out.alloc hzJ _) ⟨_,_,rfl,hzJ,alloc_new _ _,rfl⟩ (Ext.below (br.alloc (Nat.le_refl _) _))
 case fin=>
  intro u w2 hJ hG;obtain ⟨x,y,z,h20,rfl,⟨g1,rfl,ho1⟩,⟨g2,rfl,ho2⟩⟩:(Fact.agg3 (T:=33) (.is (.int .i64 (D+1))) (.full wz.heap.size 2 xdd N ((List.replicate N (0:Int)).map (Value.int .i64))) (.full wz.heap.size 3 xdd N ((List.replicate N (0:Int)).map (Value.int .i64)))).holds (u 42) w2:=hG 10 _ rfl;obtain ⟨b,bcs,h4,hbz,hbh,hbs⟩:(Fact.box (T:=33) wz.heap.size 3).holds (u 8) w2:=hG 11 _ rfl;obtain ⟨p,q,r,b0,b1,b2,q0,q1,q2⟩:=box_three hbh hbs;have hgb1:=block_apart hbh ho1 xdd;have hgb2:=block_apart hbh ho2 xdd;have hg12:g1≠g2:=by
   rcases owns_apart ho1 ho2 xdd with h|h
   · cases h
   · intro e;exact h (by rw [e])
  have hz2:=hJ.size;have hlb2:b<w2.heap.size:=World.block_lt_of_cell? _ _ b0;have hl1:=ho1.lt g1 rfl;have hl2:=ho2.lt g2 rfl;have HO1:=hid ho1;have HO2:=hid ho2;have HJ:=hid hJ;clear hG ho1 ho2 hJ hbh hbs;simp only [mixFrame,mixL,dstsOf,List.take_succ_cons,List.take_zero,List.filterMap_cons,List.filterMap_nil,List.contains_cons,List.contains_nil,Nat.reduceBEq,Bool.or_false,Bool.false_or,Bool.or_true,Bool.true_or,if_true,if_false,Bool.false_eq_true,Nat.reduceAdd,Nat.zero_add,List.drop_succ_cons,List.drop_zero,h20,h4];go_wp2
  have hsw:=three_set (w2:=w2) (b:=b) (x:= .int .i64 (D+1)) (y:= .slice (some ⟨g1,0,none⟩) N N) (z:= .slice (some ⟨g2,0,none⟩) N N) b0 b1 b2;have HJ3:Hid (Below wz.heap.size wz (((w2.setCell ⟨b,0,none⟩ (.int .i64 (D+1))).setCell ⟨b,1,none⟩ (.slice (some ⟨g1,0,none⟩) N N)).setCell ⟨b,2,none⟩ (.slice (some ⟨g2,0,none⟩) N N))):=hid (((HJ.out.setCell xdo _).setCell xdo _).setCell xdo _);have HO13:=hid (owns_heap (W':=(((w2.setCell ⟨b,0,none⟩ (.int .i64 (D+1))).setCell ⟨b,1,none⟩ (.slice (some ⟨g1,0,none⟩) N N)).setCell ⟨b,2,none⟩ (.slice (some ⟨g2,0,none⟩) N N))) HO1.out fun k hk=>by cases hk;rw [heap_setCell_ne _ _ _ hgb1,heap_setCell_ne _ _ _ hgb1,heap_setCell_ne _ _ _ hgb1]);have HO23:=hid (owns_heap (W':=(((w2.setCell ⟨b,0,none⟩ (.int .i64 (D+1))).setCell ⟨b,1,none⟩ (.slice (some ⟨g1,0,none⟩) N N)).setCell ⟨b,2,none⟩ (.slice (some ⟨g2,0,none⟩) N N))) HO2.out fun k hk=>by cases hk;rw [heap_setCell_ne _ _ _ hgb2,heap_setCell_ne _ _ _ hgb2,heap_setCell_ne _ _ _ hgb2]);have hz3:w2.heap.size=(((w2.setCell ⟨b,0,none⟩ (.int .i64 (D+1))).setCell ⟨b,1,none⟩ (.slice (some ⟨g1,0,none⟩) N N)).setCell ⟨b,2,none⟩ (.slice (some ⟨g2,0,none⟩) N N)).heap.size:=by simp
  generalize (((w2.setCell ⟨b,0,none⟩ (.int .i64 (D+1))).setCell ⟨b,1,none⟩ (.slice (some ⟨g1,0,none⟩) N N)).setCell ⟨b,2,none⟩ (.slice (some ⟨g2,0,none⟩) N N))=w3 at *;obtain ⟨k0,k1,k2⟩:=hsw;have HON3:=hid (owns_below HON.out HJ3.out);have HJK:=hid (HSN.out.trans (HJ3.out.mono hzn));clear HO1 HO2 HJ b0 b1 b2 q0 q1 q2 HON HJ3;go_loopg [9] N (fun n iv wr=>n≤N∧iv= .int .i64 (n:Int)∧wr.cell? ⟨b,0,none⟩=some (.int .i64 (D+1))∧wr.cell? ⟨b,1,none⟩=some (.slice (some ⟨g1,0,none⟩) N N)∧wr.cell? ⟨b,2,none⟩=some (.slice (some ⟨g2,0,none⟩) N N)∧
    Hid (wr.ownsRow wz.heap.size 2 1 (.slice (some ⟨g1,0,none⟩) N N) N ((bltF L fm fun m=>decide (n<m)).map (Value.int .i64)))∧Hid (wr.ownsRow wz.heap.size 3 1 (.slice (some ⟨g2,0,none⟩) N N) N ((bltF L fc fun m=>decide (n<m)).map (Value.int .i64)))∧Hid (Below wk.heap.size wk wr)∧Hid (wr.ownsRow wk.heap.size 138 3 (.slice (some ⟨gn,0,none⟩) (N+1) (N+1)) (N+1) (ndRow (dn fm n) (dn fc n) (pcF L) (N+1)))∧w3.heap.size≤wr.heap.size)
  case atStart=>
   refine ⟨Nat.le_refl _,rfl,k0,k1,k2,hid ?_,hid ?_,HJK,hid ?_,Nat.le_refl _⟩
   · rw [HB0.out];exact HO13.out
   · rw [HB0.out];exact HO23.out
   · have e:ndRow (dn fm N) (dn fc N) (pcF L) (N+1)=ndRow (fun _=>0) (fun _=>0) (pcF L) (N+1):=by
       unfold ndRow;rw [flat3_congr (a':=fun _=>0) (b':=fun _=>0) (c':=pcF L) (fun i hi=>by unfold dn;rw [if_neg xo]) (fun i hi=>by unfold dn;rw [if_neg xo]) (fun _ _=>rfl)]
     rw [e];exact HON3.out
  case round=>
   obtain ⟨n,hnk⟩:∃n,n=gk:=⟨_,rfl⟩
   subst hnk;obtain ⟨hnN,rfl,c0,c1,c2,HR1,HR2,HJr,HRN,hzr⟩:=hrel;have HJrs:=HJr.out.size;by_cases hn0:1≤n
   · have hgc:decide ((n:Int)>0)=true:=by simp;omega
     have hz_wr:=HJr.out.size;try simp only [World.size_alloc,World.size_setCell] at hz_wr
     have c_t0:wr.cell? ⟨w.heap.size,0,none⟩=some (.int .i64 seg):=(HJr.out.cell (p:=⟨w.heap.size,0,none⟩) xlt).trans xcn;have c_t1:wr.cell? ⟨w.heap.size,1,none⟩=some (.slice wa lw wc):=(HJr.out.cell (p:=⟨w.heap.size,1,none⟩) xlt).trans xcn;have c_t2:wr.cell? ⟨w.heap.size,2,none⟩=some (.slice ka lk kc):=(HJr.out.cell (p:=⟨w.heap.size,2,none⟩) xlt).trans xcn;have c_t3:wr.cell? ⟨w.heap.size,3,none⟩=some (.slice va lv vc):=(HJr.out.cell (p:=⟨w.heap.size,3,none⟩) xlt).trans xcn;have c_t4:wr.cell? ⟨w.heap.size,4,none⟩=some (.slice ca lc cc):=(HJr.out.cell (p:=⟨w.heap.size,4,none⟩) xlt).trans xcn;have c_t5:wr.cell? ⟨w.heap.size,5,none⟩=some (.int .u64 laid):=(HJr.out.cell (p:=⟨w.heap.size,5,none⟩) xlt).trans xcn;have z_t:w.heap.size<wr.heap.size:=xo;have hlen:(flat3 (dn fm n) (dn fc n) (pcF L) (N+1)).length=(N+1)*3:=flat3_length;obtain ⟨d0,e0⟩:=own_cell HRN.out (j:=n*3) xo;obtain ⟨d1,e1⟩:=own_cell HRN.out (j:=n*3+1) xo;have hbr:b<wr.heap.size:=World.block_lt_of_cell? _ _ c0;have hgr:=(HRN.out.lt gn rfl).2;by_cases hge:lc≤n
     · have hgd:decide ((n:Int)-lc≥0)=true:=by simp;omega
       have LFn:=LF.out;go_wp2_with fail
       refine (LFn _ (by have:=below_via HJr.out HSK.out xo;(exact xbel)) n hge hnN).mono ?_;rintro e w5 ⟨rfl,hb5⟩;have hz5:=hb5.size;replace d0:=(hb5.cell (p:=⟨gn,n*3,none⟩) hgr).trans d0;replace d1:=(hb5.cell (p:=⟨gn,n*3+1,none⟩) hgr).trans d1;replace e0:=(hb5.frozen (p:=⟨gn,n*3,none⟩) hgr).trans e0;replace e1:=(hb5.frozen (p:=⟨gn,n*3+1,none⟩) hgr).trans e1;generalize (flat3 (dn fm n) (dn fc n) (pcF L) (N+1)).getD (n*3) 0=y0 at d0;generalize (flat3 (dn fm n) (dn fc n) (pcF L) (N+1)).getD (n*3+1) 0=y1 at d1;clear LFn;go_wp2
       -- the node is told: w6
       have hnbI:(n:Int)<(N:Int)+1:=xo;have hng1:gn≠g1:=xo;have hng2:gn≠g2:=xo;have hngb:b≠gn:=xo;have HQ6:Hid (∀q,q≠gn→((w5.setCell ⟨gn,n*3,none⟩ (.int .i64 (fm n))).setCell ⟨gn,n*3+1,none⟩ (.int .i64 (fc n))).heap[q]? =w5.heap[q]?):=hid fun q hq=>by rw [heap_setCell_ne _ _ _ hq,heap_setCell_ne _ _ _ hq]
       have HRN6:Hid (((w5.setCell ⟨gn,n*3,none⟩ (.int .i64 (fm n))).setCell ⟨gn,n*3+1,none⟩ (.int .i64 (fc n))).ownsRow wk.heap.size 138 3 (.slice (some ⟨gn,0,none⟩) (N+1) (N+1)) (N+1) (ndRow (dn fm (n-1)) (dn fc (n-1)) (pcF L) (N+1))):=by
        have o1:=own_set (owns_below HRN.out hb5) (n*3) (fm n);rw [flat3_set0 xo,putF_dn _ _ hn0] at o1;have o2:=own_set o1 (n*3+1) (fc n);rw [flat3_set1 xo,putF_dn _ _ hn0] at o2;exact hid o2
       have HJ6:Hid (Below wk.heap.size wk ((w5.setCell ⟨gn,n*3,none⟩ (.int .i64 (fm n))).setCell ⟨gn,n*3+1,none⟩ (.int .i64 (fc n)))):=hid (((HJr.out.trans (hb5.mono HJrs)).setCell xdo _).setCell xdo _);have hz6:((w5.setCell ⟨gn,n*3,none⟩ (.int .i64 (fm n))).setCell ⟨gn,n*3+1,none⟩ (.int .i64 (fc n))).heap.size=w5.heap.size:=by simp
       generalize (w5.setCell ⟨gn,n*3,none⟩ (.int .i64 (fm n))).setCell ⟨gn,n*3+1,none⟩ (.int .i64 (fc n))=w6 at *;replace c0:=(World.cell?_of_block (a:=⟨b,0,none⟩) (HQ6.out b hngb)).trans ((hb5.cell (p:=⟨b,0,none⟩) hbr).trans c0);replace c1:=(World.cell?_of_block (a:=⟨b,1,none⟩) (HQ6.out b hngb)).trans ((hb5.cell (p:=⟨b,1,none⟩) hbr).trans c1);replace c2:=(World.cell?_of_block (a:=⟨b,2,none⟩) (HQ6.out b hngb)).trans ((hb5.cell (p:=⟨b,2,none⟩) hbr).trans c2);have HR16:=hid (owns_heap (owns_below HR1.out hb5) fun j hj=>by cases hj;exact HQ6.out g1 hng1.symm);have HR26:=hid (owns_heap (owns_below HR2.out hb5) fun j hj=>by cases hj;exact HQ6.out g2 hng2.symm);have hlen6:(flat3 (dn fm (n-1)) (dn fc (n-1)) (pcF L) (N+1)).length=(N+1)*3:=flat3_length;have hpV:=HPV.out n hn0 hnN;have hpG:=HPG.out n hn0 hnN;have S1:=hid (HBS.out fm n hn0 hnN);have S1':=hid (HBS2.out fm n hn0 hnN);have S2:=hid (HBS.out fc n hn0 hnN);obtain ⟨p,hpp⟩:∃p,vpos L n=p:=⟨_,rfl⟩
       rw [hpp] at hpV hpG S1 S1' S2;obtain ⟨n0,-⟩:=own_cell HRN6.out (j:=n*3) xo;obtain ⟨n1,-⟩:=own_cell HRN6.out (j:=n*3+1) xo;obtain ⟨n2,-⟩:=own_cell HRN6.out (j:=n*3+2) xo;rw [flat3_0 xo,show dn fm (n-1) n=fm n from if_pos xo] at n0;rw [flat3_1 xo,show dn fc (n-1) n=fc n from if_pos xo] at n1;rw [flat3_2 xo,show pcF L n=(p:Int) by rw [pcF,if_neg xo,hpG]] at n2;obtain ⟨OWo,hOo⟩:∃P:World→Prop,P=fun W=>W.ownsRow wz.heap.size 2 1 (.slice (some ⟨g1,0,none⟩) N N) N ((bltF L fm fun m=>decide (n<m)).map (Value.int .i64)):=⟨_,rfl⟩
       obtain ⟨OWn,hOn⟩:∃P:World→Prop,P=fun W=>W.ownsRow wz.heap.size 2 1 (.slice (some ⟨g1,0,none⟩) N N) N ((bltF L fm fun m=>decide (n-1<m)).map (Value.int .i64)):=⟨_,rfl⟩
       have JIN:Hid (JB g1 w6.drew OWo OWn w6.drew):=hid ⟨fun _ _=>rfl,rfl,⟨rfl,rfl,rfl⟩,.inl (by rw [hOo];exact owns_heap HR16.out fun _ _=>rfl)⟩;have JST:Hid (∀w',JB g1 w6.drew OWo OWn w'→(∃y,w'.cell? ⟨g1,p,none⟩=some (.int .i64 y))∧w'.frozen? ⟨g1,p,none⟩=false∧JB g1 w6.drew OWo OWn (w'.setCell ⟨g1,p,none⟩ (.int .i64 (fm n)))∧OWn (w'.setCell ⟨g1,p,none⟩ (.int .i64 (fm n)))):=hid (by
        rintro w' ⟨j1,j2,j4,j3⟩;have key:(∃y,w'.cell? ⟨g1,p,none⟩=some (.int .i64 y))∧w'.frozen? ⟨g1,p,none⟩=false∧OWn (w'.setCell ⟨g1,p,none⟩ (.int .i64 (fm n))):=by
         rcases j3 with j3|j3
         · rw [hOo] at j3;obtain ⟨y0,y1⟩:=own_cell j3 (j:=p) (by rw [HBL.out];exact hpV);have y2:=own_set j3 p (fm n);rw [S1.out] at y2;rw [hOn];exact ⟨⟨_,y0⟩,y1,y2⟩
         · rw [hOn] at j3;obtain ⟨y0,y1⟩:=own_cell j3 (j:=p) (by rw [HBL.out];exact hpV);have y2:=own_set j3 p (fm n);rw [S1'.out] at y2;rw [hOn];exact ⟨⟨_,y0⟩,y1,y2⟩
        exact ⟨key.1,key.2.1,⟨fun q hq=>(heap_setCell_ne _ _ _ hq).trans (j1 q hq),by rw [World.size_setCell];exact j2,j4,.inr key.2.2⟩,key.2.2⟩)
       have HON':=hid hOn;clear hOo hOn hpG hpp hlen6 HR1 HR2 HJr HRN HQ6 d0 d1 e0 e1 hb5 S1 S1' HR16;refine wp_region_late 28 xk (N:=111) rfl xk xk xdd (fun w'=>JB g1 w6.drew OWo OWn w') (fun W W'=>OWn W→OWn W') (factRAt [.is (.pointer (some ⟨b,1,none⟩)),.is (.slice (some ⟨g1,0,none⟩) N N),.is (.slice (some ⟨gn,0,none⟩) (N+1) (N+1)),.is (.int .i64 n),.is (.pointer (some ⟨gn,n*3,none⟩)),.is (.pointer (some ⟨gn,n*3+2,none⟩)),.is (.int .i64 p),.is (.pointer (some ⟨b,2,none⟩)),.is (.slice (some ⟨g2,0,none⟩) N N),.is (.slice (some ⟨gn,0,none⟩) (N+1) (N+1)),.is (.int .i64 n),.is (.pointer (some ⟨gn,n*3,none⟩)),.is (.pointer (some ⟨gn,n*3+2,none⟩)),.is (.int .i64 p),.is (.slice (some ⟨gn,0,none⟩) (N+1) (N+1)),.is (.int .i64 n),.is (.pointer (some ⟨gn,n*3,none⟩)),.is (.pointer (some ⟨gn,n*3,none⟩)),.is (.pointer (some ⟨gn,n*3,none⟩)),.is (.int .i64 (fm n)),.is (.slice (some ⟨gn,0,none⟩) (N+1) (N+1)),.is (.int .i64 n),.is (.pointer (some ⟨gn,n*3,none⟩)),.is (.pointer (some ⟨gn,n*3,none⟩)),.is (.pointer (some ⟨gn,n*3+1,none⟩)),.is (.int .i64 (fc n)),.is (.pointer (some ⟨g1,p,none⟩)),.now OWn (fun _ _ h k=>h k)]) (factRAt_stays _) JIN.out ?steps ?fin
       case steps=>
        refine ⟨?o0,?o1,?o2,?o3,?o4,?o5,?o6,?o7,?o8,?o9,?o10,?o11,?o12,?o13,?o14,?o15,?o16,?o17,?o18,?o19,?o20,?o21,?o22,?o23,?o24,?o25,?o26,?o27,trivial⟩<;>intro u a w' ev hJ hd K hK
        case o0=>
         have e8:tg a 8= .pointer (some ⟨b,0,none⟩):=ev 8 xdd;have HK:=hid hK;clear hK ev hd;go_simp;exact HK.out _ _ xzc hJ rfl id
        case o1=>
         have e82:tg a 82= .pointer (some ⟨b,1,none⟩):=(ev 82 xdd).trans (hd 0 _ xk rfl);have g0:=xob c1 (hJ.1 b xo);have HK:=hid hK;clear hK ev hd;go_simp;exact HK.out _ _ xzc hJ rfl id
        case o2=>
         have e7:tg a 7= .slice (some ⟨gn,0,none⟩) (N+1) (N+1):=ev 7 xdd;have HK:=hid hK;clear hK ev hd;go_simp;exact HK.out _ _ xzc hJ rfl id
        case o3=>
         have e9:tg a 9= .int .i64 n:=ev 9 xdd;have HK:=hid hK;clear hK ev hd;go_simp;exact HK.out _ _ xzc hJ rfl id
        case o4=>
         have e84:tg a 84= .slice (some ⟨gn,0,none⟩) (N+1) (N+1):=(ev 84 xdd).trans (hd 2 _ xk rfl);have e85:tg a 85= .int .i64 n:=(ev 85 xdd).trans (hd 3 _ xk rfl);have HK:=hid hK;clear hK ev hd;go_simp;exact HK.out _ _ xzc hJ rfl id
        case o5=>
         have e86:tg a 86= .pointer (some ⟨gn,n*3,none⟩):=(ev 86 xdd).trans (hd 4 _ xk rfl);have HK:=hid hK;clear hK ev hd;go_simp;exact HK.out _ _ xzc hJ rfl id
        case o6=>
         have e87:tg a 87= .pointer (some ⟨gn,n*3+2,none⟩):=(ev 87 xdd).trans (hd 5 _ xk rfl);have g0:=xob n2 (hJ.1 gn xo);have HK:=hid hK;clear hK ev hd;go_simp;exact HK.out _ _ xzc hJ rfl id
        case o7=>
         have e8:tg a 8= .pointer (some ⟨b,0,none⟩):=ev 8 xdd;have HK:=hid hK;clear hK ev hd;go_simp;exact HK.out _ _ xzc hJ rfl id
        case o8=>
         have e89:tg a 89= .pointer (some ⟨b,2,none⟩):=(ev 89 xdd).trans (hd 7 _ xk rfl);have g0:=xob c2 (hJ.1 b xo);have HK:=hid hK;clear hK ev hd;go_simp;exact HK.out _ _ xzc hJ rfl id
        case o9=>
         have e7:tg a 7= .slice (some ⟨gn,0,none⟩) (N+1) (N+1):=ev 7 xdd;have HK:=hid hK;clear hK ev hd;go_simp;exact HK.out _ _ xzc hJ rfl id
        case o10=>
         have e9:tg a 9= .int .i64 n:=ev 9 xdd;have HK:=hid hK;clear hK ev hd;go_simp;exact HK.out _ _ xzc hJ rfl id
        case o11=>
         have e91:tg a 91= .slice (some ⟨gn,0,none⟩) (N+1) (N+1):=(ev 91 xdd).trans (hd 9 _ xk rfl);have e92:tg a 92= .int .i64 n:=(ev 92 xdd).trans (hd 10 _ xk rfl);have HK:=hid hK;clear hK ev hd;go_simp;exact HK.out _ _ xzc hJ rfl id
        case o12=>
         have e93:tg a 93= .pointer (some ⟨gn,n*3,none⟩):=(ev 93 xdd).trans (hd 11 _ xk rfl);have HK:=hid hK;clear hK ev hd;go_simp;exact HK.out _ _ xzc hJ rfl id
        case o13=>
         have e94:tg a 94= .pointer (some ⟨gn,n*3+2,none⟩):=(ev 94 xdd).trans (hd 12 _ xk rfl);have g0:=xob n2 (hJ.1 gn xo);have HK:=hid hK;clear hK ev hd;go_simp;exact HK.out _ _ xzc hJ rfl id
        case o14=>
         have e7:tg a 7= .slice (some ⟨gn,0,none⟩) (N+1) (N+1):=ev 7 xdd;have HK:=hid hK;clear hK ev hd;go_simp;exact HK.out _ _ xzc hJ rfl id
        case o15=>
         have e9:tg a 9= .int .i64 n:=ev 9 xdd;have HK:=hid hK;clear hK ev hd;go_simp;exact HK.out _ _ xzc hJ rfl id
        case o16=>
         have e96:tg a 96= .slice (some ⟨gn,0,none⟩) (N+1) (N+1):=(ev 96 xdd).trans (hd 14 _ xk rfl);have e97:tg a 97= .int .i64 n:=(ev 97 xdd).trans (hd 15 _ xk rfl);have HK:=hid hK;clear hK ev hd;go_simp;exact HK.out _ _ xzc hJ rfl id
        case o17=>
         have e98:tg a 98= .pointer (some ⟨gn,n*3,none⟩):=(ev 98 xdd).trans (hd 16 _ xk rfl);have HK:=hid hK;clear hK ev hd;go_simp;exact HK.out _ _ xzc hJ rfl id
        case o18=>
         have e99:tg a 99= .pointer (some ⟨gn,n*3,none⟩):=(ev 99 xdd).trans (hd 17 _ xk rfl);have HK:=hid hK;clear hK ev hd;go_simp;exact HK.out _ _ xzc hJ rfl id
        case o19=>
         have e100:tg a 100= .pointer (some ⟨gn,n*3,none⟩):=(ev 100 xdd).trans (hd 18 _ xk rfl);have g0:=xob n0 (hJ.1 gn xo);have HK:=hid hK;clear hK ev hd;go_simp;exact HK.out _ _ xzc hJ rfl id
        case o20=>
         have e7:tg a 7= .slice (some ⟨gn,0,none⟩) (N+1) (N+1):=ev 7 xdd;have HK:=hid hK;clear hK ev hd;go_simp;exact HK.out _ _ xzc hJ rfl id
        case o21=>
         have e9:tg a 9= .int .i64 n:=ev 9 xdd;have HK:=hid hK;clear hK ev hd;go_simp;exact HK.out _ _ xzc hJ rfl id
        case o22=>
         have e102:tg a 102= .slice (some ⟨gn,0,none⟩) (N+1) (N+1):=(ev 102 xdd).trans (hd 20 _ xk rfl);have e103:tg a 103= .int .i64 n:=(ev 103 xdd).trans (hd 21 _ xk rfl);have HK:=hid hK;clear hK ev hd;go_simp;exact HK.out _ _ xzc hJ rfl id
        case o23=>
         have e104:tg a 104= .pointer (some ⟨gn,n*3,none⟩):=(ev 104 xdd).trans (hd 22 _ xk rfl);have HK:=hid hK;clear hK ev hd;go_simp;exact HK.out _ _ xzc hJ rfl id
        case o24=>
         have e105:tg a 105= .pointer (some ⟨gn,n*3,none⟩):=(ev 105 xdd).trans (hd 23 _ xk rfl);have HK:=hid hK;clear hK ev hd;go_simp;exact HK.out _ _ xzc hJ rfl id
        case o25=>
         have e106:tg a 106= .pointer (some ⟨gn,n*3+1,none⟩):=(ev 106 xdd).trans (hd 24 _ xk rfl);have g0:=xob n1 (hJ.1 gn xo);have HK:=hid hK;clear hK ev hd;go_simp;exact HK.out _ _ xzc hJ rfl id
        case o26=>
         have e83:tg a 83= .slice (some ⟨g1,0,none⟩) N N:=(ev 83 xdd).trans (hd 1 _ xk rfl);have e88:tg a 88= .int .i64 p:=(ev 88 xdd).trans (hd 6 _ xk rfl);have HK:=hid hK;clear hK ev hd;go_simp;exact HK.out _ _ xzc hJ rfl id
        case o27=>
         have e108:tg a 108= .pointer (some ⟨g1,p,none⟩):=(ev 108 xdd).trans (hd 26 _ xk rfl);have e101:tg a 101= .int .i64 (fm n):=(ev 101 xdd).trans (hd 19 _ xk rfl);obtain ⟨⟨y,hy⟩,hf,hj⟩:=JST.out w' hJ;have HK:=hid hK;clear hK ev hd;go_simp;exact HK.out _ _ (fun h=>rfl) hj.1 hj.2 (fun _=>hj.2)
       case fin=>
        intro u w7 hJ hG;have h90:u 90= .slice (some ⟨g2,0,none⟩) N N:=hG 8 _ rfl;have h95:u 95= .int .i64 p:=hG 13 _ rfl;have h107:u 107= .int .i64 (fc n):=hG 25 _ rfl;have hnew:OWn w7:=hG 27 _ rfl;rw [HON'.out] at hnew;have HR17:=hid hnew;have hz7:w7.heap.size=w6.heap.size:=hJ.2.1;have HQ7:Hid (∀q,q≠g1→w7.heap[q]? =w6.heap[q]?):=hid hJ.1;have HR27:=hid (owns_heap HR26.out fun j hj=>by cases hj;exact HQ7.out g2 hg12.symm);obtain ⟨y0,y1⟩:=own_cell HR27.out (j:=p) (by rw [HBL.out];exact hpV);generalize (bltF L fc fun m=>decide (n<m)).getD p 0=y at y0;have HJ7:=hid (show Below wk.heap.size wk w7 from ⟨hJ.2.2.1.1.trans HJ6.out.os,hJ.2.2.1.2.1.trans HJ6.out.tape,hJ.2.2.1.2.2.trans HJ6.out.output,by rw [hz7];exact HJ6.out.size,fun q hq=>(HQ7.out q xo).trans (HJ6.out.block q hq)⟩);have HRN7:=hid (owns_heap HRN6.out fun j hj=>by cases hj;exact HQ7.out gn hng1);replace c0:=xob c0 (HQ7.out b hgb1.symm);replace c1:=xob c1 (HQ7.out b hgb1.symm);replace c2:=xob c2 (HQ7.out b hgb1.symm);clear hG hJ hnew HR26 HJ6 HRN6 JIN JST n0 n1 n2 HQ7;simp only [mixFrame,mixL,dstsOf,List.take_succ_cons,List.take_zero,List.filterMap_cons,List.filterMap_nil,List.contains_cons,List.contains_nil,Nat.reduceBEq,Bool.or_false,Bool.false_or,Bool.or_true,Bool.true_or,if_true,if_false,Bool.false_eq_true,Nat.reduceAdd,Nat.zero_add,List.drop_succ_cons,List.drop_zero,h90,h95,h107];go_wp2
        go_roundg (n-1)
        case measure=>omega
        case rel=>
         refine ⟨by omega,congrArg _ xo,?_,?_,?_,?_,?_,?_,?_,?_⟩
         · exact (World.cell?_setCell_other _ _ _ _ (by intro e;cases e;exact hgb2 rfl)).trans c0
         · exact (World.cell?_setCell_other _ _ _ _ (by intro e;cases e;exact hgb2 rfl)).trans c1
         · exact (World.cell?_setCell_other _ _ _ _ (by intro e;cases e;exact hgb2 rfl)).trans c2
         · exact hid (owns_heap HR17.out fun j hj=>by cases hj;exact heap_setCell_ne _ _ _ hg12)
         · have:=own_set HR27.out p (fc n);rw [S2.out] at this;exact hid this
         · exact hid (HJ7.out.setCell xdo _)
         · exact hid (owns_heap HRN7.out fun j hj=>by cases hj;exact heap_setCell_ne _ _ _ hng2)
         · simp;omega
     · have hgd:decide ((n:Int)-lc≥0)=false:=by simp;omega
       have hlt:n<lc:=xo;have hlcb:lc≤8192:=by have:=HLC.out;omega
       obtain ⟨m1,hm1⟩:∃m1,2*n=m1:=⟨_,rfl⟩
       obtain ⟨m2,hm2⟩:∃m2,m1+1=m2:=⟨_,rfl⟩
       have ABn:=hid (AB.out n hn0 hlt);rw [hm1,hm2] at ABn;have hN2:m2≤N:=by have:=HLC.out;omega
       have hw1:IntKind.i64.wrap (m1:Int)=(m1:Int):=IntWalk.i64_in _ xo;have hw2:IntKind.i64.wrap (m2:Int)=(m2:Int):=IntWalk.i64_in _ xo;have hv1:2*(n:Int)=(m1:Int):=xo;have hv2:(m1:Int)+1=(m2:Int):=xo;obtain ⟨na0,-⟩:=own_cell HRN.out (j:=m1*3) xo;obtain ⟨na1,-⟩:=own_cell HRN.out (j:=m1*3+1) xo;obtain ⟨nb0,-⟩:=own_cell HRN.out (j:=m2*3) xo;obtain ⟨nb1,-⟩:=own_cell HRN.out (j:=m2*3+1) xo;rw [flat3_0 xo,show dn fm n m1=fm m1 from if_pos xo] at na0;rw [flat3_1 xo,show dn fc n m1=fc m1 from if_pos xo] at na1;rw [flat3_0 xo,show dn fm n m2=fm m2 from if_pos xo] at nb0;rw [flat3_1 xo,show dn fc n m2=fc m2 from if_pos xo] at nb1;have hb1I:(m1:Int)<(N:Int)+1:=xo;have hb2I:(m2:Int)<(N:Int)+1:=xo;have hnbI:(n:Int)<(N:Int)+1:=xo;clear hm1 hm2 hlen;go_wp2
       refine wp_region_late 16 xk (N:=111) rfl xk xk xdd (fun w'=>Below wr.heap.size wr w') (Ext 33) (factAt [.is (.slice (some ⟨gn,0,none⟩) (N+1) (N+1)),.is (.int .i64 n),.is (.slice (some ⟨gn,0,none⟩) (N+1) (N+1)),.is (.int .i64 n),.is (.int .i64 m1),.is (.pointer (some ⟨gn,m1*3,none⟩)),.is (.pointer (some ⟨gn,m1*3,none⟩)),.is (tdV (fm m1) (fc m1)),.is (.slice (some ⟨gn,0,none⟩) (N+1) (N+1)),.is (.int .i64 n),.is (.int .i64 m1),.is (.int .i64 m2),.is (.pointer (some ⟨gn,m2*3,none⟩)),.is (.pointer (some ⟨gn,m2*3,none⟩)),.is (tdV (fm m2) (fc m2)),.is (tdV (fm n) (fc n))]) (factAt_stays _) br.drew ?steps ?fin
       case steps=>
        refine ⟨?o0,?o1,?o2,?o3,?o4,?o5,?o6,?o7,?o8,?o9,?o10,?o11,?o12,?o13,?o14,?o15,trivial⟩<;>intro u a w' ev hJ hd K hK
        case o0=>
         have e7:tg a 7= .slice (some ⟨gn,0,none⟩) (N+1) (N+1):=ev 7 xdd;have HK:=hid hK;clear hK ev hd;go_simp;exact HK.out _ _ xzc hJ rfl (Ext.refl _ _)
        case o1=>
         have e9:tg a 9= .int .i64 n:=ev 9 xdd;have HK:=hid hK;clear hK ev hd;go_simp;exact HK.out _ _ xzc hJ rfl (Ext.refl _ _)
        case o2=>
         have e7:tg a 7= .slice (some ⟨gn,0,none⟩) (N+1) (N+1):=ev 7 xdd;have HK:=hid hK;clear hK ev hd;go_simp;exact HK.out _ _ xzc hJ rfl (Ext.refl _ _)
        case o3=>
         have e9:tg a 9= .int .i64 n:=ev 9 xdd;have HK:=hid hK;clear hK ev hd;go_simp;exact HK.out _ _ xzc hJ rfl (Ext.refl _ _)
        case o4=>
         have e67:tg a 67= .int .i64 n:=(ev 67 xdd).trans (hd 3 _ xk rfl);have HK:=hid hK;clear hK ev hd;go_simp;exact HK.out _ _ xzc hJ rfl (Ext.refl _ _)
        case o5=>
         have e66:tg a 66= .slice (some ⟨gn,0,none⟩) (N+1) (N+1):=(ev 66 xdd).trans (hd 2 _ xk rfl);have e68:tg a 68= .int .i64 m1:=(ev 68 xdd).trans (hd 4 _ xk rfl);have HK:=hid hK;clear hK ev hd;go_simp;exact HK.out _ _ xzc hJ rfl (Ext.refl _ _)
        case o6=>
         have e69:tg a 69= .pointer (some ⟨gn,m1*3,none⟩):=(ev 69 xdd).trans (hd 5 _ xk rfl);have HK:=hid hK;clear hK ev hd;go_simp;exact HK.out _ _ xzc hJ rfl (Ext.refl _ _)
        case o7=>
         have e70:tg a 70= .pointer (some ⟨gn,m1*3,none⟩):=(ev 70 xdd).trans (hd 6 _ xk rfl);have g0:=xjc hJ na0;have g1:=xjc hJ na1;have HK:=hid hK;clear hK ev hd;go_simp;exact HK.out _ _ xzc hJ rfl (Ext.refl _ _)
        case o8=>
         have e7:tg a 7= .slice (some ⟨gn,0,none⟩) (N+1) (N+1):=ev 7 xdd;have HK:=hid hK;clear hK ev hd;go_simp;exact HK.out _ _ xzc hJ rfl (Ext.refl _ _)
        case o9=>
         have e9:tg a 9= .int .i64 n:=ev 9 xdd;have HK:=hid hK;clear hK ev hd;go_simp;exact HK.out _ _ xzc hJ rfl (Ext.refl _ _)
        case o10=>
         have e73:tg a 73= .int .i64 n:=(ev 73 xdd).trans (hd 9 _ xk rfl);have HK:=hid hK;clear hK ev hd;go_simp;exact HK.out _ _ xzc hJ rfl (Ext.refl _ _)
        case o11=>
         have e74:tg a 74= .int .i64 m1:=(ev 74 xdd).trans (hd 10 _ xk rfl);have HK:=hid hK;clear hK ev hd;go_simp;exact HK.out _ _ xzc hJ rfl (Ext.refl _ _)
        case o12=>
         have e72:tg a 72= .slice (some ⟨gn,0,none⟩) (N+1) (N+1):=(ev 72 xdd).trans (hd 8 _ xk rfl);have e75:tg a 75= .int .i64 m2:=(ev 75 xdd).trans (hd 11 _ xk rfl);have HK:=hid hK;clear hK ev hd;go_simp;exact HK.out _ _ xzc hJ rfl (Ext.refl _ _)
        case o13=>
         have e76:tg a 76= .pointer (some ⟨gn,m2*3,none⟩):=(ev 76 xdd).trans (hd 12 _ xk rfl);have HK:=hid hK;clear hK ev hd;go_simp;exact HK.out _ _ xzc hJ rfl (Ext.refl _ _)
        case o14=>
         have e77:tg a 77= .pointer (some ⟨gn,m2*3,none⟩):=(ev 77 xdd).trans (hd 13 _ xk rfl);have g0:=xjc hJ nb0;have g1:=xjc hJ nb1;have HK:=hid hK;clear hK ev hd;go_simp;exact HK.out _ _ xzc hJ rfl (Ext.refl _ _)
        case o15=>
         have e71:tg a 71=tdV (fm m1) (fc m1):=(ev 71 xdd).trans (hd 7 _ xk rfl);have e78:tg a 78=tdV (fm m2) (fc m2):=(ev 78 xdd).trans (hd 14 _ xk rfl);have HK:=hid hK;have HC:=hid (ABn.out w');have hzJ:=hJ.size;clear hK ev hd;go_simp;refine HC.out.mono ?_;rintro e w'' ⟨rfl,hb⟩;exact HK.out _ _ xzc (hJ.trans (hb.mono hzJ)) rfl (Ext.below hb)
       case fin=>
       intro u w5 hJ hG;have h79:u 79=tdV (fm n) (fc n):=hG 15 _ rfl;have h64:u 64= .slice (some ⟨gn,0,none⟩) (N+1) (N+1):=hG 0 _ rfl;have h65:u 65= .int .i64 n:=hG 1 _ rfl;have hb5:Below wr.heap.size wr w5:=hJ;have hz5:=hb5.size;replace d0:=(hb5.cell (p:=⟨gn,n*3,none⟩) hgr).trans d0;replace d1:=(hb5.cell (p:=⟨gn,n*3+1,none⟩) hgr).trans d1;replace e0:=(hb5.frozen (p:=⟨gn,n*3,none⟩) hgr).trans e0;replace e1:=(hb5.frozen (p:=⟨gn,n*3+1,none⟩) hgr).trans e1;generalize (flat3 (dn fm n) (dn fc n) (pcF L) (N+1)).getD (n*3) 0=y0 at d0;generalize (flat3 (dn fm n) (dn fc n) (pcF L) (N+1)).getD (n*3+1) 0=y1 at d1;clear hG hJ na0 na1 nb0 nb1 hw1 hw2 hv1 hv2 ABn;simp only [mixFrame,mixL,dstsOf,List.take_succ_cons,List.take_zero,List.filterMap_cons,List.filterMap_nil,List.contains_cons,List.contains_nil,Nat.reduceBEq,Bool.or_false,Bool.false_or,Bool.or_true,Bool.true_or,if_true,if_false,Bool.false_eq_true,Nat.reduceAdd,Nat.zero_add,List.drop_succ_cons,List.drop_zero,h79,h64,h65];go_wp2
       -- the node is told: w6
       have hnbI:(n:Int)<(N:Int)+1:=xo;have hng1:gn≠g1:=xo;have hng2:gn≠g2:=xo;have hngb:b≠gn:=xo;have HQ6:Hid (∀q,q≠gn→((w5.setCell ⟨gn,n*3,none⟩ (.int .i64 (fm n))).setCell ⟨gn,n*3+1,none⟩ (.int .i64 (fc n))).heap[q]? =w5.heap[q]?):=hid fun q hq=>by rw [heap_setCell_ne _ _ _ hq,heap_setCell_ne _ _ _ hq]
       have HRN6:Hid (((w5.setCell ⟨gn,n*3,none⟩ (.int .i64 (fm n))).setCell ⟨gn,n*3+1,none⟩ (.int .i64 (fc n))).ownsRow wk.heap.size 138 3 (.slice (some ⟨gn,0,none⟩) (N+1) (N+1)) (N+1) (ndRow (dn fm (n-1)) (dn fc (n-1)) (pcF L) (N+1))):=by
        have o1:=own_set (owns_below HRN.out hb5) (n*3) (fm n);rw [flat3_set0 xo,putF_dn _ _ hn0] at o1;have o2:=own_set o1 (n*3+1) (fc n);rw [flat3_set1 xo,putF_dn _ _ hn0] at o2;exact hid o2
       have HJ6:Hid (Below wk.heap.size wk ((w5.setCell ⟨gn,n*3,none⟩ (.int .i64 (fm n))).setCell ⟨gn,n*3+1,none⟩ (.int .i64 (fc n)))):=hid (((HJr.out.trans (hb5.mono HJrs)).setCell xdo _).setCell xdo _);have hz6:((w5.setCell ⟨gn,n*3,none⟩ (.int .i64 (fm n))).setCell ⟨gn,n*3+1,none⟩ (.int .i64 (fc n))).heap.size=w5.heap.size:=by simp
       generalize (w5.setCell ⟨gn,n*3,none⟩ (.int .i64 (fm n))).setCell ⟨gn,n*3+1,none⟩ (.int .i64 (fc n))=w6 at *;replace c0:=(World.cell?_of_block (a:=⟨b,0,none⟩) (HQ6.out b hngb)).trans ((hb5.cell (p:=⟨b,0,none⟩) hbr).trans c0);replace c1:=(World.cell?_of_block (a:=⟨b,1,none⟩) (HQ6.out b hngb)).trans ((hb5.cell (p:=⟨b,1,none⟩) hbr).trans c1);replace c2:=(World.cell?_of_block (a:=⟨b,2,none⟩) (HQ6.out b hngb)).trans ((hb5.cell (p:=⟨b,2,none⟩) hbr).trans c2);have HR16:=hid (owns_heap (owns_below HR1.out hb5) fun j hj=>by cases hj;exact HQ6.out g1 hng1.symm);have HR26:=hid (owns_heap (owns_below HR2.out hb5) fun j hj=>by cases hj;exact HQ6.out g2 hng2.symm);have hlen6:(flat3 (dn fm (n-1)) (dn fc (n-1)) (pcF L) (N+1)).length=(N+1)*3:=flat3_length;have hpV:=HPV.out n hn0 hnN;have hpG:=HPG.out n hn0 hnN;have S1:=hid (HBS.out fm n hn0 hnN);have S1':=hid (HBS2.out fm n hn0 hnN);have S2:=hid (HBS.out fc n hn0 hnN);obtain ⟨p,hpp⟩:∃p,vpos L n=p:=⟨_,rfl⟩
       rw [hpp] at hpV hpG S1 S1' S2;obtain ⟨n0,-⟩:=own_cell HRN6.out (j:=n*3) xo;obtain ⟨n1,-⟩:=own_cell HRN6.out (j:=n*3+1) xo;obtain ⟨n2,-⟩:=own_cell HRN6.out (j:=n*3+2) xo;rw [flat3_0 xo,show dn fm (n-1) n=fm n from if_pos xo] at n0;rw [flat3_1 xo,show dn fc (n-1) n=fc n from if_pos xo] at n1;rw [flat3_2 xo,show pcF L n=(p:Int) by rw [pcF,if_neg xo,hpG]] at n2;obtain ⟨OWo,hOo⟩:∃P:World→Prop,P=fun W=>W.ownsRow wz.heap.size 2 1 (.slice (some ⟨g1,0,none⟩) N N) N ((bltF L fm fun m=>decide (n<m)).map (Value.int .i64)):=⟨_,rfl⟩
       obtain ⟨OWn,hOn⟩:∃P:World→Prop,P=fun W=>W.ownsRow wz.heap.size 2 1 (.slice (some ⟨g1,0,none⟩) N N) N ((bltF L fm fun m=>decide (n-1<m)).map (Value.int .i64)):=⟨_,rfl⟩
       have JIN:Hid (JB g1 w6.drew OWo OWn w6.drew):=hid ⟨fun _ _=>rfl,rfl,⟨rfl,rfl,rfl⟩,.inl (by rw [hOo];exact owns_heap HR16.out fun _ _=>rfl)⟩;have JST:Hid (∀w',JB g1 w6.drew OWo OWn w'→(∃y,w'.cell? ⟨g1,p,none⟩=some (.int .i64 y))∧w'.frozen? ⟨g1,p,none⟩=false∧JB g1 w6.drew OWo OWn (w'.setCell ⟨g1,p,none⟩ (.int .i64 (fm n)))∧OWn (w'.setCell ⟨g1,p,none⟩ (.int .i64 (fm n)))):=hid (by
        rintro w' ⟨j1,j2,j4,j3⟩;have key:(∃y,w'.cell? ⟨g1,p,none⟩=some (.int .i64 y))∧w'.frozen? ⟨g1,p,none⟩=false∧OWn (w'.setCell ⟨g1,p,none⟩ (.int .i64 (fm n))):=by
         rcases j3 with j3|j3
         · rw [hOo] at j3;obtain ⟨y0,y1⟩:=own_cell j3 (j:=p) (by rw [HBL.out];exact hpV);have y2:=own_set j3 p (fm n);rw [S1.out] at y2;rw [hOn];exact ⟨⟨_,y0⟩,y1,y2⟩
         · rw [hOn] at j3;obtain ⟨y0,y1⟩:=own_cell j3 (j:=p) (by rw [HBL.out];exact hpV);have y2:=own_set j3 p (fm n);rw [S1'.out] at y2;rw [hOn];exact ⟨⟨_,y0⟩,y1,y2⟩
        exact ⟨key.1,key.2.1,⟨fun q hq=>(heap_setCell_ne _ _ _ hq).trans (j1 q hq),by rw [World.size_setCell];exact j2,j4,.inr key.2.2⟩,key.2.2⟩)
       have HON':=hid hOn;clear hOo hOn hpG hpp hlen6 HR1 HR2 HJr HRN HQ6 d0 d1 e0 e1 hb5 S1 S1' HR16;refine wp_region_late 28 xk (N:=111) rfl xk xk xdd (fun w'=>JB g1 w6.drew OWo OWn w') (fun W W'=>OWn W→OWn W') (factRAt [.is (.pointer (some ⟨b,1,none⟩)),.is (.slice (some ⟨g1,0,none⟩) N N),.is (.slice (some ⟨gn,0,none⟩) (N+1) (N+1)),.is (.int .i64 n),.is (.pointer (some ⟨gn,n*3,none⟩)),.is (.pointer (some ⟨gn,n*3+2,none⟩)),.is (.int .i64 p),.is (.pointer (some ⟨b,2,none⟩)),.is (.slice (some ⟨g2,0,none⟩) N N),.is (.slice (some ⟨gn,0,none⟩) (N+1) (N+1)),.is (.int .i64 n),.is (.pointer (some ⟨gn,n*3,none⟩)),.is (.pointer (some ⟨gn,n*3+2,none⟩)),.is (.int .i64 p),.is (.slice (some ⟨gn,0,none⟩) (N+1) (N+1)),.is (.int .i64 n),.is (.pointer (some ⟨gn,n*3,none⟩)),.is (.pointer (some ⟨gn,n*3,none⟩)),.is (.pointer (some ⟨gn,n*3,none⟩)),.is (.int .i64 (fm n)),.is (.slice (some ⟨gn,0,none⟩) (N+1) (N+1)),.is (.int .i64 n),.is (.pointer (some ⟨gn,n*3,none⟩)),.is (.pointer (some ⟨gn,n*3,none⟩)),.is (.pointer (some ⟨gn,n*3+1,none⟩)),.is (.int .i64 (fc n)),.is (.pointer (some ⟨g1,p,none⟩)),.now OWn (fun _ _ h k=>h k)]) (factRAt_stays _) JIN.out ?steps ?fin
       case steps=>
        refine ⟨?o0,?o1,?o2,?o3,?o4,?o5,?o6,?o7,?o8,?o9,?o10,?o11,?o12,?o13,?o14,?o15,?o16,?o17,?o18,?o19,?o20,?o21,?o22,?o23,?o24,?o25,?o26,?o27,trivial⟩<;>intro u a w' ev hJ hd K hK
        case o0=>
         have e8:tg a 8= .pointer (some ⟨b,0,none⟩):=ev 8 xdd;have HK:=hid hK;clear hK ev hd;go_simp;exact HK.out _ _ xzc hJ rfl id
        case o1=>
         have e82:tg a 82= .pointer (some ⟨b,1,none⟩):=(ev 82 xdd).trans (hd 0 _ xk rfl);have g0:=xob c1 (hJ.1 b xo);have HK:=hid hK;clear hK ev hd;go_simp;exact HK.out _ _ xzc hJ rfl id
        case o2=>
         have e7:tg a 7= .slice (some ⟨gn,0,none⟩) (N+1) (N+1):=ev 7 xdd;have HK:=hid hK;clear hK ev hd;go_simp;exact HK.out _ _ xzc hJ rfl id
        case o3=>
         have e9:tg a 9= .int .i64 n:=ev 9 xdd;have HK:=hid hK;clear hK ev hd;go_simp;exact HK.out _ _ xzc hJ rfl id
        case o4=>
         have e84:tg a 84= .slice (some ⟨gn,0,none⟩) (N+1) (N+1):=(ev 84 xdd).trans (hd 2 _ xk rfl);have e85:tg a 85= .int .i64 n:=(ev 85 xdd).trans (hd 3 _ xk rfl);have HK:=hid hK;clear hK ev hd;go_simp;exact HK.out _ _ xzc hJ rfl id
        case o5=>
         have e86:tg a 86= .pointer (some ⟨gn,n*3,none⟩):=(ev 86 xdd).trans (hd 4 _ xk rfl);have HK:=hid hK;clear hK ev hd;go_simp;exact HK.out _ _ xzc hJ rfl id
        case o6=>
         have e87:tg a 87= .pointer (some ⟨gn,n*3+2,none⟩):=(ev 87 xdd).trans (hd 5 _ xk rfl);have g0:=xob n2 (hJ.1 gn xo);have HK:=hid hK;clear hK ev hd;go_simp;exact HK.out _ _ xzc hJ rfl id
        case o7=>
         have e8:tg a 8= .pointer (some ⟨b,0,none⟩):=ev 8 xdd;have HK:=hid hK;clear hK ev hd;go_simp;exact HK.out _ _ xzc hJ rfl id
        case o8=>
         have e89:tg a 89= .pointer (some ⟨b,2,none⟩):=(ev 89 xdd).trans (hd 7 _ xk rfl);have g0:=xob c2 (hJ.1 b xo);have HK:=hid hK;clear hK ev hd;go_simp;exact HK.out _ _ xzc hJ rfl id
        case o9=>
         have e7:tg a 7= .slice (some ⟨gn,0,none⟩) (N+1) (N+1):=ev 7 xdd;have HK:=hid hK;clear hK ev hd;go_simp;exact HK.out _ _ xzc hJ rfl id
        case o10=>
         have e9:tg a 9= .int .i64 n:=ev 9 xdd;have HK:=hid hK;clear hK ev hd;go_simp;exact HK.out _ _ xzc hJ rfl id
        case o11=>
         have e91:tg a 91= .slice (some ⟨gn,0,none⟩) (N+1) (N+1):=(ev 91 xdd).trans (hd 9 _ xk rfl);have e92:tg a 92= .int .i64 n:=(ev 92 xdd).trans (hd 10 _ xk rfl);have HK:=hid hK;clear hK ev hd;go_simp;exact HK.out _ _ xzc hJ rfl id
        case o12=>
         have e93:tg a 93= .pointer (some ⟨gn,n*3,none⟩):=(ev 93 xdd).trans (hd 11 _ xk rfl);have HK:=hid hK;clear hK ev hd;go_simp;exact HK.out _ _ xzc hJ rfl id
        case o13=>
         have e94:tg a 94= .pointer (some ⟨gn,n*3+2,none⟩):=(ev 94 xdd).trans (hd 12 _ xk rfl);have g0:=xob n2 (hJ.1 gn xo);have HK:=hid hK;clear hK ev hd;go_simp;exact HK.out _ _ xzc hJ rfl id
        case o14=>
         have e7:tg a 7= .slice (some ⟨gn,0,none⟩) (N+1) (N+1):=ev 7 xdd;have HK:=hid hK;clear hK ev hd;go_simp;exact HK.out _ _ xzc hJ rfl id
        case o15=>
         have e9:tg a 9= .int .i64 n:=ev 9 xdd;have HK:=hid hK;clear hK ev hd;go_simp;exact HK.out _ _ xzc hJ rfl id
        case o16=>
         have e96:tg a 96= .slice (some ⟨gn,0,none⟩) (N+1) (N+1):=(ev 96 xdd).trans (hd 14 _ xk rfl);have e97:tg a 97= .int .i64 n:=(ev 97 xdd).trans (hd 15 _ xk rfl);have HK:=hid hK;clear hK ev hd;go_simp;exact HK.out _ _ xzc hJ rfl id
        case o17=>
         have e98:tg a 98= .pointer (some ⟨gn,n*3,none⟩):=(ev 98 xdd).trans (hd 16 _ xk rfl);have HK:=hid hK;clear hK ev hd;go_simp;exact HK.out _ _ xzc hJ rfl id
        case o18=>
         have e99:tg a 99= .pointer (some ⟨gn,n*3,none⟩):=(ev 99 xdd).trans (hd 17 _ xk rfl);have HK:=hid hK;clear hK ev hd;go_simp;exact HK.out _ _ xzc hJ rfl id
        case o19=>
         have e100:tg a 100= .pointer (some ⟨gn,n*3,none⟩):=(ev 100 xdd).trans (hd 18 _ xk rfl);have g0:=xob n0 (hJ.1 gn xo);have HK:=hid hK;clear hK ev hd;go_simp;exact HK.out _ _ xzc hJ rfl id
        case o20=>
         have e7:tg a 7= .slice (some ⟨gn,0,none⟩) (N+1) (N+1):=ev 7 xdd;have HK:=hid hK;clear hK ev hd;go_simp;exact HK.out _ _ xzc hJ rfl id
        case o21=>
         have e9:tg a 9= .int .i64 n:=ev 9 xdd;have HK:=hid hK;clear hK ev hd;go_simp;exact HK.out _ _ xzc hJ rfl id
        case o22=>
         have e102:tg a 102= .slice (some ⟨gn,0,none⟩) (N+1) (N+1):=(ev 102 xdd).trans (hd 20 _ xk rfl);have e103:tg a 103= .int .i64 n:=(ev 103 xdd).trans (hd 21 _ xk rfl);have HK:=hid hK;clear hK ev hd;go_simp;exact HK.out _ _ xzc hJ rfl id
        case o23=>
         have e104:tg a 104= .pointer (some ⟨gn,n*3,none⟩):=(ev 104 xdd).trans (hd 22 _ xk rfl);have HK:=hid hK;clear hK ev hd;go_simp;exact HK.out _ _ xzc hJ rfl id
        case o24=>
         have e105:tg a 105= .pointer (some ⟨gn,n*3,none⟩):=(ev 105 xdd).trans (hd 23 _ xk rfl);have HK:=hid hK;clear hK ev hd;go_simp;exact HK.out _ _ xzc hJ rfl id
        case o25=>
         have e106:tg a 106= .pointer (some ⟨gn,n*3+1,none⟩):=(ev 106 xdd).trans (hd 24 _ xk rfl);have g0:=xob n1 (hJ.1 gn xo);have HK:=hid hK;clear hK ev hd;go_simp;exact HK.out _ _ xzc hJ rfl id
        case o26=>
         have e83:tg a 83= .slice (some ⟨g1,0,none⟩) N N:=(ev 83 xdd).trans (hd 1 _ xk rfl);have e88:tg a 88= .int .i64 p:=(ev 88 xdd).trans (hd 6 _ xk rfl);have HK:=hid hK;clear hK ev hd;go_simp;exact HK.out _ _ xzc hJ rfl id
        case o27=>
         have e108:tg a 108= .pointer (some ⟨g1,p,none⟩):=(ev 108 xdd).trans (hd 26 _ xk rfl);have e101:tg a 101= .int .i64 (fm n):=(ev 101 xdd).trans (hd 19 _ xk rfl);obtain ⟨⟨y,hy⟩,hf,hj⟩:=JST.out w' hJ;have HK:=hid hK;clear hK ev hd;go_simp;exact HK.out _ _ (fun h=>rfl) hj.1 hj.2 (fun _=>hj.2)
       case fin=>
        intro u w7 hJ hG;have h90:u 90= .slice (some ⟨g2,0,none⟩) N N:=hG 8 _ rfl;have h95:u 95= .int .i64 p:=hG 13 _ rfl;have h107:u 107= .int .i64 (fc n):=hG 25 _ rfl;have hnew:OWn w7:=hG 27 _ rfl;rw [HON'.out] at hnew;have HR17:=hid hnew;have hz7:w7.heap.size=w6.heap.size:=hJ.2.1;have HQ7:Hid (∀q,q≠g1→w7.heap[q]? =w6.heap[q]?):=hid hJ.1;have HR27:=hid (owns_heap HR26.out fun j hj=>by cases hj;exact HQ7.out g2 hg12.symm);obtain ⟨y0,y1⟩:=own_cell HR27.out (j:=p) (by rw [HBL.out];exact hpV);generalize (bltF L fc fun m=>decide (n<m)).getD p 0=y at y0;have HJ7:=hid (show Below wk.heap.size wk w7 from ⟨hJ.2.2.1.1.trans HJ6.out.os,hJ.2.2.1.2.1.trans HJ6.out.tape,hJ.2.2.1.2.2.trans HJ6.out.output,by rw [hz7];exact HJ6.out.size,fun q hq=>(HQ7.out q xo).trans (HJ6.out.block q hq)⟩);have HRN7:=hid (owns_heap HRN6.out fun j hj=>by cases hj;exact HQ7.out gn hng1);replace c0:=xob c0 (HQ7.out b hgb1.symm);replace c1:=xob c1 (HQ7.out b hgb1.symm);replace c2:=xob c2 (HQ7.out b hgb1.symm);clear hG hJ hnew HR26 HJ6 HRN6 JIN JST n0 n1 n2 HQ7;simp only [mixFrame,mixL,dstsOf,List.take_succ_cons,List.take_zero,List.filterMap_cons,List.filterMap_nil,List.contains_cons,List.contains_nil,Nat.reduceBEq,Bool.or_false,Bool.false_or,Bool.or_true,Bool.true_or,if_true,if_false,Bool.false_eq_true,Nat.reduceAdd,Nat.zero_add,List.drop_succ_cons,List.drop_zero,h90,h95,h107];go_wp2
        go_roundg (n-1)
        case measure=>omega
        case rel=>
         refine ⟨by omega,congrArg _ xo,?_,?_,?_,?_,?_,?_,?_,?_⟩
         · exact (World.cell?_setCell_other _ _ _ _ (by intro e;cases e;exact hgb2 rfl)).trans c0
         · exact (World.cell?_setCell_other _ _ _ _ (by intro e;cases e;exact hgb2 rfl)).trans c1
         · exact (World.cell?_setCell_other _ _ _ _ (by intro e;cases e;exact hgb2 rfl)).trans c2
         · exact hid (owns_heap HR17.out fun j hj=>by cases hj;exact heap_setCell_ne _ _ _ hg12)
         · have:=own_set HR27.out p (fc n);rw [S2.out] at this;exact hid this
         · exact hid (HJ7.out.setCell xdo _)
         · exact hid (owns_heap HRN7.out fun j hj=>by cases hj;exact heap_setCell_ne _ _ _ hng2)
         · simp;omega
   · obtain rfl:n=0:=xo;have hgc:decide (((0:Nat):Int)>0)=false:=by simp
     have q0:=(HJr.out.cell (p:=⟨w.heap.size+1,0,none⟩) xdo).trans c_r0;have q1:=(HJr.out.cell (p:=⟨w.heap.size+1,1,none⟩) xdo).trans c_r1;have q2:=(HJr.out.cell (p:=⟨w.heap.size+1,2,none⟩) xdo).trans c_r2;have p0:=(HJr.out.frozen (p:=⟨w.heap.size+1,0,none⟩) xdo).trans f_r0;have p1:=(HJr.out.frozen (p:=⟨w.heap.size+1,1,none⟩) xdo).trans f_r1;have p2:=(HJr.out.frozen (p:=⟨w.heap.size+1,2,none⟩) xdo).trans f_r2;go_wp2
     have hsw:=three_set (w2:=wr) (b:=w.heap.size+1) (x:= .int .i64 (D+1)) (y:= .slice (some ⟨g1,0,none⟩) N N) (z:= .slice (some ⟨g2,0,none⟩) N N) q0 q1 q2;refine bodyPost_ret (results_ct rfl rfl (run_loadVar_many _ Tryz.underlying33 rfl xk (three_at hsw.1 hsw.2.1 hsw.2.2))) rfl ⟨_,_,rfl,?_,?_,?_⟩
     · rw [HBL.out];have:=HR1.out;rw [HBA.out] at this;exact owns_base (owns_heap this fun j hj=>by cases hj;rw [heap_setCell_ne _ _ _ xdo,heap_setCell_ne _ _ _ xdo,heap_setCell_ne _ _ _ xdo]) xo
     · rw [HBL.out];have:=HR2.out;rw [HBA.out] at this;exact owns_base (owns_heap this fun j hj=>by cases hj;rw [heap_setCell_ne _ _ _ xdo,heap_setCell_ne _ _ _ xdo,heap_setCell_ne _ _ _ xdo]) xo
     · exact (((below_via HJr.out HSK.out xo).setCell xdo _).setCell xdo _).setCell xdo _
end
section
open Go.RowKit
theorem Equal_int64 (a b:Option Addr) (ca cb:Nat) (xs ys:List Int) (w:World) (ha:IsRow .i64 w a xs) (hb:IsRow .i64 w b ys) (hm:xs.length≤1000000000):
    Calls Tryz.prog 75 #[.slice a xs.length ca,.slice b ys.length cb] w fun e w'=>e= .returned (.bool (decide (xs=ys)))∧∃n,w'=w.drewN n:=by
 by_cases hlen:xs.length=ys.length
 · have hl1:((xs.length:Int) != (ys.length:Int))=false:=by simp [hlen]
   have HL:=hid hlen;clear hlen;have HA:=hid ha;have HB:=hid hb;clear ha hb;go_enter Tryz.func75,Tryz.ntmps75
   go_wp2
   go_loopg [13] xs.length (fun g i wr=>∃(k n:Nat),k+g=xs.length∧i= .int .i64 k∧wr=w.drewN n∧xs.take k=ys.take k)
   case atStart=>exact ⟨0,0,by omega,rfl,rfl,by simp⟩
   case round=>
    obtain ⟨k,n,hk,rfl,rfl,ht⟩:=hrel;have HT:=hid ht;clear ht;by_cases hlt:k<xs.length
    · have hlt2 : k<ys.length:=by rw [←HL.out];exact hlt
      obtain ⟨b1,o1,x,rfl,hx,h1,_⟩:=HA.out.get hlt;obtain ⟨b2,o2,y,rfl,hy,h2,_⟩:=HB.out.get hlt2;by_cases heq:x=y
      · have he:(x != y)=false:=by simpa using heq
        have HE:=hid heq;clear heq;go_wp2
        go_quiet (fail)
        go_wp2
        go_roundg (gk-1)
        case measure=>omega
        case rel=>exact ⟨k+1,n+nq,by omega,by go_num,by simp,row_take_succ HL.out hlt HT.out (hx.out.trans (HE.out.trans hy.out.symm))⟩
      · have he : (x != y)=true:=by simpa using heq
        have HE:=hid heq;clear heq;go_wp2
        go_quiet (fail)
        go_wp2
        go_ret
        exact ⟨by have:xs≠ys:=fun h=>HE.out (by rw [←hx.out,←hy.out,h])
                  simp [this],_,World.drewN_drewN _ _ _⟩
    · go_wp2
      go_ret
      have hk2:k=xs.length:=xo;have hxy:xs=ys:=by
       have:=HT.out;rw [hk2,List.take_length,HL.out,List.take_length] at this;exact this
      exact ⟨by simp [hxy],_,rfl⟩
 · have hl1:((xs.length:Int) != (ys.length:Int))=true:=by simp;omega
   have hxy:xs≠ys:=fun h=>hlen (by rw [h])
   have HX:=hid hxy;clear ha hb hlen hxy;go_enter Tryz.func75,Tryz.ntmps75
   go_wp2
   go_ret
   exact ⟨by simp [HX.out],0,rfl⟩
theorem Equal_int (a b:Option Addr) (ca cb:Nat) (xs ys:List Int) (w:World) (ha:IsRow .i64 w a xs) (hb:IsRow .i64 w b ys) (hm:xs.length≤1000000000):
    Calls Tryz.prog 76 #[.slice a xs.length ca,.slice b ys.length cb] w fun e w'=>e= .returned (.bool (decide (xs=ys)))∧∃n,w'=w.drewN n:=by
 by_cases hlen:xs.length=ys.length
 · have hl1:((xs.length:Int) != (ys.length:Int))=false:=by simp [hlen]
   have HL:=hid hlen;clear hlen;have HA:=hid ha;have HB:=hid hb;clear ha hb;go_enter Tryz.func76,Tryz.ntmps76
   go_wp2
   go_loopg [13] xs.length (fun g i wr=>∃(k n:Nat),k+g=xs.length∧i= .int .i64 k∧wr=w.drewN n∧xs.take k=ys.take k)
   case atStart=>exact ⟨0,0,by omega,rfl,rfl,by simp⟩
   case round=>
    obtain ⟨k,n,hk,rfl,rfl,ht⟩:=hrel;have HT:=hid ht;clear ht;by_cases hlt:k<xs.length
    · have hlt2 : k<ys.length:=by rw [←HL.out];exact hlt
      obtain ⟨b1,o1,x,rfl,hx,h1,_⟩:=HA.out.get hlt;obtain ⟨b2,o2,y,rfl,hy,h2,_⟩:=HB.out.get hlt2;by_cases heq:x=y
      · have he:(x != y)=false:=by simpa using heq
        have HE:=hid heq;clear heq;go_wp2
        go_quiet (fail)
        go_wp2
        go_roundg (gk-1)
        case measure=>omega
        case rel=>exact ⟨k+1,n+nq,by omega,by go_num,by simp,row_take_succ HL.out hlt HT.out (hx.out.trans (HE.out.trans hy.out.symm))⟩
      · have he : (x != y)=true:=by simpa using heq
        have HE:=hid heq;clear heq;go_wp2
        go_quiet (fail)
        go_wp2
        go_ret
        exact ⟨by have:xs≠ys:=fun h=>HE.out (by rw [←hx.out,←hy.out,h])
                  simp [this],_,World.drewN_drewN _ _ _⟩
    · go_wp2
      go_ret
      have hk2:k=xs.length:=xo;have hxy:xs=ys:=by
       have:=HT.out;rw [hk2,List.take_length,HL.out,List.take_length] at this;exact this
      exact ⟨by simp [hxy],_,rfl⟩
 · have hl1:((xs.length:Int) != (ys.length:Int))=true:=by simp;omega
   have hxy:xs≠ys:=fun h=>hlen (by rw [h])
   have HX:=hid hxy;clear ha hb hlen hxy;go_enter Tryz.func76,Tryz.ntmps76
   go_wp2
   go_ret
   exact ⟨by simp [HX.out],0,rfl⟩
theorem Same_ix (L L':Int) (ma ca ma' ca':Option Addr) (mc cc mc' cc':Nat) (ms cs ms' cs':List Int) (w:World) (hm:IsRow .i64 w ma ms) (hc:IsRow .i64 w ca cs) (hm':IsRow .i64 w ma' ms') (hc':IsRow .i64 w ca' cs') (hl:ms.length≤100000) (hl2:cs.length≤100000):
    Calls Tryz.prog 46 #[ixV L ma ms.length mc ca cs.length cc,ixV L' ma' ms'.length mc' ca' cs'.length cc'] w (Ans w (.bool (ixEq L ms cs L' ms' cs'))):=by
 have HE1:=hid (fun (W:World) (hb:Below w.heap.size w W)=>Equal_int64 ma ma' mc mc' ms ms' W (hm.below hb) (hm'.below hb) xo);have HE2:=hid (fun (W:World) (hb:Below w.heap.size w W)=>Equal_int ca ca' cc cc' cs cs' W (hc.below hb) (hc'.below hb) xo);clear hm hc hm' hc' hl hl2;unfold ixEq;by_cases h1:L=L'
 · have e1:(L==L')=true:=by simpa using h1
   have e2:decide (L=L')=true:=by simpa using h1
   rw [e2];clear h1 e2;generalize hb1:decide (ms=ms')=b1 at HE1 ⊢;clear hb1;generalize hb2:decide (cs=cs')=b2 at HE2 ⊢;clear hb2;cases b1 with
   | true=>
    go_enter Tryz.func46,Tryz.ntmps46
    go_wp2_with (first
      | (go_at_call 75;refine (HE1.out _ xbel).mono ?_;rintro e w1 ⟨rfl,n1,rfl⟩)
      | (go_at_call 76;refine (HE2.out _ xbel).mono ?_;rintro e w2 ⟨rfl,n2,rfl⟩))
    go_ret
    exact ⟨by simp,by (exact xbel)⟩
   | false=>
    go_enter Tryz.func46,Tryz.ntmps46
    go_wp2_with (first
      | (go_at_call 75;refine (HE1.out _ xbel).mono ?_;rintro e w1 ⟨rfl,n1,rfl⟩)
      | (go_at_call 76;refine (HE2.out _ xbel).mono ?_;rintro e w2 ⟨rfl,n2,rfl⟩))
    go_ret
    exact ⟨by simp,by (exact xbel)⟩
 · have e1:(L==L')=false:=by simpa using h1
   have e2:decide (L=L')=false:=by simpa using h1
   rw [e2];clear h1 e2;go_enter Tryz.func46,Tryz.ntmps46
   go_wp2
   go_ret
   exact ⟨by simp,by (exact xbel)⟩
end
section
open Go.RowKit Go.Shelf
attribute [local go_sem] Oper.semAt_some
theorem BuildIx_no (seg:Int) (wa ka va ca:Option Addr) (wc kc vc cc lw lk lv lc:Nat) (laid:Int) (w:World) (x:Int) (hx:x≠0) (CK:Hid (∀W,Below w.heap.size w W→Calls Tryz.prog 65 #[.agg #[.int .i64 seg,.slice wa lw wc,.slice ka lk kc,.slice va lv vc,.slice ca lc cc,.int .u64 laid]] W (AnsB W (.int .i64 x)))):
    Calls Tryz.prog 54 #[.agg #[.int .i64 seg,.slice wa lw wc,.slice ka lk kc,.slice va lv vc,.slice ca lc cc,.int .u64 laid]] w (FreshIx2 w 0 [] [] (.int .i64 x)):=by
 have g1:(x != 0)=true:=by simpa using hx
 clear hx;go_enter Tryz.func54,Tryz.ntmps54
 go_wp2_with fail
 refine (CK.out _ ((br.alloc (Nat.le_refl _) _).alloc xsi _)).mono ?_;rintro e w1 ⟨rfl,hb1⟩;have hz_w1:=hb1.size;try simp only [World.size_alloc,World.size_setCell] at hz_w1
 have hh:=bc6 hb1 (au6 (al6 (b:=w.heap.size) xsi));obtain ⟨c_t0,c_t1,c_t2,c_t3,c_t4,c_t5⟩:=hh;have z_t:=blt hb1 (auz (alz (b:=w.heap.size) xsi));have hh:=bc3 hb1 (al3 (b:=w.heap.size+1) xsi);obtain ⟨c_r0,c_r1,c_r2⟩:=hh;have hh:=bf3 hb1 (alz (b:=w.heap.size+1) xsi) (alf3 (b:=w.heap.size+1) xsi);obtain ⟨f_r0,f_r1,f_r2⟩:=hh;have z_r:=blt hb1 (alz (b:=w.heap.size+1) xsi);have hB1:Below w.heap.size w w1:=xbel;go_wp2
 have hsw:=three_set (w2:=w1) (b:=w.heap.size+1) (x:= .int .i64 0) (y:= .slice none 0 0) (z:= .slice none 0 0) c_r0 c_r1 c_r2;refine bodyPost_ret (results_ct rfl rfl (run_loadVar_many _ Tryz.underlying33 rfl xk (three_at hsw.1 hsw.2.1 hsw.2.2))) rfl ⟨_,_,rfl,World.ownsRow_nil _ _ _ _,World.ownsRow_nil _ _ _ _,?_⟩;exact ((hB1.setCell xdo _).setCell xdo _).setCell xdo _
theorem BuildIx_big (seg:Int) (wa ka va ca:Option Addr) (wc kc vc cc lw lk lv lc:Nat) (laid:Int) (w:World) (h8:8192<lc) (CK:Hid (∀W,Below w.heap.size w W→Calls Tryz.prog 65 #[.agg #[.int .i64 seg,.slice wa lw wc,.slice ka lk kc,.slice va lv vc,.slice ca lc cc,.int .u64 laid]] W (AnsB W (.int .i64 0)))):
    Calls Tryz.prog 54 #[.agg #[.int .i64 seg,.slice wa lw wc,.slice ka lk kc,.slice va lv vc,.slice ca lc cc,.int .u64 laid]] w (FreshIx2 w 0 [] [] (.int .i64 4)):=by
 have g1:decide ((lc:Int)>8192)=true:=by simp;omega
 clear h8;go_enter Tryz.func54,Tryz.ntmps54
 go_wp2_with fail
 refine (CK.out _ ((br.alloc (Nat.le_refl _) _).alloc xsi _)).mono ?_;rintro e w1 ⟨rfl,hb1⟩;have hz_w1:=hb1.size;try simp only [World.size_alloc,World.size_setCell] at hz_w1
 have hh:=bc6 hb1 (au6 (al6 (b:=w.heap.size) xsi));obtain ⟨c_t0,c_t1,c_t2,c_t3,c_t4,c_t5⟩:=hh;have z_t:=blt hb1 (auz (alz (b:=w.heap.size) xsi));have hh:=bc3 hb1 (al3 (b:=w.heap.size+1) xsi);obtain ⟨c_r0,c_r1,c_r2⟩:=hh;have hh:=bf3 hb1 (alz (b:=w.heap.size+1) xsi) (alf3 (b:=w.heap.size+1) xsi);obtain ⟨f_r0,f_r1,f_r2⟩:=hh;have z_r:=blt hb1 (alz (b:=w.heap.size+1) xsi);have hB1:Below w.heap.size w w1:=xbel;go_wp2
 have hsw:=three_set (w2:=w1) (b:=w.heap.size+1) (x:= .int .i64 0) (y:= .slice none 0 0) (z:= .slice none 0 0) c_r0 c_r1 c_r2;refine bodyPost_ret (results_ct rfl rfl (run_loadVar_many _ Tryz.underlying33 rfl xk (three_at hsw.1 hsw.2.1 hsw.2.2))) rfl ⟨_,_,rfl,World.ownsRow_nil _ _ _ _,World.ownsRow_nil _ _ _ _,?_⟩;exact ((hB1.setCell xdo _).setCell xdo _).setCell xdo _
theorem BuildIx_ok (c:SlC) (a:SlA) (hl:c.ws.length≤9223372036854775807) (hl2:c.ks.length≤1000000000000) (w:World) (hin:SlIn w c a):
    Calls Tryz.prog 54 #[slV c a] w (FreshIx2 w (bldL c) (bldM c) (bldC c) (.int .i64 (bldE c))):=by
 have CK:=hid (fun W (hb:Below w.heap.size w W)=>seekCheck_ok c a hl hl2 W (hin.below hb));by_cases hs:seekE c=0
 · rw [hs] at CK;by_cases h8:8192<c.cs.length
   · have e:bldE c=4:=by rw [bldE,if_pos hs,if_pos h8]
     rw [bldL,bldM,bldC,e,if_neg xdd,if_neg xdd,if_neg xdd];exact BuildIx_big _ _ _ _ _ _ _ _ _ _ _ _ _ _ w h8 CK
   · have e:bldE c=0:=by rw [bldE,if_pos hs,if_neg h8]
     rw [bldL,bldM,bldC,e,if_pos rfl,if_pos rfl,if_pos rfl];have hm:=seekE_may hs;have hM:c.cs.length≤8192:=xo;obtain ⟨S,D,M,hS,hS2,hS4,hS64,hcm,hMD,hDM,hD13,hSM,hks,hvs,hws,hwl⟩:=bld_facts hm hM;have hD:c.cs.length.log2=D:=by rw [hcm,hMD]
     have hL:bLev c=D+1:=by rw [bLev,hD]
     have hp:=Nat.two_pow_pos D;have hp2:2^(D+1)=2*2^D:=by rw [Nat.pow_succ];omega
     have hbs:((c.seg.toNat* 2^D:Nat):Int)≤65536:=by rw [hS2,hDM];omega
     have h:=BuildIx_main c.seg a.wa a.ka a.va a.ca a.wc a.kc a.vc a.cc c.ws.length c.ks.length c.vs.length c.cs.length c.laid w D (bLev c) (2^bLev c-1) (by rw [hL];push_cast;rfl) xo xo (by rw [hL];omega) (by rw [hL,hcm];omega) (fun n=>(trN c D n).1) (fun n=>(trN c D n).2) CK
       (hid fun W=>by have:=Down_ok c.cs.length c.cs.length rfl xo xo W;rwa [hD] at this)
       (hid fun W hb n h1 h2=>by
        have ht:trN c D n=leafT c (n-M):=by rw [trN_leaf (by rw [hDM,←hcm];exact h1),hDM]
        have:=leaf_ok c a hm hM (n-M) (by rw [hL] at h2;omega) W (hin.below hb);rw [←ht,show ((n-M:Nat):Int)=(n:Int)-(c.cs.length:Nat) by omega] at this;exact this)
       (hid fun n h1 h2 W=>by
        have hb1:=trN_bd c D (2*n);have hb2:=trN_bd c D (2*n+1);have ht:=trN_node (c:=c) (D:=D) h1 (by rw [hDM,←hcm];exact h2);have:=above_ok (trN c D (2*n)).1 (trN c D (2*n)).2 (trN c D (2*n+1)).1 (trN c D (2*n+1)).2 xo xo xo xo W;rw [ht];exact this)
     rw [bltF_all _ xo _ (fun _ _ _=>rfl),bltF_all _ xo _ (fun _ _ _=>rfl)] at h;have e1:bMax c=(lay (bLev c) 1).map fun n=>(trN c D n).1:=by rw [bMax,hD]
     have e2:bCnt c=(lay (bLev c) 1).map fun n=>(trN c D n).2:=by rw [bCnt,hD]
     rw [e1,e2];rw [show (D:Int)+1=((bLev c:Nat):Int) by rw [hL];push_cast;rfl] at h;exact h
 · have e:bldE c=seekE c:=by rw [bldE,if_neg hs]
   rw [bldL,bldM,bldC,e,if_neg hs,if_neg hs,if_neg hs];exact BuildIx_no _ _ _ _ _ _ _ _ _ _ _ _ _ _ w _ hs CK
theorem OfIx_no (l:Int) (ma ica:Option Addr) (n1 mc n2 icc:Nat) (seg:Int) (wa ka va ca:Option Addr) (wc kc vc cc lw lk lv lc:Nat) (laid:Int) (w:World) (x:Int) (hx:x≠0) (l2:Int) (xs1 xs2:List Int) (BD:Hid (∀W,Below w.heap.size w W→Calls Tryz.prog 54 #[.agg #[.int .i64 seg,.slice wa lw wc,.slice ka lk kc,.slice va lv vc,.slice ca lc cc,.int .u64 laid]] W (FreshIx2 W l2 xs1 xs2 (.int .i64 x)))):
    Calls Tryz.prog 41 #[ixV l ma n1 mc ica n2 icc,.agg #[.int .i64 seg,.slice wa lw wc,.slice ka lk kc,.slice va lv vc,.slice ca lc cc,.int .u64 laid]] w (AnsB w (.tuple #[.bool false,.int .i64 x])):=by
 have g1:(x != 0)=true:=by simpa using hx
 clear hx;go_enter Tryz.func41,Tryz.ntmps41
 go_wp2_with fail
 refine (BD.out _ xbel).mono ?_;rintro e w1 ⟨v,u,rfl,o1,o2,hb1⟩;have hz_w1:=hb1.size;try simp only [World.size_alloc,World.size_setCell] at hz_w1
 have hB1:Below w.heap.size w w1:=xbel;obtain ⟨ya,yc,rfl,-⟩:=owns_news o1;obtain ⟨za,zc,rfl,-⟩:=owns_news o2;clear o1 o2;go_wp2
 go_ret2
 exact ⟨rfl,by (exact xbel)⟩
theorem OfIx_yes (l:Int) (ma ica:Option Addr) (n1 mc n2 icc:Nat) (seg:Int) (wa ka va ca:Option Addr) (wc kc vc cc lw lk lv lc:Nat) (laid:Int) (w:World) (l2:Int) (xs1 xs2:List Int) (r:Bool) (BD:Hid (∀W,Below w.heap.size w W→Calls Tryz.prog 54 #[.agg #[.int .i64 seg,.slice wa lw wc,.slice ka lk kc,.slice va lv vc,.slice ca lc cc,.int .u64 laid]] W (FreshIx2 W l2 xs1 xs2 (.int .i64 0)))) (m1 m2:Nat) (HL1:Hid (xs1.length=m1)) (HL2:Hid (xs2.length=m2))
    (SM:Hid (∀ya za yc zc W,Below w.heap.size w W→IsRow .i64 W ya xs1→IsRow .i64 W za xs2→Calls Tryz.prog 46 #[ixV l ma n1 mc ica n2 icc,ixV l2 ya m1 yc za m2 zc] W (AnsB W (.bool r)))):
    Calls Tryz.prog 41 #[ixV l ma n1 mc ica n2 icc,.agg #[.int .i64 seg,.slice wa lw wc,.slice ka lk kc,.slice va lv vc,.slice ca lc cc,.int .u64 laid]] w (AnsB w (.tuple #[.bool r,.int .i64 0])):=by
 go_enter Tryz.func41,Tryz.ntmps41
 go_wp2_with fail
 refine (BD.out _ xbel).mono ?_;rintro e w1 ⟨v,u,rfl,o1,o2,hb1⟩;have hz_w1:=hb1.size;try simp only [World.size_alloc,World.size_setCell] at hz_w1
 have all_c:w1.cell? ⟨w.heap.size,0,none⟩=some (.int .i64 l)∧w1.cell? ⟨w.heap.size,1,none⟩=some (.slice ma n1 mc)∧w1.cell? ⟨w.heap.size,2,none⟩=some (.slice ica n2 icc):=by refine ⟨?_,?_,?_⟩<;>(refine (hb1.cell ?_).trans ?_<;>first|(exact xlt)|(exact xcn))
 have all_z:w.heap.size<w1.heap.size:=xo;obtain ⟨c_x0,c_x1,c_x2⟩:=all_c;try clear all_c
 have z_x:=all_z;try clear all_z
 have hB1:Below w.heap.size w w1:=xbel;obtain ⟨ya,yc,rfl,hy,-⟩:=row_of_owns o1;obtain ⟨za,zc,rfl,hz,-⟩:=row_of_owns o2;rw [HL1.out,HL2.out];have hbx:Below w1.heap.size w1 (w1.alloc (.cells #[.int .i64 l2,.slice ya m1 yc,.slice za m2 zc] 33)):=br.alloc (Nat.le_refl _) _;have SM1:=hid (SM.out ya za yc zc _ (below_via hbx hB1 (by have:=hB1.size;omega)) (hy.below hbx) (hz.below hbx));clear o1 o2 hy hz;go_wp2_with fail
 refine SM1.out.mono ?_;rintro e w2 ⟨rfl,hb2⟩;have hz2:=hb2.size;go_wp2
 go_ret2
 exact ⟨rfl,by (exact xbel)⟩
theorem OfIx_ok (l:Int) (ma ica:Option Addr) (mc icc:Nat) (ms cs:List Int) (c:SlC) (a:SlA) (hl:c.ws.length≤9223372036854775807) (hl2:c.ks.length≤1000000000000) (w:World) (hin:SlIn w c a) (hm:IsRow .i64 w ma ms) (hc:IsRow .i64 w ica cs) (hlm:ms.length≤100000) (hlc:cs.length≤100000):
    Calls Tryz.prog 41 #[ixV l ma ms.length mc ica cs.length icc,slV c a] w (AnsB w (.tuple #[.bool (ofB l ms cs c),.int .i64 (bldE c)])):=by
 have BD:=hid (fun W (hb:Below w.heap.size w W)=>BuildIx_ok c a hl hl2 W (hin.below hb));by_cases h:bldE c=0
 · have e:ofB l ms cs c=ixEq l ms cs (bldL c) (bldM c) (bldC c):=by rw [ofB];simp [h]
   rw [e,h];rw [h] at BD;exact OfIx_yes _ _ _ _ _ _ _ _ _ _ _ _ _ _ _ _ _ _ _ _ _ w _ _ _ _ BD _ _ (hid rfl) (hid rfl) (hid fun ya za yc zc W hb hy hz=>Same_ix l (bldL c) ma ica ya za mc icc yc zc ms cs (bldM c) (bldC c) W (hm.below hb) (hc.below hb) hy hz hlm hlc)
 · have e:ofB l ms cs c=false:=by rw [ofB];simp [h]
   rw [e];exact OfIx_no _ _ _ _ _ _ _ _ _ _ _ _ _ _ _ _ _ _ _ _ _ w _ h _ _ _ BD
end
end Go.Proofs.YtbedhbpgnfffmaaGreat

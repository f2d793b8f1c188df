/- Merged: Built18, Build18, InvLate. -/
import Derived.Test.YtbedhbpgnfffmaaGreatCobTellsP6
import Derived.Test.YtbedhbpgnfffmaaGreatCobTellsP7
import Derived.Test.YtbedhbpgnfffmaaGreatCobTellsP1
import Derived.Test.YtbedhbpgnfffmaaGreatCobTellsP3
namespace Go.Proofs.YtbedhbpgnfffmaaGreat
set_option maxRecDepth 100000
set_option maxHeartbeats 40000000
set_option linter.unusedVariables false
set_option linter.unusedSimpArgs false
section
open Go.RowKit Go.Shelf
attribute [local go_sem] Oper.semAt_some
def Fact.full {T:TypeId} (base:Nat) (e:TypeId) (he:e≠T) (n:Nat) (xs:List Value):Fact T:=
  ⟨fun v w=>∃g,v= .slice (some ⟨g,0,none⟩) n n∧w.ownsRow base e 1 (.slice (some ⟨g,0,none⟩) n n) n xs,fun _ _ _ h ⟨g,e1,k⟩=>⟨g,e1,h.owns he k⟩⟩
theorem made_ints (n:Nat):(madeCells (Value.int .i64 0).cells (n*1)).toList=(List.replicate n (0:Int)).map (Value.int .i64):=by
 rw [Nat.mul_one,List.map_replicate];exact toList_madeCells_one _ _
theorem wp_make {P:Program} {w:World} {o:Oper} {a:Act} {K:Act→World→Prop} {Q:Exit→Act→World→Prop} (l c:Operand) (t e:TypeId) (z:Value) (size bytes:Nat)
    (ht:P.underlying t=some (.slice e)) (hinfo:(P.info? e).map (fun i=>(i.zero,i.size,i.bytes))=some (some z,size,bytes)) (hbytes:bytes≤1024)
    (B n:Nat) (N:Int) (hN:N=n) (hlen:n≤4294967296) (hbase:B≤w.heap.size)
    (ho:o.op=Op.makeSlice t l c) (hl:a.eval l= .int .i64 N) (hc:a.eval c= .int .i64 N)
    (h:∀g w',w.heap.size≤g→w'.ownsRow B e size (.slice (some ⟨g,0,none⟩) n n) n (madeCells z.cells (n*size)).toList→Below w.heap.size w w'→K (a.put o.dst (.slice (some ⟨g,0,none⟩) n n)) w'):
    Oper.wp P o a w K Q:=by
 obtain ⟨i0,hi,hz0,hz1,hz2⟩:=info_parts hinfo;obtain ⟨w',hrun,r1,r2⟩:=run_make_full (P:=P) w B t e i0 z size ht hi hz0 hz1 .i64 .i64 n (by rw [hz2];exact Nat.le_trans (Nat.mul_le_mul hbytes hlen) xdd) (by unfold maxLen;omega) hbase;subst hN;unfold Oper.wp;simp [execOp,ho,hl,hc,hrun,Result.andThen];exact h w.heap.size w' (Nat.le_refl _) r1 (br.grown r2 (Nat.le_refl _) (fun k hk=>by cases hk))
theorem box_three {w:World} {b:Nat} {cs:Array Value} {t:TypeId} (h:w.heap[b]? =some (.cells cs t (0,0))) (hs:cs.size=3):
    ∃x y z,w.cell? ⟨b,0,none⟩=some x∧w.cell? ⟨b,1,none⟩=some y∧w.cell? ⟨b,2,none⟩=some z∧w.frozen? ⟨b,0,none⟩=false∧w.frozen? ⟨b,1,none⟩=false∧w.frozen? ⟨b,2,none⟩=false:=by
 refine ⟨cs[0],cs[1],cs[2],?_,?_,?_,?_,?_,?_⟩<;>simp [World.cell?,World.frozen?,h,hs]
theorem block_apart {w:World} {b g:Nat} {cs:Array Value} {t e:TypeId} {B s n m c:Nat} {xs:List Value} (h:w.heap[b]? =some (.cells cs t (0,0))) (ho:w.ownsRow B e s (.slice (some ⟨g,0,none⟩) m c) n xs) (hne:e≠t):g≠b:=by
 rintro rfl;obtain ⟨_,⟨h1,_⟩ | ⟨g',c',cur',h1,_,hh,_⟩⟩:=ho
 · cases h1
 · cases h1;rw [h] at hh;cases hh;exact hne rfl
theorem three_set {w2:World} {b:Nat} {x y z p q r:Value} (b0:w2.cell? ⟨b,0,none⟩=some p) (b1:w2.cell? ⟨b,1,none⟩=some q) (b2:w2.cell? ⟨b,2,none⟩=some r):
    (((w2.setCell ⟨b,0,none⟩ x).setCell ⟨b,1,none⟩ y).setCell ⟨b,2,none⟩ z).cell? ⟨b,0,none⟩=some x∧(((w2.setCell ⟨b,0,none⟩ x).setCell ⟨b,1,none⟩ y).setCell ⟨b,2,none⟩ z).cell? ⟨b,1,none⟩=some y∧(((w2.setCell ⟨b,0,none⟩ x).setCell ⟨b,1,none⟩ y).setCell ⟨b,2,none⟩ z).cell? ⟨b,2,none⟩=some z:=by
 refine ⟨?_,?_,?_⟩
 · rw [World.cell?_setCell_other _ _ _ _ (by intro e;simp at e),World.cell?_setCell_other _ _ _ _ (by intro e;simp at e)];exact World.cell?_setCell_same _ _ _ b0
 · rw [World.cell?_setCell_other _ _ _ _ (by intro e;simp at e)];exact World.cell?_setCell_same _ _ _ (by rw [World.cell?_setCell_other _ _ _ _ (by intro e;simp at e)];exact b1)
 · exact World.cell?_setCell_same _ _ _ (by rw [World.cell?_setCell_other _ _ _ _ (by intro e;simp at e),World.cell?_setCell_other _ _ _ _ (by intro e;simp at e)];exact b2)
theorem Built18_core (seg:Int) (wa ka va ca:Option Addr) (wc kc vc cc lw lk lv lc:Nat) (laid:Int) (w:World) (l:Int) (L N:Nat) (hl:l=L) (h1:1≤L) (h2:L≤14) (hN:N+1=2^L) (hlc:lc.log2+1=L) (hlc2:lc≤8192) (fm fc:Nat→Int)
    (TR:Hid (∀W,Below w.heap.size w W→∀n:Nat,1≤n→n<N+1→Calls Tryz.prog 73 #[.agg #[.int .i64 seg,.slice wa lw wc,.slice ka lk kc,.slice va lv vc,.slice ca lc cc,.int .u64 laid],.int .i64 l,.int .i64 n] W (AnsB W (tdV (fm n) (fc n))))):
    Calls Tryz.prog 44 #[.agg #[.int .i64 seg,.slice wa lw wc,.slice ka lk kc,.slice va lv vc,.slice ca lc cc,.int .u64 laid]] w (FreshIx w l (bltF L fm fun _=>true) (bltF L fc fun _=>true)):=by
 have LG:=hid (fun w=>Log_any lc (lc:Int) rfl xo w);rw [show ((lc.log2:Nat):Int)=l-1 by omega] at LG;have hNb:N+1≤16384:=by rw [hN];exact Nat.pow_le_pow_right xo h2
 have MA:=hid (fun w=>Many16_ok l xo xo w);have e1:(2:Int)^l.toNat-1=N:=by
  have:(2:Int)^l.toNat=((2^L:Nat):Int):=by rw [show l.toNat=L by omega];push_cast;rfl
  rw [this,←hN];push_cast;omega
 rw [e1] at MA;have hlb:1≤l∧l≤14:=xo;have hlw:l-1+1=l:=xo;have hlenP:(plc L).length=N:=by rw [plc_length];omega
 have HPl:=hid (Places17_ok L l hl h1 h2);have HLP:=hid hlenP;have HPG:=hid (fun k (h:k<N)=>(plc_get (L:=L) (n:=k+1) h1 xo xo));have HPV:=hid (fun k (h:k<N)=>(vpos_lay (L:=L) (n:=k+1) h1 xo xo).1);have HB0:=hid (fun f=>bltF_none L h1 f (p:=fun n=>decide (n≤0)) (by intro n a b;simp;omega));have HBL:=hid (fun f p=>bltF_length (L:=L) h1 f p);have HBS:=hid (fun f k (h:k<N)=>bltF_set (L:=L) h1 f (p:=fun n=>decide (n≤k)) (q:=fun n=>decide (n≤k+1)) (n:=k+1) xo xo xsi (by intro m hm;simp;omega));have HBA:=hid (fun f=>(bltF_all L h1 f (p:=fun n=>decide (n≤N)) (by intro n a b;simp;omega)).trans (bltF_all L h1 f (p:=fun _=>true) (fun _ _ _=>rfl)).symm);rw [show 2^L-1=N by omega] at HB0 HBL HPV;have hN0:0<N:=by have:2^1≤2^L:=Nat.pow_le_pow_right xo h1;omega
 clear e1 hl h1 h2 hN hlc hlenP;go_enter Tryz.func44,Tryz.ntmps44
 go_wp2_with fail
 refine (LG.out _).mono ?_;rintro e w' ⟨rfl,rfl⟩;go_wp2
 generalize hwz:((w.alloc _).alloc _)=wz;have c_t0:wz.cell? ⟨w.heap.size,0,none⟩=some (.int .i64 seg):=by rw [←hwz];(exact xcg)
 have c_t1:wz.cell? ⟨w.heap.size,1,none⟩=some (.slice wa lw wc):=by rw [←hwz];(exact xcg)
 have c_t2:wz.cell? ⟨w.heap.size,2,none⟩=some (.slice ka lk kc):=by rw [←hwz];(exact xcg)
 have c_t3:wz.cell? ⟨w.heap.size,3,none⟩=some (.slice va lv vc):=by rw [←hwz];(exact xcg)
 have c_t4:wz.cell? ⟨w.heap.size,4,none⟩=some (.slice ca lc cc):=by rw [←hwz];(exact xcg)
 have c_t5:wz.cell? ⟨w.heap.size,5,none⟩=some (.int .u64 laid):=by rw [←hwz];(exact xcg)
 have z_t:w.heap.size<wz.heap.size:=by rw [←hwz];(exact xlt)
 have c_r0:wz.cell? ⟨w.heap.size+1,0,none⟩=some (.int .i64 0):=by rw [←hwz];(exact xcg)
 have f_r0:wz.frozen? ⟨w.heap.size+1,0,none⟩=false:=by rw [←hwz];(exact xcg)
 have c_r1:wz.cell? ⟨w.heap.size+1,1,none⟩=some (.slice none 0 0):=by rw [←hwz];(exact xcg)
 have f_r1:wz.frozen? ⟨w.heap.size+1,1,none⟩=false:=by rw [←hwz];(exact xcg)
 have c_r2:wz.cell? ⟨w.heap.size+1,2,none⟩=some (.slice none 0 0):=by rw [←hwz];(exact xcg)
 have f_r2:wz.frozen? ⟨w.heap.size+1,2,none⟩=false:=by rw [←hwz];(exact xcg)
 have z_r:w.heap.size+1<wz.heap.size:=by rw [←hwz];(exact xlt)
 have HS:Hid (Below w.heap.size w wz):=by rw [←hwz];exact hid ((br.alloc (Nat.le_refl _) _).alloc xsi _)
 have hz:w.heap.size+2=wz.heap.size:=by rw [←hwz];simp
 clear hwz;refine wp_region_facts 9 xk (N:=55) rfl xk xk xdd (fun w'=>Below wz.heap.size wz w') (Ext 33) (factAt [.is (.int .i64 l),.is (.int .i64 l),.is (.int .i64 N),.full wz.heap.size 2 xdd N ((List.replicate N (0:Int)).map (Value.int .i64)),.is (.int .i64 l),.is (.int .i64 N),.full wz.heap.size 3 xdd N ((List.replicate N (0:Int)).map (Value.int .i64)),.agg3 (.is (.int .i64 l)) (.full wz.heap.size 2 xdd N ((List.replicate N (0:Int)).map (Value.int .i64))) (.full wz.heap.size 3 xdd N ((List.replicate N (0:Int)).map (Value.int .i64))),.box wz.heap.size 3]) (factAt_stays _) br.drew ?steps ?fin
 case steps=>
  refine ⟨?o0,?o1,?o2,?o3,?o4,?o5,?o6,?o7,?o8,trivial⟩<;>intro u a w' ev hJ hd K hK
  case o0=>
   have e3:tg a 3= .int .i64 l:=ev 3 xdd;have HK:=hid hK;clear hK ev hd;go_simp;exact HK.out _ _ xzc hJ rfl (Ext.refl _ _)
  case o1=>
   have e3:tg a 3= .int .i64 l:=ev 3 xdd;have HK:=hid hK;clear hK ev hd;go_simp;exact HK.out _ _ xzc hJ rfl (Ext.refl _ _)
  case o2=>
   have e14:tg a 14= .int .i64 l:=(ev 14 xdd).trans (hd 1 _ xk rfl);have HK:=hid hK;have HC:=hid (MA.out w');clear hK ev hd;go_simp;refine HC.out.mono ?_;rintro e w'' ⟨rfl,rfl⟩;exact HK.out _ _ xzc hJ rfl (Ext.refl _ _)
  case o3=>
   have e15:tg a 15= .int .i64 N:=(ev 15 xdd).trans (hd 2 _ xk rfl);exact wp_make (.tmp 15) (.tmp 15) 25 2 _ 1 8 Tryz.underlying25 info_int64 xdd wz.heap.size N _ rfl xo hJ.size rfl e15 e15 (fun g w'' k1 k2 k3=>hK _ _ xzc (hJ.trans (k3.mono hJ.size)) ⟨g,rfl,by rw [made_ints] at k2;exact k2⟩ (Ext.below k3))
  case o4=>
   have e3:tg a 3= .int .i64 l:=ev 3 xdd;have HK:=hid hK;clear hK ev hd;go_simp;exact HK.out _ _ xzc hJ rfl (Ext.refl _ _)
  case o5=>
   have e17:tg a 17= .int .i64 l:=(ev 17 xdd).trans (hd 4 _ xk rfl);have HK:=hid hK;have HC:=hid (MA.out w');clear hK ev hd;go_simp;refine HC.out.mono ?_;rintro e w'' ⟨rfl,rfl⟩;exact HK.out _ _ xzc hJ rfl (Ext.refl _ _)
  case o6=>
   have e18:tg a 18= .int .i64 N:=(ev 18 xdd).trans (hd 5 _ xk rfl);exact wp_make (.tmp 18) (.tmp 18) 26 3 _ 1 8 Tryz.underlying26 info_int xdd wz.heap.size N _ rfl xo hJ.size rfl e18 e18 (fun g w'' k1 k2 k3=>hK _ _ xzc (hJ.trans (k3.mono hJ.size)) ⟨g,rfl,by rw [made_ints] at k2;exact k2⟩ (Ext.below k3))
  case o7=>
   have h1:u 13= .int .i64 l:=hd 0 _ xk rfl;obtain ⟨g1,h2,h3⟩:(Fact.full (T:=33) wz.heap.size 2 xdd N ((List.replicate N (0:Int)).map (Value.int .i64))).holds (u 16) w':=hd 3 _ xk rfl;obtain ⟨g2,h4,h5⟩:(Fact.full (T:=33) wz.heap.size 3 xdd N ((List.replicate N (0:Int)).map (Value.int .i64))).holds (u 19) w':=hd 6 _ xk rfl;have e13:tg a 13= .int .i64 l:=(ev 13 xdd).trans h1;have e16:tg a 16= .slice (some ⟨g1,0,none⟩) N N:=(ev 16 xdd).trans h2;have e19:tg a 19= .slice (some ⟨g2,0,none⟩) N N:=(ev 19 xdd).trans h4;have f13:a.tmps[13]?.getD undef= .int .i64 l:=by rw [←Array.getD_eq_getD_getElem?];exact e13
   have f16:a.tmps[16]?.getD undef= .slice (some ⟨g1,0,none⟩) N N:=by rw [←Array.getD_eq_getD_getElem?];exact e16
   have f19:a.tmps[19]?.getD undef= .slice (some ⟨g2,0,none⟩) N N:=by rw [←Array.getD_eq_getD_getElem?];exact e19
   have HK:=hid hK;have H3:=hid h3;have H5:=hid h5;clear hK ev hd h1 h2 h3 h4 h5;go_simp;exact HK.out _ _ xzc hJ ⟨_,_,_,rfl,rfl,⟨_,rfl,H3.out⟩,⟨_,rfl,H5.out⟩⟩ (Ext.refl _ _)
  case o8=>
   have HK:=hid hK;have hzJ:=hJ.size;have HJ:=hid hJ;clear hK ev hd hJ;go_simp;exact HK.out _ _ xzc (HJ.out.alloc hzJ _) ⟨_,_,rfl,hzJ,alloc_new _ _,rfl⟩ (Ext.below (br.alloc (Nat.le_refl _) _))
 case fin=>
  intro u w2 hJ hG;obtain ⟨x,y,z,h20,rfl,⟨g1,rfl,ho1⟩,⟨g2,rfl,ho2⟩⟩:(Fact.agg3 (T:=33) (.is (.int .i64 l)) (.full wz.heap.size 2 xdd N ((List.replicate N (0:Int)).map (Value.int .i64))) (.full wz.heap.size 3 xdd N ((List.replicate N (0:Int)).map (Value.int .i64)))).holds (u 20) w2:=hG 7 _ rfl;obtain ⟨b,bcs,h4,hbz,hbh,hbs⟩:(Fact.box (T:=33) wz.heap.size 3).holds (u 4) w2:=hG 8 _ rfl;obtain ⟨p,q,r,b0,b1,b2,q0,q1,q2⟩:=box_three hbh hbs;have hgb1:=block_apart hbh ho1 xdd;have hgb2:=block_apart hbh ho2 xdd;have hg12:g1≠g2:=by
   rcases owns_apart ho1 ho2 xdd with h|h
   · cases h
   · intro e;exact h (by rw [e])
  have hz2:=hJ.size;have hlb:b<w2.heap.size:=World.block_lt_of_cell? _ _ b0;have hl1:=ho1.lt g1 rfl;have hl2:=ho2.lt g2 rfl;have HO1:=hid ho1;have HO2:=hid ho2;have HJ:=hid hJ;clear hG ho1 ho2 hJ hbh hbs;simp only [mixFrame,mixL,dstsOf,List.take_succ_cons,List.take_zero,List.filterMap_cons,List.filterMap_nil,List.contains_cons,List.contains_nil,Nat.reduceBEq,Bool.or_false,Bool.false_or,Bool.or_true,Bool.true_or,if_true,if_false,Bool.false_eq_true,Nat.reduceAdd,Nat.zero_add,List.drop_succ_cons,List.drop_zero,h20,h4];go_wp2_with fail
  have hsw:=three_set (w2:=w2) (b:=b) (x:= .int .i64 l) (y:= .slice (some ⟨g1,0,none⟩) N N) (z:= .slice (some ⟨g2,0,none⟩) N N) b0 b1 b2;have HJ3:Hid (Below wz.heap.size wz (((w2.setCell ⟨b,0,none⟩ (.int .i64 l)).setCell ⟨b,1,none⟩ (.slice (some ⟨g1,0,none⟩) N N)).setCell ⟨b,2,none⟩ (.slice (some ⟨g2,0,none⟩) N N))):=hid (((HJ.out.setCell xdo _).setCell xdo _).setCell xdo _);have HO13:=hid (owns_heap (W':=(((w2.setCell ⟨b,0,none⟩ (.int .i64 l)).setCell ⟨b,1,none⟩ (.slice (some ⟨g1,0,none⟩) N N)).setCell ⟨b,2,none⟩ (.slice (some ⟨g2,0,none⟩) N N))) HO1.out fun k hk=>by cases hk;rw [heap_setCell_ne _ _ _ hgb1,heap_setCell_ne _ _ _ hgb1,heap_setCell_ne _ _ _ hgb1]);have HO23:=hid (owns_heap (W':=(((w2.setCell ⟨b,0,none⟩ (.int .i64 l)).setCell ⟨b,1,none⟩ (.slice (some ⟨g1,0,none⟩) N N)).setCell ⟨b,2,none⟩ (.slice (some ⟨g2,0,none⟩) N N))) HO2.out fun k hk=>by cases hk;rw [heap_setCell_ne _ _ _ hgb2,heap_setCell_ne _ _ _ hgb2,heap_setCell_ne _ _ _ hgb2]);have hz3:w2.heap.size=(((w2.setCell ⟨b,0,none⟩ (.int .i64 l)).setCell ⟨b,1,none⟩ (.slice (some ⟨g1,0,none⟩) N N)).setCell ⟨b,2,none⟩ (.slice (some ⟨g2,0,none⟩) N N)).heap.size:=by simp
  generalize (((w2.setCell ⟨b,0,none⟩ (.int .i64 l)).setCell ⟨b,1,none⟩ (.slice (some ⟨g1,0,none⟩) N N)).setCell ⟨b,2,none⟩ (.slice (some ⟨g2,0,none⟩) N N))=w3 at *;obtain ⟨k0,k1,k2⟩:=hsw;refine (HPl.out _).mono ?_;rintro e w4 ⟨v4,rfl,ho4,hb4⟩;obtain ⟨pa,pcap,rfl,hi4,hbl4,-,-,-⟩:=row_of_owns ho4;rw [HLP.out];have hz4:=hb4.size;replace k0:=xjc hb4 k0;replace k1:=xjc hb4 k1;replace k2:=xjc hb4 k2;have HJ4:=hid (HJ3.out.trans (hb4.mono xo));have HO14:=hid (owns_below HO13.out hb4);have HO24:=hid (owns_below HO23.out hb4);have HI:=hid hi4;have HBK:=hid hbl4;clear ho4 hi4 hbl4 hb4 HJ3 HO13 HO23 HO1 HO2 HJ b0 b1 b2 q0 q1 q2;go_wp2
  go_loopg [6] N (fun gk iv wr=>∃k:Nat,k+gk=N∧iv= .int .i64 ((k:Int)+1)∧wr.cell? ⟨b,0,none⟩=some (.int .i64 l)∧wr.cell? ⟨b,1,none⟩=some (.slice (some ⟨g1,0,none⟩) N N)∧wr.cell? ⟨b,2,none⟩=some (.slice (some ⟨g2,0,none⟩) N N)∧
    Hid (wr.ownsRow wz.heap.size 2 1 (.slice (some ⟨g1,0,none⟩) N N) N ((bltF L fm fun n=>decide (n≤k)).map (Value.int .i64)))∧Hid (wr.ownsRow wz.heap.size 3 1 (.slice (some ⟨g2,0,none⟩) N N) N ((bltF L fc fun n=>decide (n≤k)).map (Value.int .i64)))∧Hid (Below wz.heap.size wz wr)∧Hid (IsRow .i64 wr pa (plc L))∧w4.heap.size≤wr.heap.size)
  case atStart=>
   refine ⟨0,by omega,rfl,k0,k1,k2,hid ?_,hid ?_,HJ4,HI,Nat.le_refl _⟩
   · rw [HB0.out];exact HO14.out
   · rw [HB0.out];exact HO24.out
  case round=>
   obtain ⟨k,hk,rfl,c0,c1,c2,HR1,HR2,HJr,HIr,hzr⟩:=hrel;by_cases hlt:k<N
   · have hgc:decide ((k:Int)+1≤N)=true:=by simp;omega
     have HJrs:=HJr.out.size;have hz_wr:=HJr.out.size;try simp only [World.size_alloc,World.size_setCell] at hz_wr
     have c_t0:wr.cell? ⟨w.heap.size,0,none⟩=some (.int .i64 seg):=(HJr.out.cell (p:=⟨w.heap.size,0,none⟩) xlt).trans xcn;have c_t1:wr.cell? ⟨w.heap.size,1,none⟩=some (.slice wa lw wc):=(HJr.out.cell (p:=⟨w.heap.size,1,none⟩) xlt).trans xcn;have c_t2:wr.cell? ⟨w.heap.size,2,none⟩=some (.slice ka lk kc):=(HJr.out.cell (p:=⟨w.heap.size,2,none⟩) xlt).trans xcn;have c_t3:wr.cell? ⟨w.heap.size,3,none⟩=some (.slice va lv vc):=(HJr.out.cell (p:=⟨w.heap.size,3,none⟩) xlt).trans xcn;have c_t4:wr.cell? ⟨w.heap.size,4,none⟩=some (.slice ca lc cc):=(HJr.out.cell (p:=⟨w.heap.size,4,none⟩) xlt).trans xcn;have c_t5:wr.cell? ⟨w.heap.size,5,none⟩=some (.int .u64 laid):=(HJr.out.cell (p:=⟨w.heap.size,5,none⟩) xlt).trans xcn;have z_t:w.heap.size<wr.heap.size:=xo;have TRk:=TR.out;go_wp2_with fail
     refine (TRk _ (by have:=below_via HJr.out HS.out xo;(exact xbel)) (k+1) xo xo).mono ?_;rintro e w5 ⟨rfl,hb5⟩;go_wp2
     have hz5:=hb5.size;generalize hw6:w5.alloc _=w6;have hb6:Below wr.heap.size wr w6:=by rw [←hw6];exact hb5.alloc hz5 _
     have t0:w6.cell? ⟨w5.heap.size,0,none⟩=some (.int .i64 (fm (k+1))):=by rw [←hw6];(exact xcw)
     have t1:w6.cell? ⟨w5.heap.size,1,none⟩=some (.int .i64 (fc (k+1))):=by rw [←hw6];(exact xcw)
     have hbr:b<wr.heap.size:=World.block_lt_of_cell? _ _ c0;replace c0:=(hb6.cell (p:=⟨b,0,none⟩) hbr).trans c0;replace c1:=(hb6.cell (p:=⟨b,1,none⟩) hbr).trans c1;replace c2:=(hb6.cell (p:=⟨b,2,none⟩) hbr).trans c2;have HR16:=hid (owns_below HR1.out hb6);have HR26:=hid (owns_below HR2.out hb6);have HI6:=hid (HIr.out.below hb6);have HJ6:=hid (HJr.out.trans (hb6.mono HJrs));have hpV:=HPV.out k hlt;have hpG:=HPG.out k hlt;have s1:=HBS.out fm k hlt;have s2:=HBS.out fc k hlt;rw [Nat.add_sub_cancel] at hpG;generalize vpos L (k+1)=p at *;obtain ⟨bp,op,x0,rfl,hx0,cp,zp⟩:=HI6.out.get (i:=k) (by rw [HLP.out];exact hlt);have hx:x0=(p:Int):=by rw [←hx0.out,hpG]
     subst hx;obtain ⟨d1,f1⟩:=own_cell HR16.out (j:=p) (by rw [HBL.out];exact hpV);obtain ⟨d2,f2⟩:=own_cell HR26.out (j:=p) (by rw [HBL.out];exact hpV);generalize (bltF L fm fun n=>decide (n≤k)).getD p 0=y1 at d1;generalize (bltF L fc fun n=>decide (n≤k)).getD p 0=y2 at d2;have hbp:=(HBK.out _ rfl).1;dsimp only at hbp;have S1:=hid s1;have S2:=hid s2;have hz6:=hb6.size;have HK:=hid hk;have hk1:((k:Int)+1).toNat=k+1:=xo;clear hw6 hb5 HR1 HR2 HIr HJr hpG hx0 s1 s2 hb6 hk TRk;have hwr:IntKind.i64.wrap (k:Int)=(k:Int):=IntWalk.i64_in _ xo;have hng1:bp≠g1:=xo;have hng2:bp≠g2:=xo;have hnt1:w5.heap.size≠g1:=xo;have hnt2:w5.heap.size≠g2:=xo;go_still_tail 9,xk
     go_wp2
     generalize hw7:(w6.setCell _ _).drew=w7;replace c0:w7.cell? ⟨b,0,none⟩=some (.int .i64 l):=by rw [←hw7];exact (World.cell?_setCell_other _ _ _ _ (by intro e;cases e;exact hgb1 rfl)).trans c0
     replace c1:w7.cell? ⟨b,1,none⟩=some (.slice (some ⟨g1,0,none⟩) N N):=by rw [←hw7];exact (World.cell?_setCell_other _ _ _ _ (by intro e;cases e;exact hgb1 rfl)).trans c1
     replace c2:w7.cell? ⟨b,2,none⟩=some (.slice (some ⟨g2,0,none⟩) N N):=by rw [←hw7];exact (World.cell?_setCell_other _ _ _ _ (by intro e;cases e;exact hgb1 rfl)).trans c2
     replace t1:w7.cell? ⟨w5.heap.size,1,none⟩=some (.int .i64 (fc (k+1))):=by rw [←hw7];exact (World.cell?_setCell_other _ _ _ _ (by intro e;simp at e<;>omega)).trans t1
     replace cp:w7.cell? ⟨bp,op+k,none⟩=some (.int .i64 p):=by rw [←hw7];exact (World.cell?_setCell_other _ _ _ _ (by intro e;simp at e<;>omega)).trans cp
     replace d2:w7.cell? ⟨g2,p,none⟩=some (.int .i64 y2):=by rw [←hw7];exact (World.cell?_setCell_other _ _ _ _ (by intro e;simp at e<;>omega)).trans d2
     replace f2:w7.frozen? ⟨g2,p,none⟩=false:=by rw [←hw7];simpa [World.frozen?_setCell,World.frozen?_drew] using f2
     have HR17:Hid (w7.ownsRow wz.heap.size 2 1 (.slice (some ⟨g1,0,none⟩) N N) N ((bltF L fm fun n=>decide (n≤k+1)).map (Value.int .i64))):=by
      have:=HR16.out.stored p (.int .i64 (fm (k+1)));rw [←List.map_set,S1.out] at this;rw [←hw7];exact hid this.1
     have HR27:Hid (w7.ownsRow wz.heap.size 3 1 (.slice (some ⟨g2,0,none⟩) N N) N ((bltF L fc fun n=>decide (n≤k)).map (Value.int .i64))):=by
      rw [←hw7];exact hid (owns_heap HR26.out fun j hj=>by cases hj;exact heap_setCell_ne _ _ _ xdo)
     have HJ7:Hid (Below wz.heap.size wz w7):=by rw [←hw7];exact hid ((HJ6.out.setCell xdo _).drew)
     have HI7:Hid (IsRow .i64 w7 (some ⟨bp,op,none⟩) (plc L)):=by rw [←hw7];exact hid (((HI6.out.setCell (fun z hz=>by cases hz;exact hng1) _).drewN 1))
     have hz7:w7.heap.size=w6.heap.size:=by rw [←hw7];simp
     clear hw7 HR16 HR26 HJ6 HI6;go_still_tail 9,xk
     go_wp2
     go_roundg (gk-1)
     case measure=>have:=HK.out;omega
     case rel=>
      refine ⟨k+1,by have:=HK.out;omega,by go_num,?_,?_,?_,?_,?_,?_,?_,?_⟩
      · exact (World.cell?_setCell_other _ _ _ _ (by intro e;cases e;exact hgb2 rfl)).trans c0
      · exact (World.cell?_setCell_other _ _ _ _ (by intro e;cases e;exact hgb2 rfl)).trans c1
      · exact (World.cell?_setCell_other _ _ _ _ (by intro e;cases e;exact hgb2 rfl)).trans c2
      · exact hid (owns_heap HR17.out fun j hj=>by cases hj;exact heap_setCell_ne _ _ _ xdo)
      · have:=HR27.out.stored p (.int .i64 (fc (k+1)));rw [←List.map_set,S2.out] at this;exact hid this.1
      · exact hid ((HJ7.out.setCell xdo _).drew)
      · exact hid (((HI7.out.setCell (fun z hz=>by cases hz;exact hng2) _).drewN 1))
      · simp;omega
   · have hkN:k=N:=xo;subst hkN;have hgc:decide ((k:Int)+1≤k)=false:=by simp<;>omega
     have q0:=(HJr.out.cell (p:=⟨w.heap.size+1,0,none⟩) xdo).trans c_r0;have q1:=(HJr.out.cell (p:=⟨w.heap.size+1,1,none⟩) xdo).trans c_r1;have q2:=(HJr.out.cell (p:=⟨w.heap.size+1,2,none⟩) xdo).trans c_r2;have p0:=(HJr.out.frozen (p:=⟨w.heap.size+1,0,none⟩) xdo).trans f_r0;have p1:=(HJr.out.frozen (p:=⟨w.heap.size+1,1,none⟩) xdo).trans f_r1;have p2:=(HJr.out.frozen (p:=⟨w.heap.size+1,2,none⟩) xdo).trans f_r2;go_wp2
     have hsw:=three_set (w2:=wr) (b:=w.heap.size+1) (x:= .int .i64 l) (y:= .slice (some ⟨g1,0,none⟩) k k) (z:= .slice (some ⟨g2,0,none⟩) k k) q0 q1 q2;refine bodyPost_ret (results_c rfl rfl (run_loadVar_many _ Tryz.underlying33 rfl xk (three_at hsw.1 hsw.2.1 hsw.2.2))) rfl ⟨_,_,rfl,?_,?_,?_⟩
     · rw [HBL.out];have:=HR1.out;rw [HBA.out] at this;exact owns_base (owns_heap this fun j hj=>by cases hj;rw [heap_setCell_ne _ _ _ xdo,heap_setCell_ne _ _ _ xdo,heap_setCell_ne _ _ _ xdo]) xo
     · rw [HBL.out];have:=HR2.out;rw [HBA.out] at this;exact owns_base (owns_heap this fun j hj=>by cases hj;rw [heap_setCell_ne _ _ _ xdo,heap_setCell_ne _ _ _ xdo,heap_setCell_ne _ _ _ xdo]) xo
     · exact (((below_via HJr.out HS.out xo).setCell xdo _).setCell xdo _).setCell xdo _
theorem Built18_ok (c:SlC) (a:SlA) (hm:slMay c=true) (hM:c.cs.length≤8192) (w:World) (hin:SlIn w c a):
    Calls Tryz.prog 44 #[slV c a] w (FreshIx w (bLev c) (bMax c) (bCnt c)):=by
 obtain ⟨S,D,M,hS,hS2,hS4,hS64,hcm,hMD,hDM,hD13,hSM,hks,hvs,hws,hwl⟩:=bld_facts hm hM;have hD:c.cs.length.log2=D:=by rw [hcm,hMD]
 have hL:bLev c=D+1:=by rw [bLev,hD]
 have hp:=Nat.two_pow_pos (D+1);have h:=Built18_core c.seg a.wa a.ka a.va a.ca a.wc a.kc a.vc a.cc c.ws.length c.ks.length c.vs.length c.cs.length c.laid w (bLev c) (bLev c) (2^bLev c-1) rfl xo xo (by rw [hL];omega) (by rw [bLev]) hM (fun n=>(trN c D n).1) (fun n=>(trN c D n).2)
   (hid fun W hb n h1 h2=>by
    have hn:n<2^(D+1):=by rw [hL] at h2;omega
    have hl:n.log2<D+1:=(Nat.log2_lt xo).2 hn;have:=Tree18_ok c a hm hM (bLev c) (by rw [hL,hD];push_cast;rfl) (D-n.log2) n h1 (by rw [hD];omega) W (hin.below hb);rwa [hD] at this)
 rw [bltF_all _ xo _ (fun _ _ _=>rfl),bltF_all _ xo _ (fun _ _ _=>rfl)] at h;have e1:bMax c=(lay (bLev c) 1).map fun n=>(trN c D n).1:=by rw [bMax,hD]
 have e2:bCnt c=(lay (bLev c) 1).map fun n=>(trN c D n).2:=by rw [bCnt,hD]
 rw [e1,e2];exact h
def FreshIx2 (w:World) (L:Int) (ms cs:List Int) (x:Value) (e:Ending) (w':World):Prop:=
  ∃v u,e= .returned (.tuple #[.agg #[.int .i64 L,v,u],x])∧w'.ownsRow w.heap.size 2 1 v ms.length (ms.map (Value.int .i64))∧w'.ownsRow w.heap.size 3 1 u cs.length (cs.map (Value.int .i64))∧Below w.heap.size w w'
def ofB (l:Int) (ms cs:List Int) (c:SlC):Bool:=decide (bldE c=0)&&ixEq l ms cs (bldL c) (bldM c) (bldC c)
end
section
open Go.RowKit
section
variable {P:Program} {ops:Array Oper} {Q:Exit→Act→World→Prop}
theorem wpAny_invL (I:Array Bool→Act→World→Prop)
    (hac:∀(i:Nat) (o:Oper),ops[i]? =some o→∀e ∈ o.after,Region.binds .any e=true→e.on<i)
    (step:∀(L:Array Bool) (a:Act) (w:World) (i:Nat) (o:Oper),L.size=ops.size→ops[i]? =some o→L.getD i false=false→
      (∀e ∈ o.after,Region.binds .any e=true→L.getD e.on false=true)→ClosedL ops L→I L a w→wpOp P ops Q i (I (L.setIfInBounds i true)) a w)
    (done:∀(L:Array Bool) (a:Act) (w:World),L.size=ops.size→(∀i,i<ops.size→L.getD i false=true)→I L a w→Q .normal a w):
    ∀(f:Nat) (L:Array Bool) (a:Act) (w:World),L.size=ops.size→leftOf L ops.size≤f→ClosedL ops L→I L a w→wpAny P .any ops Q f L a w:=by
 have none_ready:∀(L:Array Bool),L.size=ops.size→Region.ready .any ops L=[]→∀i,i<ops.size→L.getD i false=true:=by
  intro L hs hr i;induction i using Nat.strongRecOn with
  | ind i ih=>
   intro hi;cases hc:L.getD i false with
   | true=>rfl
   | false=>
    have hm:i ∈ Region.ready .any ops L:=by
     refine mem_ready.2 ⟨?_,ops[i],Array.getElem?_eq_some_iff.2 ⟨hi,rfl⟩,fun e he hb=> ?_⟩
     · have h1:i<L.size:=xo;simp [h1] at hc ⊢;exact hc
     · have:=hac i ops[i] (Array.getElem?_eq_some_iff.2 ⟨hi,rfl⟩) e he hb;exact ih e.on this xo
    rw [hr] at hm;cases hm
 intro f;induction f with
 | zero=>
  intro L a w hs hl hcl hI;have hall:=leftOf_zero (L:=L) ops.size xo;refine ⟨?_,done L a w hs hall hI⟩;rw [List.eq_nil_iff_forall_not_mem];intro i hi;obtain ⟨h1,o,ho,_⟩:=mem_ready.1 hi;have hlt:=(Array.getElem?_eq_some_iff.1 ho).1;have h2:=hall i hlt;have h3:i<L.size:=xo;simp [h3] at h1 h2;rw [h1] at h2;cases h2
 | succ f ih=>
  intro L a w hs hl hcl hI;refine ⟨fun hr=>done L a w hs (none_ready L hs hr) hI,fun i hi=> ?_⟩;obtain ⟨h1,o,ho,hall⟩:=mem_ready.1 hi;have hlt:=(Array.getElem?_eq_some_iff.1 ho).1;have h3:i<L.size:=xo;have h4:L.getD i false=false:=by simp [h3] at h1 ⊢;exact h1
  refine wpOp_mono (fun a' w' hI'=>ih _ a' w' (by simpa using hs) ?_ (hcl.set h3 ho hall) hI') (step L a w i o hs ho h4 hall hcl hI);have:=leftOf_set h3 h4 ops.size hlt;omega
def regionL (l:List Oper) (n:Nat):Bool:=
  (dstsOf l).Nodup&&(dstsOf l).all (fun d=>decide (d<n))&&l.all (fun o=>o.guard.isNone) &&
  (List.range l.length).all fun i=>match l[i]? with|some o=>o.after.all fun e=> !Region.binds .any e||decide (e.on<i)|none=>true
def tailL (l:List Oper) (n:Nat):Bool:=
  (List.range l.length).all fun i=>decide (i<n)||(decide ((masksOf l []).getD i 0%2^i=2^i-1)&&match l[i]? with|some o=>o.after.all (fun e=> !Region.binds .any e||decide (e.on<i))|none=>true)
theorem wp_region_late {id:Nat} {l:List Oper} {t0:Array Value} {ds:List Deferred} {w0:World} {N:Nat} (n:Nat) (hm:P.follows .mixedOrders=true) (hn:t0.size=N) (hB:regionL (l.take n) N=true) (hT:tailL l n=true) (hle:n≤l.length)
    (J:World→Prop) (Ext:World→World→Prop) (G:Nat→Value→World→Prop) (hst:∀k x w w',Ext w w'→G k x w→G k x w') (hJ:J w0.drew)
    (hop:OpsOk P l.toArray Q (dstsOf (l.take n)) t0 N ds J Ext G 0 (l.take n))
    (hdone:∀(u:Nat→Value) (w:World),J w→(∀(k:Nat) (o:Oper),(l.take n)[k]? =some o→G k (valOf u o) w)→wpList P l.toArray Q (l.drop n) {tmps:=mixFrame (dstsOf (l.take n)) u t0,defers:=ds} w):
    (Code.region id l.toArray true).wp P Q {tmps:=t0,defers:=ds} w0:=by
 subst hn;simp only [regionL,Bool.and_eq_true,List.all_eq_true,decide_eq_true_eq] at hB;obtain ⟨⟨⟨hnd,hlt⟩,hgd⟩,hac⟩:=hB;simp only [tailL,List.all_eq_true,List.mem_range,Bool.or_eq_true,decide_eq_true_eq] at hT;have htk:∀ {k:Nat} {o:Oper},(l.take n)[k]? =some o↔k<n∧l[k]? =some o:=by
  intro k o;rw [List.getElem?_take];by_cases h:k<n
  · rw [if_pos h];exact ⟨fun h1=>⟨h,h1⟩,fun h1=>h1.2⟩
  · rw [if_neg h];exact ⟨fun h1=>(by cases h1),fun h1=>absurd h1.1 h⟩
 refine wp_region_any hm (wpAny_invL (ops:=l.toArray)
   (fun L a w=>((∀i,n≤i→L.getD i false=false)∧∃u:Nat→Value,a= {tmps:=mixFrame (dstsOf (l.take n)) u t0,defers:=ds}∧J w∧∀(k:Nat) (o:Oper),(l.take n)[k]? =some o→L.getD k false=true→G k (valOf u o) w) ∨
     (∃m,n≤m∧m≤l.length∧(∀i,i<m→L.getD i false=true)∧(∀i,m≤i→L.getD i false=false)∧wpList P l.toArray Q (l.drop m) a w))
   ?_ ?_ ?_ _ _ _ _ xsi (leftOf_le _ _) (fun j p hp hj=>by simp [Array.getD] at hj) (.inl ⟨fun i _=>by rw [List.size_toArray];simp [Array.getD],fun t=>t0.getD t undef,by rw [mixFrame_start],hJ,fun k o _ h=> ?_⟩))
 · intro i o ho e he hb;have hi:i<l.length:=(Array.getElem?_eq_some_iff.1 ho).1;rw [List.getElem?_toArray] at ho;by_cases hin:i<n
   · have h1:(l.take n)[i]? =some o:=htk.2 ⟨hin,ho⟩;have:=hac i (List.mem_range.2 (List.getElem?_eq_some_iff.1 h1).1);rw [h1] at this;have h2:=Array.all_eq_true_iff_forall_mem.1 this e he;rw [hb] at h2;simpa using h2
   · have h1:=hT i hi;rcases h1 with h1|h1
     · omega
     · rw [ho] at h1;simp only [Bool.and_eq_true] at h1;have h2:=Array.all_eq_true_iff_forall_mem.1 h1.2 e he;rw [hb] at h2;simpa using h2
 · rintro L a w i o hs ho hi hall hcl hI;rw [List.getElem?_toArray] at ho;have hil:i<l.length:=(List.getElem?_eq_some_iff.1 ho).1;have hilt:i<L.size:=by rw [hs];simpa using hil
   have ahead:n≤i→∀j,j<i→L.getD j false=true:=by
    intro hin j hj;have h1:=hT i hil;rcases h1 with h1|h1
    · omega
    · simp only [Bool.and_eq_true,decide_eq_true_eq] at h1;have hbit:((masksOf l []).getD i 0).testBit j=true:=by
       have h2:=congrArg (fun m=>Nat.testBit m j) h1.1;simp only [Nat.testBit_mod_two_pow,Nat.testBit_two_pow_sub_one,decide_eq_true hj,Bool.true_and] at h2;exact h2
      exact masks_sound hcl l [] 0 rfl (fun j=>by rw [Nat.zero_add]) (fun i hi=>by omega) i o ho hall j hbit
   have later:∀(m:Nat),n≤m→m=i→(∀j,m≤j→L.getD j false=false)→(∀j,j<m→L.getD j false=true)→wpList P l.toArray Q (l.drop m) a w→
       wpOp P l.toArray Q i (fun a' w'=>((∀k,n≤k→(L.setIfInBounds i true).getD k false=false)∧∃u:Nat→Value,a'= {tmps:=mixFrame (dstsOf (l.take n)) u t0,defers:=ds}∧J w'∧∀(k:Nat) (o:Oper),(l.take n)[k]? =some o→(L.setIfInBounds i true).getD k false=true→G k (valOf u o) w') ∨
         (∃m,n≤m∧m≤l.length∧(∀k,k<m→(L.setIfInBounds i true).getD k false=true)∧(∀k,m≤k→(L.setIfInBounds i true).getD k false=false)∧wpList P l.toArray Q (l.drop m) a' w')) a w:=by
    rintro m hnm rfl hno hyes hw;refine wpOp_mono (fun a' w' h=> .inr ⟨m+1,by omega,by omega,fun k hk=> ?_,fun k hk=> ?_,h⟩) (wpOp_of_list ho hw)
    · by_cases e:k=m
      · subst e;exact set_same hilt
      · rw [set_else e];exact hyes k xo
    · rw [set_else xo];exact hno k xo
   rcases hI with ⟨hno,u,rfl,hJw,hG⟩ | ⟨m,hnm,hml,hyes,hno,hw⟩
   · by_cases hin:i<n
     · have htki:(l.take n)[i]? =some o:=htk.2 ⟨hin,ho⟩;have hok:=hop.at htki;rw [Nat.zero_add] at hok;have hg:o.guard=none:=by
        have:=hgd o (List.mem_of_getElem? htki);cases hx:o.guard with
        | none=>rfl
        | some x=>rw [hx] at this;cases this
       unfold wpOp;simp only [List.getElem?_toArray,ho];rw [if_pos (by simp [Region.wanted,hg])];left;refine hok u _ w (fun t ht=>mixFrame_get ht) hJw (fun j p hj hp=> ?_) _ (fun v w' hv hJ' hG' hE=> .inl ⟨fun k hk=>by rw [set_else xo];exact hno k hk,?_⟩)
       · rw [List.getElem?_toArray] at hp;obtain ⟨e,he,hbe⟩:=Array.any_eq_true.1 hj;simp only [Bool.and_eq_true,beq_iff_eq] at hbe;have hl:=hall _ (Array.getElem_mem he) hbe.1;rw [hbe.2] at hl;have hjn:j<n:=by
          by_cases h:j<n
          · exact h
          · rw [hno j xo] at hl;cases hl
         exact hG j p (htk.2 ⟨hjn,hp⟩) hl
       · cases hd:o.dst with
         | none=>
          refine ⟨u,rfl,hJ',fun k p hp hk=> ?_⟩;by_cases e:k=i
          · subst e;obtain rfl:p=o:=Option.some.inj (hp.symm.trans htki);have:valOf u p=undef:=by simp [valOf,hd]
            rw [this,←hv hd];exact hG'
          · rw [set_else e] at hk;exact hst _ _ _ _ hE (hG k p hp hk)
         | some d=>
          have hdm:(dstsOf (l.take n)).contains d=true:=by
           simp only [List.contains_iff_mem];exact List.mem_filterMap.2 ⟨o,List.mem_of_getElem? htki,hd⟩
          refine ⟨fun t=>if t=d then v else u t,by simp only [Act.put,mixFrame_put hdm],hJ',fun k p hp hk=> ?_⟩;by_cases e:k=i
          · subst e;obtain rfl:p=o:=Option.some.inj (hp.symm.trans htki);simpa [valOf,hd] using hG'
          · rw [set_else e] at hk;have hne:=nodup_slot hnd htki hp (fun h=>e h.symm) hd;have:valOf (fun t=>if t=d then v else u t) p=valOf u p:=by
             unfold valOf;cases hpd:p.dst with
             | none=>rfl
             | some d'=>exact if_neg (fun h=>hne (by rw [hpd,h]))
            rw [this];exact hst _ _ _ _ hE (hG k p hp hk)
     · have hin':n=i:=by
         by_cases e:n=i
         · exact e
         · have:=ahead xo n xo;rw [hno n (Nat.le_refl _)] at this;cases this
       refine later n (Nat.le_refl _) hin' hno (fun j hj=>ahead xo j xo) (hdone u w hJw fun k p hp=>hG k p hp (ahead xo k ?_));have:=(htk.1 hp).1;omega
   · have him:m≤i:=by
       by_cases h:m≤i
       · exact h
       · have:=hyes i xo;rw [hi] at this;cases this
     have hmi:m=i:=by
      by_cases e:m=i
      · exact e
      · have:=ahead xo m xo;rw [hno m (Nat.le_refl _)] at this;cases this
     exact later m hnm hmi hno hyes hw
 · rintro L a w hs hall hI;rw [List.size_toArray] at hall;rcases hI with ⟨hno,u,rfl,hJw,hG⟩ | ⟨m,hnm,hml,hyes,hno,hw⟩
   · have hnl:n=l.length:=by
       by_cases e:n=l.length
       · exact e
       · have:=hall n xo;rw [hno n (Nat.le_refl _)] at this;cases this
     have hq:=hdone u w hJw fun k p hp=>hG k p hp (hall k (by have:=(htk.1 hp).1;omega))
     have hd:l.drop n=[]:=by rw [hnl];exact List.drop_length
     rw [hd] at hq;exact hq
   · have hml':m=l.length:=by
       by_cases e:m=l.length
       · exact e
       · have:=hall m xo;rw [hno m (Nat.le_refl _)] at this;cases this
     rw [hml',List.drop_length] at hw;exact hw
 · rw [List.size_toArray] at h;simp [Array.getD] at h
end
end
end Go.Proofs.YtbedhbpgnfffmaaGreat

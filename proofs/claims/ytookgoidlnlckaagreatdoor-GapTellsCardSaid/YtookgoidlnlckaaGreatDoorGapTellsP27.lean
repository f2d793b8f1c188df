/- Merged: Amg8, With. -/
import Derived.Test.YtookgoidlnlckaaGreatDoorGapTellsP26
import Derived.Test.YtookgoidlnlckaaGreatDoorGapTellsP9
import Derived.Test.YtookgoidlnlckaaGreatDoorGapTellsP12
import Derived.Test.YtookgoidlnlckaaGreatDoorGapTellsP14
import Derived.Test.YtookgoidlnlckaaGreatDoorGapTellsP23
namespace Go.Proofs.YtookgoidlnlckaaGreatDoor
set_option maxRecDepth 100000
set_option maxHeartbeats 40000000
set_option linter.unusedVariables false
set_option linter.unusedSimpArgs false
section
open Go.RowKit Go.Shelf
theorem insL_prI (L:List (Int×Int)) (k:Nat) (p:Int×Int):prI (insL L k p)=prI (L.take k)++[p.1,p.2]++prI (L.drop k):=by
 rw [insL,prI_append,show p::L.drop k=[p]++L.drop k from rfl,prI_append,List.append_assoc];rfl
theorem Among08_some (L :List (Int×Int)) (hL:L.length≤65536) (k:Nat) (hk:k≤L.length) (x y:Int) (g pl:Nat) (hpl:L.length≤pl) (w:World) (hla:IsRow .i64 w (some ⟨g,0,none⟩) (prI L)):
    Calls Tryz.prog 63 #[.slice (some ⟨g,0,none⟩) L.length pl,.int .i64 k,.agg #[.int .i64 x,.int .i64 y]] w (FreshPr w (insL L k (x,y))):=by
 have HT:=hid (show IsRow .i64 w (some ⟨g,0,none⟩) (prI (L.take k)) by rw [prI_take];exact hla.take _ (by rw [prI_length];omega));have HD:=hid (row_from hla rfl hpl hk xzc).1;have HLT:=hid (show (prI (L.take k)).length=k*2 by rw [prI_length,List.length_take];omega);have HLD:=hid (show (prI (L.drop k)).length=(L.length-k)*2 by rw [prI_length,List.length_drop]);have HIN:=hid (insL_prI L k (x,y));have HIL:=hid (insL_length hk (x,y));generalize prI (L.take k)=T at *;generalize prI (L.drop k)=D at *;generalize insL L k (x,y)=Z at *;generalize L.length=m at *;have HK:=hid (And.intro hk (And.intro hpl (Nat.le_trans hk hpl)));have hkpl:k≤pl:=Nat.le_trans hk hpl;clear hla;go_enter Tryz.func63,Tryz.ntmps63
 go_upto_region 1 with (fail)
 generalize hw1:w.alloc (.cells #[.int .i64 x,.int .i64 y] 31)=w1;have hh:=ec2 hw1 (al2 (b:=w.heap.size) (by simp));obtain ⟨c_t0,c_t1⟩:=hh;have z_t:=elt hw1 (alz (b:=w.heap.size) (by simp));have hb1:Below w.heap.size w w1:=by rw [←hw1];exact (Below.refl _ _).alloc (Nat.le_refl _) _
 have hz1:w.heap.size+1≤w1.heap.size:=by rw [←hw1];simp
 have HB1:=hid hb1;clear hw1 hb1
 go_upto_region 2 with (at_builtin;refine wpl_append (.tmp 8) (.tmp 11) 57 31 (.agg #[.int .i64 0,.int .i64 0]) 2 16 Tryz.underlying57 info_Pair rfl (by decide) (by decide) w1.heap.size _ 0 [] (some ⟨g,0,none⟩) k pl (T.map (Value.int .i64)) (World.ownsRow_made w1 #[] 0 (Nat.le_refl _) (Nat.zero_le _) rfl) (by rw [List.length_map,HLT.out]) xzc (fun ad h j u hj=>Lib.cell?_alloc_some _ (row_news' (HT.out.below HB1.out) ad h j u hj)) (numCells _) xo (by simp) rfl rfl rfl rfl ?_;intro v5 w3 ho3 hg3 _
                        have hb3:Below w1.heap.size w1 w3:=((Below.refl _ w1).alloc (Nat.le_refl _) _).grown hg3 (by simp) (by intro k hk;simp [Value.ownBlock] at hk;omega);rw [Nat.zero_add,List.nil_append] at ho3;have HO3:=hid ho3;have HBW:=hid hb3;have HB3:=xv hb3 HB1;obtain ⟨a3,c3,rfl,-⟩:=owns_news ho3;have hz_w3:=hb3.size;simp (disch:=omega) only [xcl hb3] at c_t0 c_t1;replace z_t:=blt hb3 z_t;have hz3:=hb3.size;clear ho3 hg3 hb3)
 go_upto_region 3 with (at_builtin;refine wpl_append (.tmp 13) (.tmp 15) 57 31 (.agg #[.int .i64 0,.int .i64 0]) 2 16 Tryz.underlying57 info_Pair rfl (by decide) (by decide) w1.heap.size _ k (T.map (Value.int .i64)) (some ⟨w3.heap.size,0,none⟩) 1 1 [.int .i64 x,.int .i64 y] (HO3.out.alloc _) rfl xzc (new_cells _ [.int .i64 x,.int .i64 y] _ _ rfl) (by simp [Value.oneCell']) xo (by simp;omega) rfl rfl rfl rfl ?_;intro v6 w4 ho4 hg4 _
                        have hb4:Below w1.heap.size w1 w4:=(HBW.out.alloc xo _).grown hg4 (by simp;omega) (fun z hz=>(HO3.out.lt z hz).1);have HO4:=hid ho4;have HB4:=xv hb4 HB1;have HC4:=hid hb4;obtain ⟨a4,c4,rfl,-⟩:=owns_news ho4;have hz4:=hb4.size;clear ho4 hg4 hb4)
 by_cases hkp:pl=k
 · rw [if_pos hkp] at HD;subst hkp
   go_wp2_with (at_builtin;refine wpl_append (.tmp 17) (.tmp 20) 57 31 (.agg #[.int .i64 0,.int .i64 0]) 2 16 Tryz.underlying57 info_Pair rfl (by decide) (by decide) w1.heap.size _ (pl+1) (T.map (Value.int .i64)++[.int .i64 x,.int .i64 y]) (some ⟨g,0,none⟩) 0 0 (D.map (Value.int .i64)) HO4.out (by rw [List.length_map,HLD.out];have:=HK.out;omega) xzc (row_news' (HD.out.below HB4.out)) (numCells _) (by have:=HK.out;omega) xo rfl rfl rfl rfl ?_;intro v7 w5 ho5 hg5 _
                have hb5:Below w1.heap.size w1 w5:=HC4.out.grown hg5 xo (fun z hz=>(HO4.out.lt z hz).1);have HO5:=hid ho5;have HB5:=xv hb5 HB1;clear ho5 hg5 hb5)
   go_ret
   refine ⟨_,rfl,?_,HB5.out⟩;have ho:=HO5.out;have hk:=HK.out;rw [show pl+1+0=m+1 by omega] at ho;rw [HIN.out,HIL.out,List.map_append,List.map_append];exact owns_base ho xo
 · rw [if_neg hkp] at HD;have hkl:¬(k=pl):=fun h=>hkp h.symm
   rcases Nat.eq_zero_or_pos k with hk0|hk0
   · subst hk0;have HD:=hid (show IsRow .i64 w (some ⟨g,0,none⟩) D from HD.out)
     go_wp2_with (at_builtin;refine wpl_append (.tmp 17) (.tmp 20) 57 31 (.agg #[.int .i64 0,.int .i64 0]) 2 16 Tryz.underlying57 info_Pair rfl (by decide) (by decide) w1.heap.size _ (0+1) (T.map (Value.int .i64)++[.int .i64 x,.int .i64 y]) (some ⟨g,0,none⟩) (m-0) (pl-0) (D.map (Value.int .i64)) HO4.out (by rw [List.length_map,HLD.out]) xzc (row_news' (HD.out.below HB4.out)) (numCells _) (by have:=HK.out;omega) xo rfl rfl rfl rfl ?_;intro v7 w5 ho5 hg5 _
                  have hb5:Below w1.heap.size w1 w5:=HC4.out.grown hg5 xo (fun z hz=>(HO4.out.lt z hz).1);have HO5:=hid ho5;have HB5:=xv hb5 HB1;clear ho5 hg5 hb5)
     go_ret
     refine ⟨_,rfl,?_,HB5.out⟩;have ho:=HO5.out;have hk:=HK.out;rw [show 0+1+(m-0)=m+1 by omega] at ho;rw [HIN.out,HIL.out,List.map_append,List.map_append];exact owns_base ho xo
   · have hk2 : ¬ (k*2=0):=xo;have hk3:¬(k=0):=xo;have HD:=hid (show IsRow .i64 w (some ⟨g,k*2,none⟩) D by have:=HD.out;simp only [Option.map_some,Addr.add,if_neg hk2,Nat.zero_add] at this;exact this)
     go_wp2_with (at_builtin;refine wpl_append (.tmp 17) (.tmp 20) 57 31 (.agg #[.int .i64 0,.int .i64 0]) 2 16 Tryz.underlying57 info_Pair rfl (by decide) (by decide) w1.heap.size _ (k+1) (T.map (Value.int .i64)++[.int .i64 x,.int .i64 y]) (some ⟨g,k*2,none⟩) (m-k) (pl-k) (D.map (Value.int .i64)) HO4.out (by rw [List.length_map,HLD.out]) xzc (row_news' (HD.out.below HB4.out)) (numCells _) (by have:=HK.out;omega) xo rfl rfl rfl rfl ?_;intro v7 w5 ho5 hg5 _
                  have hb5:Below w1.heap.size w1 w5:=HC4.out.grown hg5 xo (fun z hz=>(HO4.out.lt z hz).1);have HO5:=hid ho5;have HB5:=xv hb5 HB1;clear ho5 hg5 hb5)
     go_ret
     refine ⟨_,rfl,?_,HB5.out⟩;have ho:=HO5.out;have hk:=HK.out;rw [show k+1+(m-k)=m+1 by omega] at ho;rw [HIN.out,HIL.out,List.map_append,List.map_append];exact owns_base ho xo
theorem Among08_none (x y:Int) (w:World):
    Calls Tryz.prog 63 #[.slice none 0 0,.int .i64 0,.agg #[.int .i64 x,.int .i64 y]] w (FreshPr w [(x,y)]):=by
 go_enter Tryz.func63,Tryz.ntmps63
 go_upto_region 1 with (fail)
 generalize hw1:w.alloc (.cells #[.int .i64 x,.int .i64 y] 31)=w1;have hh:=ec2 hw1 (al2 (b:=w.heap.size) (by simp));obtain ⟨c_t0,c_t1⟩:=hh;have z_t:=elt hw1 (alz (b:=w.heap.size) (by simp));have hb1:Below w.heap.size w w1:=by rw [←hw1];exact (Below.refl _ _).alloc (Nat.le_refl _) _
 have hz1:w.heap.size+1≤w1.heap.size:=by rw [←hw1];simp
 have HB1:=hid hb1;clear hw1 hb1
 go_upto_region 2 with (at_builtin;refine wpl_append (.tmp 8) (.tmp 11) 57 31 (.agg #[.int .i64 0,.int .i64 0]) 2 16 Tryz.underlying57 info_Pair rfl (by decide) (by decide) w1.heap.size _ 0 [] none 0 0 [] (World.ownsRow_made w1 #[] 0 (Nat.le_refl _) (Nat.zero_le _) rfl) rfl (fun _=>⟨rfl,rfl⟩) (fun ad h=>by cases h) (by simp) xo (by simp) rfl rfl rfl rfl ?_;intro v5 w3 ho3 hg3 _
                        have hb3:Below w1.heap.size w1 w3:=((Below.refl _ w1).alloc (Nat.le_refl _) _).grown hg3 (by simp) (by intro k hk;simp [Value.ownBlock] at hk;omega);rw [Nat.zero_add,List.nil_append] at ho3;have HO3:=hid ho3;have HBW:=hid hb3;have HB3:=xv hb3 HB1;obtain ⟨a3,c3,rfl,-⟩:=owns_news ho3;have hz_w3:=hb3.size;simp (disch:=omega) only [xcl hb3] at c_t0 c_t1;replace z_t:=blt hb3 z_t;have hz3:=hb3.size;clear ho3 hg3 hb3)
 go_upto_region 3 with (at_builtin;refine wpl_append (.tmp 13) (.tmp 15) 57 31 (.agg #[.int .i64 0,.int .i64 0]) 2 16 Tryz.underlying57 info_Pair rfl (by decide) (by decide) w1.heap.size _ 0 [] (some ⟨w3.heap.size,0,none⟩) 1 1 [.int .i64 x,.int .i64 y] (HO3.out.alloc _) rfl xzc (new_cells _ [.int .i64 x,.int .i64 y] _ _ rfl) (by simp [Value.oneCell']) xo (by simp;omega) rfl rfl rfl rfl ?_;intro v6 w4 ho4 hg4 _
                        have hb4:Below w1.heap.size w1 w4:=(HBW.out.alloc xo _).grown hg4 (by simp;omega) (fun z hz=>(HO3.out.lt z hz).1);rw [Nat.zero_add,List.nil_append] at ho4;have HO4:=hid ho4;have HB4:=xv hb4 HB1;have HC4:=hid hb4;obtain ⟨a4,c4,rfl,-⟩:=owns_news ho4;have hz4:=hb4.size;clear ho4 hg4 hb4)
 go_wp2_with (at_builtin;refine wpl_append (.tmp 17) (.tmp 20) 57 31 (.agg #[.int .i64 0,.int .i64 0]) 2 16 Tryz.underlying57 info_Pair rfl (by decide) (by decide) w1.heap.size _ 1 [.int .i64 x,.int .i64 y] none 0 0 [] HO4.out rfl (fun _=>⟨rfl,rfl⟩) (fun ad h=>by cases h) (by simp) xo xo rfl rfl rfl rfl ?_;intro v7 w5 ho5 hg5 _
              have hb5:Below w1.heap.size w1 w5:=HC4.out.grown hg5 xo (fun z hz=>(HO4.out.lt z hz).1);have HO5:=hid ho5;have HB5:=xv hb5 HB1;clear ho5 hg5 hb5)
 go_ret
 exact ⟨_,rfl,owns_base HO5.out xo,HB5.out⟩
structure AtZ (a:Option Addr) (m pl:Nat):Prop where
 off:∀x,a=some x→x.off=0∧x.spot=none
 no:a=none→m=0∧pl=0
 le:m≤pl
theorem AtZ.cases {a:Option Addr} {m pl:Nat} (h:AtZ a m pl):(a=none∧m=0∧pl=0)∨∃g,a=some ⟨g,0,none⟩:=by
 cases a with
 | none=>exact .inl ⟨rfl,(h.no rfl).1,(h.no rfl).2⟩
 | some x=>
  obtain ⟨h1,h2⟩:=h.off x rfl;obtain ⟨b,o,s⟩:=x;dsimp only at h1 h2;subst h1 h2;exact .inr ⟨b,rfl⟩
theorem atz_owns {w:World} {B:Nat} {e:TypeId} {s m cap:Nat} {a:Option Addr} {k:IntKind} {xs:List Int} (h:w.ownsRow B e s (.slice a m cap) m (xs.map (Value.int k))):AtZ a m cap:=by
 obtain ⟨a',c',he,-,h1,h2,h3,-⟩:=row_of_owns h;cases he;exact ⟨fun x hx=>⟨(h1 x hx).2.2.1,(h1 x hx).2.2.2⟩,h2,h3⟩
theorem Among08_ok (L:List (Int×Int)) (hL:L.length≤65536) (k:Nat) (hk:k≤L.length) (x y:Int) (la:Option Addr) (pl:Nat) (hz:AtZ la L.length pl) (w:World) (hla:IsRow .i64 w la (prI L)):
    Calls Tryz.prog 63 #[.slice la L.length pl,.int .i64 k,.agg #[.int .i64 x,.int .i64 y]] w (FreshPr w (insL L k (x,y))):=by
 rcases hz.cases with ⟨rfl,h1,h2⟩ | ⟨g,rfl⟩
 · have e1:L=[]:=List.eq_nil_of_length_eq_zero h1;subst e1;have e2:k=0:=by simpa using hk
   subst e2 h2;exact Among08_none x y w
 · exact Among08_some L hL k hk x y g pl hz.le w hla
end
section
open Go.RowKit Go.Shelf Go.Sort
attribute [local go_sem] Oper.semAt_some
def oneR (base:Nat) (xs:List Value):FactR RB:=⟨fun v w=>∃b,v= .slice (some ⟨b,0,none⟩) 1 1∧w.ownsRow base 31 2 v 1 xs,fun _ _ _ h ⟨b,e,h1⟩=>⟨b,e,owns_below h1 h⟩⟩
def ownR (base n:Nat) (xs:List Value):FactR RB:=⟨fun v w=>w.ownsRow base 31 2 v n xs,fun _ _ _ h h1=>owns_below h1 h⟩
theorem With_core (seg:Int) (wa ka va ca:Option Addr) (wc kc vc cc lw n lv lc:Nat) (laid:Int) (lo hi k:Nat) (x y:Int) (L:List (Int×Int)) (hL:L.length≤65536) (hk:k≤L.length) (hroom:lo+L.length<hi) (hhi:hi≤65536) (d:SlC) (w:World)
    (PR:Hid (∀W,Below w.heap.size w W→Calls Tryz.prog 26 #[.agg #[.int .i64 seg,.slice wa lw wc,.slice ka n kc,.slice va lv vc,.slice ca lc cc,.int .u64 laid],.int .i64 lo,.int .i64 hi] W (FreshPr2 W L (.int .i64 0))))
    (OV:Hid (∀la pl W,Below w.heap.size w W→IsRow .i64 W la (prI (insL L k (x,y)))→Calls Tryz.prog 56 #[.agg #[.int .i64 seg,.slice wa lw wc,.slice ka n kc,.slice va lv vc,.slice ca lc cc,.int .u64 laid],.int .i64 lo,.int .i64 hi,.slice la (L.length+1) pl] W (FreshSl2 W d (.int .i64 0)))):
    Calls Tryz.prog 25 #[.agg #[.int .i64 seg,.slice wa lw wc,.slice ka n kc,.slice va lv vc,.slice ca lc cc,.int .u64 laid],.int .i64 lo,.int .i64 hi,.int .i64 k,.agg #[.int .i64 x,.int .i64 y]] w (FreshSl2 w d (.int .i64 0)):=by
 have hw1:IntKind.i64.wrap ((hi:Int)-(lo:Int))=(hi:Int)-(lo:Int):=IntWalk.i64_in _ xo;have g1:((L.length:Int)==(hi:Int)-(lo:Int))=false:=by rw [beq_eq_false_iff_ne];omega
 have g2:¬((L.length:Int)<(k:Int)):=xo;have HRW:=hid (fun (w:World) la pl (h:IsRow .i64 w la (prI L)) (hz:AtZ la L.length pl)=>And.intro (row_take h hk) (row_from h rfl hz.le hk (fun e=>(hz.no e).2)));have HLT:=hid (show (prI (L.take k)).length=k*2 by rw [prI_length,List.length_take];omega);have HLD:=hid (show (prI (L.drop k)).length=(L.length-k)*2 by rw [prI_length,List.length_drop]);have HIN:=hid (insL_prI L k (x,y));go_enter Tryz.func25,Tryz.ntmps25
 go_wp2_with fail
 refine (PR.out _ xbel).mono ?_;rintro e w1 ⟨v,rfl,ho1,hb1⟩;have hz_w1:=hb1.size;try simp only [World.size_alloc,World.size_setCell] at hz_w1
 have hh:=bc6 hb1 (au6 (au6 (al6 (b:=w.heap.size) (by simp))));obtain ⟨c_t0,c_t1,c_t2,c_t3,c_t4,c_t5⟩:=hh;have z_t:=blt hb1 (auz (auz (alz (b:=w.heap.size) (by simp))));have hh:=bc2 hb1 (au2 (al2 (b:=w.heap.size+1) (by simp)));obtain ⟨c_p0,c_p1⟩:=hh;have z_p:=blt hb1 (auz (alz (b:=w.heap.size+1) (by simp)));have hh:=bc6 hb1 (al6 (b:=w.heap.size+1+1) (by simp));obtain ⟨c_r0,c_r1,c_r2,c_r3,c_r4,c_r5⟩:=hh;have hh:=bf6 hb1 (alz (b:=w.heap.size+1+1) (by simp)) (alf6 (b:=w.heap.size+1+1) (by simp));obtain ⟨f_r0,f_r1,f_r2,f_r3,f_r4,f_r5⟩:=hh;have z_r:=blt hb1 (alz (b:=w.heap.size+1+1) (by simp));have hB1:Below w.heap.size w w1:=xbel;obtain ⟨la,pl,rfl,hi1,-,-,-,-⟩:=row_of_owns ho1;have hz:=atz_owns ho1;have HR:=hid (HRW.out w1 la pl hi1 hz);have HN:=hid (fun h:la=none=>(hz.no h));have HK0:=hid (And.intro hk (And.intro hz.le (Nat.le_trans hk hz.le)));have HM:=hid hL;obtain ⟨da,hda⟩:∃da,(if pl=k then la else la.map (·.add (k*2)))=da:=⟨_,rfl⟩
 rw [hda] at HR;have HDA:=hid hda;have HT:=hid HR.out.1;have HD:=hid HR.out.2;have HB1:=hid hB1;have hzp:w.heap.size+1+1<w1.heap.size:=z_r;clear hb1 hB1 ho1 hi1 hz HR HRW hda hk hL hroom hhi PR;generalize prI (L.take k)=T at *;generalize prI (L.drop k)=D at *;generalize prI (insL L k (x,y))=Z at *;generalize L.length=m at *;go_upto_region 8 with (fail)
 refine wp_region_late 7 xk (N:=63) rfl xk xk (by decide) (fun w'=>Below w1.heap.size w1 w') RB (factRAt [.is (.slice la m pl),.is (.int .i64 k),.is (.int .i64 k),.is (.slice la k k),.is (.agg #[.int .i64 x,.int .i64 y]),oneR w1.heap.size [.int .i64 x,.int .i64 y],ownR w1.heap.size (k+1) (T.map (Value.int .i64)++[.int .i64 x,.int .i64 y])]) (factRAt_stays _) (Below.refl _ _).drew ?steps ?fin
 case steps=>
  refine ⟨?o0,?o1,?o2,?o3,?o4,?o5,?o6,trivial⟩
  case o0=>
   intro u a w' ev hJ hd K hK;have e12:a.tmps.getD 12 undef= .slice la m pl:=ev 12 (by decide);have HK:=hid hK;clear hK ev hd;go_simp;exact HK.out _ _ xzc hJ rfl (Below.refl _ _)
  case o1=>
   intro u a w' ev hJ hd K hK;have e3:a.tmps.getD 3 undef= .int .i64 k:=ev 3 (by decide);have HK:=hid hK;clear hK ev hd;go_simp;exact HK.out _ _ xzc hJ rfl (Below.refl _ _)
  case o2=>
   intro u a w' ev hJ hd K hK;have e3:a.tmps.getD 3 undef= .int .i64 k:=ev 3 (by decide);have HK:=hid hK;clear hK ev hd;go_simp;exact HK.out _ _ xzc hJ rfl (Below.refl _ _)
  case o3=>
   intro u a w' ev hJ hd K hK;have e45:a.tmps.getD 45 undef= .slice la m pl:=(ev 45 (by decide)).trans (hd 0 _ xk rfl);have e46:a.tmps.getD 46 undef= .int .i64 k:=(ev 46 (by decide)).trans (hd 1 _ xk rfl);have e47:a.tmps.getD 47 undef= .int .i64 k:=(ev 47 (by decide)).trans (hd 2 _ xk rfl);have hzJ:=hJ.size;exact wp_slice_full 57 31 (.tmp 45) (.tmp 46) (.tmp 47) 2 la m pl k rfl Tryz.underlying57 xk e45 e46 e47 HK0.out.2.2 (hK _ _ xzc hJ rfl (Below.refl _ _))
  case o4=>
   intro u a w' ev hJ hd K hK;have e9:a.tmps.getD 9 undef= .pointer (some ⟨w.heap.size+1,0,none⟩):=ev 9 (by decide);have g0:=(hJ.cell (p:=⟨w.heap.size+1,0,none⟩) xdo).trans c_p0;have g1:=(hJ.cell (p:=⟨w.heap.size+1,1,none⟩) xdo).trans c_p1;have HK:=hid hK;clear hK ev hd;go_simp;exact HK.out _ _ xzc hJ rfl (Below.refl _ _)
  case o5=>
   intro u a w' ev hJ hd K hK;have e49:a.tmps.getD 49 undef= .agg #[.int .i64 x,.int .i64 y]:=(ev 49 (by decide)).trans (hd 4 _ xk rfl);have f49:a.tmps[49]?.getD undef= .agg #[.int .i64 x,.int .i64 y]:=by rw [←Array.getD_eq_getD_getElem?];exact e49
   have HK:=hid hK;have hzJ:=hJ.size;clear hK ev hd;go_simp;exact HK.out _ _ xzc (hJ.alloc hzJ _) ⟨_,rfl,World.ownsRow_lit _ _ 1 hzJ (by decide) rfl⟩ ((Below.refl _ _).alloc (Nat.le_refl _) _)
  case o6=>
   intro u a w' ev hJ hd K hK;have e48:a.tmps.getD 48 undef= .slice la k k:=(ev 48 (by decide)).trans (hd 3 _ xk rfl);obtain ⟨bb,h50,hown⟩:(oneR w1.heap.size [.int .i64 x,.int .i64 y]).holds (u 50) w':=hd 5 _ xk rfl;have e50:a.tmps.getD 50 undef= .slice (some ⟨bb,0,none⟩) 1 1:=(ev 50 (by decide)).trans h50;rw [h50] at hown;have hzJ:=hJ.size;obtain ⟨v',w'',hr,ho,hg,-⟩:=run_append_full (P:=Tryz.prog) w' w1.heap.size 57 _ 31 (.agg #[.int .i64 0,.int .i64 0]) 2 16 Tryz.underlying57 info_Pair rfl (by decide) la k (T.map (Value.int .i64)) (by rw [List.length_map,HLT.out]) (fun h=>by have:=HN.out h;have:=HK0.out;omega) (row_news' (HT.out.below hJ)) ⟨bb,0,none⟩ 1 1 [.int .i64 x,.int .i64 y] rfl (World.ownsRow.cells hown (g:=bb) rfl) (by simp [Value.oneCell']) (by decide) (by have:=HM.out;have:=HK0.out;omega) (by decide) hzJ;have hbw:Below w'.heap.size w' w'':=(Below.refl _ _).grown hg (Nat.le_refl _) (fun k hk=>by cases hk);exact wp_value (exec_append rfl e48 e50 hr) (hK _ _ xzc (hJ.trans (hbw.mono hzJ)) ho hbw)
 case fin=>
  intro u w2 hJ hG;have hrow:(ownR w1.heap.size (k+1) (T.map (Value.int .i64)++[.int .i64 x,.int .i64 y])).holds (u 51) w2:=hG 6 _ rfl;obtain ⟨a2,c2,h51,-⟩:=owns_news hrow;change w2.ownsRow _ _ _ (u 51) _ _ at hrow;rw [h51] at hrow;have HO2:=hid hrow;have HC2:=hid hJ;clear hG hrow hJ;simp only [mixFrame,mixL,dstsOf,List.take_succ_cons,List.take_zero,List.filterMap_cons,List.filterMap_nil,List.contains_cons,List.contains_nil,Nat.reduceBEq,Bool.or_false,Bool.false_or,Bool.or_true,Bool.true_or,if_true,if_false,Bool.false_eq_true,Nat.reduceAdd,Nat.zero_add,List.drop_succ_cons,List.drop_zero,h51];go_upto_region 9 with (fail)
  obtain ⟨RA,hRA⟩:∃RA:World→World→Prop,RA=fun w w'=>Below w1.heap.size w w'∧∀z,w2.heap.size≤z→z<w.heap.size→w'.heap[z]? =w.heap[z]? :=⟨_,rfl⟩
  have hA:∀w w',RA w w'→∀z,w2.heap.size≤z→z<w.heap.size→w'.heap[z]? =w.heap[z]? :=fun w w' h=>by rw [hRA] at h;exact h.2
  refine wp_region_eff 11 xk (N:=63) rfl xk xk (by decide) (fun w'=>Below w1.heap.size w1 w'∧w'.ownsRow w1.heap.size 31 2 (.slice a2 (k+1) c2) (k+1) (T.map (Value.int .i64)++[.int .i64 x,.int .i64 y])∧w2.heap.size≤w'.heap.size) (yExt 7 RA) (yAt 11 [52,53,54,55,56,57,58,59,60,61,62] [yIs RA (.agg #[.int .i64 seg,.slice wa lw wc,.slice ka n kc,.slice va lv vc,.slice ca lc cc,.int .u64 laid]),yIs RA (.int .i64 lo),yIs RA (.int .i64 hi),yIs RA (.slice a2 (k+1) c2),yIs RA (.slice la m pl),yIs RA (.int .i64 k),yIs RA (.slice da (m-k) (pl-k)),yRow RA w1.heap.size (m+1) (T.map (Value.int .i64)++[.int .i64 x,.int .i64 y]++D.map (Value.int .i64)),ySl2 w2.heap.size hA d (.int .i64 0),ySl w2.heap.size hA d,yIs RA (.int .i64 0)]) (y_stays (by intro k h1 h2;rcases k with _|_|_|_|_|_|_|_|_|_|_|k<;>first|rfl|omega)) (y_dep xk) ⟨HC2.out.drew,HO2.out.drew,Nat.le_refl _⟩ ?steps9 ?fin9
  case steps9=>
   refine ⟨?o0,?o1,?o2,?o3,?o4,?o5,?o6,?o7,?o8,?o9,?o10,trivial⟩
   case o0=>
    intro u a w' ev hJ hd K hK;obtain ⟨hJ1,hJ2,hJ3⟩:=hJ;have e5:a.tmps.getD 5 undef= .pointer (some ⟨w.heap.size,0,none⟩):=ev 5 (by decide);have g0:=(hJ1.cell (p:=⟨w.heap.size,0,none⟩) xdo).trans c_t0;have g1:=(hJ1.cell (p:=⟨w.heap.size,1,none⟩) xdo).trans c_t1;have g2:=(hJ1.cell (p:=⟨w.heap.size,2,none⟩) xdo).trans c_t2;have g3:=(hJ1.cell (p:=⟨w.heap.size,3,none⟩) xdo).trans c_t3;have g4:=(hJ1.cell (p:=⟨w.heap.size,4,none⟩) xdo).trans c_t4;have g5:=(hJ1.cell (p:=⟨w.heap.size,5,none⟩) xdo).trans c_t5;have HK:=hid hK;clear hK ev hd;go_simp;exact HK.out _ _ xzc ⟨hJ1,hJ2,hJ3⟩ (fun _=>by simp [updR,yIs]) ⟨fun h=>absurd h (by decide),fun _=>Below.refl _ _⟩
   case o1=>
    intro u a w' ev hJ hd K hK;obtain ⟨hJ1,hJ2,hJ3⟩:=hJ;have e1:a.tmps.getD 1 undef= .int .i64 lo:=ev 1 (by decide);have HK:=hid hK;clear hK ev hd;go_simp;exact HK.out _ _ xzc ⟨hJ1,hJ2,hJ3⟩ (fun _=>by simp [updR,yIs]) ⟨fun h=>absurd h (by decide),fun _=>Below.refl _ _⟩
   case o2=>
    intro u a w' ev hJ hd K hK;obtain ⟨hJ1,hJ2,hJ3⟩:=hJ;have e2:a.tmps.getD 2 undef= .int .i64 hi:=ev 2 (by decide);have HK:=hid hK;clear hK ev hd;go_simp;exact HK.out _ _ xzc ⟨hJ1,hJ2,hJ3⟩ (fun _=>by simp [updR,yIs]) ⟨fun h=>absurd h (by decide),fun _=>Below.refl _ _⟩
   case o3=>
    intro u a w' ev hJ hd K hK;obtain ⟨hJ1,hJ2,hJ3⟩:=hJ;have e14:a.tmps.getD 14 undef= .slice a2 (k+1) c2:=ev 14 (by decide);have HK:=hid hK;clear hK ev hd;go_simp;exact HK.out _ _ xzc ⟨hJ1,hJ2,hJ3⟩ (fun _=>by simp [updR,yIs]) ⟨fun h=>absurd h (by decide),fun _=>Below.refl _ _⟩
   case o4=>
    intro u a w' ev hJ hd K hK;obtain ⟨hJ1,hJ2,hJ3⟩:=hJ;have e12:a.tmps.getD 12 undef= .slice la m pl:=ev 12 (by decide);have HK:=hid hK;clear hK ev hd;go_simp;exact HK.out _ _ xzc ⟨hJ1,hJ2,hJ3⟩ (fun _=>by simp [updR,yIs]) ⟨fun h=>absurd h (by decide),fun _=>Below.refl _ _⟩
   case o5=>
    intro u a w' ev hJ hd K hK;obtain ⟨hJ1,hJ2,hJ3⟩:=hJ;have e3:a.tmps.getD 3 undef= .int .i64 k:=ev 3 (by decide);have HK:=hid hK;clear hK ev hd;go_simp;exact HK.out _ _ xzc ⟨hJ1,hJ2,hJ3⟩ (fun _=>by simp [updR,yIs]) ⟨fun h=>absurd h (by decide),fun _=>Below.refl _ _⟩
   case o6=>
    intro u a w' ev hJ hd K hK;obtain ⟨hJ1,hJ2,hJ3⟩:=hJ;have e56:a.tmps.getD 56 undef= .slice la m pl:=(ev 56 (by decide)).trans ((hd 4 _ xk rfl) (by decide));have e57:a.tmps.getD 57 undef= .int .i64 k:=(ev 57 (by decide)).trans ((hd 5 _ xk rfl) (by decide));exact wp_slice_from 57 31 (.tmp 56) (.tmp 57) 2 la m pl k da HDA.out rfl Tryz.underlying57 xk e56 e57 HK0.out.1 HK0.out.2.1 (hK _ _ xzc ⟨hJ1,hJ2,hJ3⟩ (fun _=>by simp [updR,yIs]) ⟨fun h=>absurd h (by decide),fun _=>Below.refl _ _⟩)
   case o7=>
    intro u a w' ev hJ hd K hK;obtain ⟨hJ1,hJ2,hJ3⟩:=hJ;have e55:a.tmps.getD 55 undef= .slice a2 (k+1) c2:=(ev 55 (by decide)).trans ((hd 3 _ xk rfl) (by decide));have e58:a.tmps.getD 58 undef= .slice da (m-k) (pl-k):=(ev 58 (by decide)).trans ((hd 6 _ xk rfl) (by decide));obtain ⟨v',w'',hr,ho,hg,ho2⟩:=run_append_y (P:=Tryz.prog) w' w1.heap.size 57 _ 31 (.agg #[.int .i64 0,.int .i64 0]) 2 16 Tryz.underlying57 info_Pair rfl (by decide) (.slice a2 (k+1) c2) (k+1) (T.map (Value.int .i64)++[.int .i64 x,.int .i64 y]) hJ2 da (m-k) (pl-k) (D.map (Value.int .i64)) (by rw [List.length_map,HLD.out]) HD.out.2 (row_news' (HD.out.1.below hJ1)) (numCells _) (by have:=HM.out;have:=HK0.out;omega) (by decide) hJ1.size;have hbw:Below w1.heap.size w' w'':=(Below.refl w1.heap.size w').grown hg hJ1.size (fun z hz=>(hJ2.lt z hz).1);have hlen:k+1+(m-k)=m+1:=by have:=HK0.out;omega
    rw [hlen] at ho;exact wp_value (exec_append rfl e55 e58 hr) (hK _ _ xzc ⟨hJ1.trans hbw,ho2,Nat.le_trans hJ3 hg.size⟩ (fun _=>by simpa [updR,yRow] using ho) ⟨fun _=>by rw [hRA];exact ⟨hbw,fun z h1 h2=>hg.block z h2 (fun e=>by have:=(HO2.out.lt z e.symm).2;omega)⟩,fun h=>absurd rfl h⟩)
   case o8=>
    intro u a w' ev hJ hd K hK;obtain ⟨hJ1,hJ2,hJ3⟩:=hJ;have e52:a.tmps.getD 52 undef= .agg #[.int .i64 seg,.slice wa lw wc,.slice ka n kc,.slice va lv vc,.slice ca lc cc,.int .u64 laid]:=(ev 52 (by decide)).trans ((hd 0 _ xk rfl) (by decide));have e53:a.tmps.getD 53 undef= .int .i64 lo:=(ev 53 (by decide)).trans ((hd 1 _ xk rfl) (by decide));have e54:a.tmps.getD 54 undef= .int .i64 hi:=(ev 54 (by decide)).trans ((hd 2 _ xk rfl) (by decide));have ho3:w'.ownsRow w1.heap.size 31 2 (u 59) (m+1) (T.map (Value.int .i64)++[.int .i64 x,.int .i64 y]++D.map (Value.int .i64)):=(hd 7 _ xk rfl) (by decide)
    obtain ⟨a3,c3,h59,-⟩:=owns_news ho3;rw [h59] at ho3;have e59:a.tmps.getD 59 undef= .slice a3 (m+1) c3:=(ev 59 (by decide)).trans h59;have hrow3:IsRow .i64 w' a3 Z:=by
     rw [HIN.out];rw [show T.map (Value.int .i64)++[.int .i64 x,.int .i64 y]++D.map (Value.int .i64)=(T++[x,y]++D).map (Value.int .i64) by simp] at ho3;obtain ⟨a',c',he,hh,-⟩:=row_of_owns ho3;cases he;exact hh
    have HC:=hid (OV.out a3 c3 w' (below_via hJ1 HB1.out HB1.out.size) hrow3);have HK:=hid hK;have HJ:=hid (And.intro hJ1 (And.intro hJ2 hJ3));clear hK ev hd hJ1 hJ2 hJ3 ho3 hrow3 h59;go_simp;refine HC.out.mono ?_;rintro e w'' ⟨v1,v2,v3,v4,rfl,p1,p2,p3,p4,hb⟩;obtain ⟨hJ1,hJ2,hJ3⟩:=HJ.out;exact HK.out _ _ xzc ⟨hJ1.trans (hb.mono hJ1.size),owns_below hJ2 hb,Nat.le_trans hJ3 hb.size⟩ (fun _=>⟨_,by simp [updR],v1,v2,v3,v4,rfl,owns_base p1 hJ3,owns_base p2 hJ3,owns_base p3 hJ3,owns_base p4 hJ3⟩) ⟨fun h=>absurd h (by decide),fun _=>hb⟩
   case o9=>
    intro u a w' ev hJ hd K hK;obtain ⟨hJ1,hJ2,hJ3⟩:=hJ;obtain ⟨y,h60,hy⟩:(ySl2 w2.heap.size hA d (.int .i64 0)).holds (u 60) w':=(hd 8 _ xk rfl) (by decide)
    have e60:a.tmps.getD 60 undef= .tuple #[y,.int .i64 0]:=(ev 60 (by decide)).trans h60;have HK:=hid hK;have HY:=hid hy;clear hK ev hd hy;go_simp;exact HK.out _ _ xzc ⟨hJ1,hJ2,hJ3⟩ (fun _=>by simpa [updR] using HY.out) ⟨fun h=>absurd h (by decide),fun _=>Below.refl _ _⟩
   case o10=>
    intro u a w' ev hJ hd K hK;obtain ⟨hJ1,hJ2,hJ3⟩:=hJ;obtain ⟨y,h60,hy⟩:(ySl2 w2.heap.size hA d (.int .i64 0)).holds (u 60) w':=(hd 8 _ xk rfl) (by decide)
    have e60:a.tmps.getD 60 undef= .tuple #[y,.int .i64 0]:=(ev 60 (by decide)).trans h60;have HK:=hid hK;have HY:=hid hy;clear hK ev hd hy;go_simp;exact HK.out _ _ xzc ⟨hJ1,hJ2,hJ3⟩ (fun _=>by simp [updR,yIs]) ⟨fun h=>absurd h (by decide),fun _=>Below.refl _ _⟩
  case fin9=>
   intro u w4 hJ hG;obtain ⟨v1,v2,v3,v4,h61,p1,p2,p3,p4⟩:(ySl w2.heap.size hA d).holds (u 61) w4:=(hG 9 _ rfl) (by decide)
   have h62:u 62= .int .i64 0:=(hG 10 _ rfl) (by decide)
   have hb4:=hJ.1;have hB4:=below_via hb4 HB1.out HB1.out.size;have hz_w4:=hb4.size;simp (disch:=omega) only [xcl hb4,xfr hb4] at c_t0 c_t1 c_t2 c_t3 c_t4 c_t5 c_p0 c_p1 c_r0 c_r1 c_r2 c_r3 c_r4 c_r5 f_r0 f_r1 f_r2 f_r3 f_r4 f_r5;replace z_t:=blt hb4 z_t;replace z_p:=blt hb4 z_p;replace z_r:=blt hb4 z_r;have hz21:=HC2.out.size;obtain ⟨a1,k1,rfl,-,-,-,-,-⟩:=row_of_owns p1;obtain ⟨a2,k2,rfl,-,-,-,-,-⟩:=row_of_owns p2;obtain ⟨a3,k3,rfl,-,-,-,-,-⟩:=row_of_owns p3;obtain ⟨a4,k4,rfl,-,-,-,-,-⟩:=row_of_owns p4;have HP:=hid (And.intro p1 (And.intro p2 (And.intro p3 p4)));clear p1 p2 p3 p4 hb4 hG hJ;have hz1:w.heap.size+1+1<w2.heap.size:=xo;simp only [mixFrame,mixL,dstsOf,List.take_succ_cons,List.take_zero,List.filterMap_cons,List.filterMap_nil,List.contains_cons,List.contains_nil,Nat.reduceBEq,Bool.or_false,Bool.false_or,Bool.or_true,Bool.true_or,if_true,if_false,Bool.false_eq_true,Nat.reduceAdd,Nat.zero_add,List.drop_succ_cons,List.drop_zero,h61,h62];go_wp2
   have HC:=hid (six_some ⟨c_r0,c_r1,c_r2,c_r3,c_r4,c_r5⟩);refine bodyPost_ret (results_ct rfl rfl (run_loadVar_many _ Tryz.underlying29 rfl xk (setCs_all (W:=w4) (b:=w.heap.size+1+1) (l:=[.int .i64 d.seg,.slice a1 d.ws.length k1,.slice a2 d.ks.length k2,.slice a3 d.vs.length k3,.slice a4 d.cs.length k4,.int .u64 d.laid]) HC.out))) rfl ⟨_,_,_,_,rfl,?_,?_,?_,?_,?_⟩
   · exact owns_base (setCs_owns (b:=w.heap.size+1+1) (i:=0) hz1 [.int .i64 d.seg,.slice a1 d.ws.length k1,.slice a2 d.ks.length k2,.slice a3 d.vs.length k3,.slice a4 d.cs.length k4,.int .u64 d.laid] HP.out.1) xo
   · exact owns_base (setCs_owns (b:=w.heap.size+1+1) (i:=0) hz1 [.int .i64 d.seg,.slice a1 d.ws.length k1,.slice a2 d.ks.length k2,.slice a3 d.vs.length k3,.slice a4 d.cs.length k4,.int .u64 d.laid] HP.out.2.1) xo
   · exact owns_base (setCs_owns (b:=w.heap.size+1+1) (i:=0) hz1 [.int .i64 d.seg,.slice a1 d.ws.length k1,.slice a2 d.ks.length k2,.slice a3 d.vs.length k3,.slice a4 d.cs.length k4,.int .u64 d.laid] HP.out.2.2.1) xo
   · exact owns_base (setCs_owns (b:=w.heap.size+1+1) (i:=0) hz1 [.int .i64 d.seg,.slice a1 d.ws.length k1,.slice a2 d.ks.length k2,.slice a3 d.vs.length k3,.slice a4 d.cs.length k4,.int .u64 d.laid] HP.out.2.2.2) xo
   · exact setCs_below (b:=w.heap.size+1+1) xo [.int .i64 d.seg,.slice a1 d.ws.length k1,.slice a2 d.ks.length k2,.slice a3 d.vs.length k3,.slice a4 d.cs.length k4,.int .u64 d.laid] _ 0 hB4
end
end Go.Proofs.YtookgoidlnlckaaGreatDoor

/- Merged: SlAt, GTakeOk, GapNm, GapRes, DownPlain, DownMay, IdxLaw, Split, Find, GetPl, OmTuP2, OmTuP3, TabLaw. -/
import Derived.Test.YtjhpblejlchhjaaGreatDoorOmMovesP5
import Derived.Test.YtjhpblejlchhjaaGreatDoorOmMovesP17
import Derived.Test.YtjhpblejlchhjaaGreatDoorOmMovesP16
import Derived.Test.YtjhpblejlchhjaaGreatDoorOmMovesP13
import Derived.Test.YtjhpblejlchhjaaGreatDoorOmMovesP10
import Derived.Test.YtjhpblejlchhjaaGreatDoorOmMovesP12
import Derived.Test.YtjhpblejlchhjaaGreatDoorOmMovesP6
import Derived.Test.YtjhpblejlchhjaaGreatDoorOmMovesP11
namespace Go.Proofs.YtjhpblejlchhjaaGreatDoor
set_option maxRecDepth 100000
set_option maxHeartbeats 40000000
set_option linter.unusedVariables false
set_option linter.unusedSimpArgs false
section
open Go.RowKit Go.Shelf
attribute [local go_sem] Oper.semAt_some
theorem asked4_bad (w:World) (seg:Int) (wa ka va ca:Option Addr) (wc kc vc cc lw n lv lc:Nat) (laid i:Int) (x:Int) (hx:x≠0) (CK:Hid (∀W,Below w.heap.size w W→Calls Tryz.prog 89 #[.agg #[.int .i64 seg,.slice wa lw wc,.slice ka n kc,.slice va lv vc,.slice ca lc cc,.int .u64 laid]] W (AnsB W (.int .i64 x)))):
    Calls Tryz.prog 157 #[.agg #[.int .i64 seg,.slice wa lw wc,.slice ka n kc,.slice va lv vc,.slice ca lc cc,.int .u64 laid],.int .i64 i] w (AnsB w (.int .i64 x)):=by
 have g1:(x != 0)=true:=by simpa using hx
 clear hx;go_enter Tryz.func157,Tryz.ntmps157
 go_wp2_with fail
 refine (CK.out _ xbel).mono ?_;rintro e w1 ⟨rfl,hb1⟩;have hz_w1:=hb1.size;try simp only [World.size_alloc,World.size_setCell] at hz_w1
 have hB1:Below w.heap.size w w1:=xbel;go_wp2
 go_ret
 exact ⟨rfl,hB1⟩
theorem asked4_neg (w:World) (seg:Int) (wa ka va ca:Option Addr) (wc kc vc cc lw n lv lc:Nat) (laid i:Int) (hi:i<0) (CK:Hid (∀W,Below w.heap.size w W→Calls Tryz.prog 89 #[.agg #[.int .i64 seg,.slice wa lw wc,.slice ka n kc,.slice va lv vc,.slice ca lc cc,.int .u64 laid]] W (AnsB W (.int .i64 0)))):
    Calls Tryz.prog 157 #[.agg #[.int .i64 seg,.slice wa lw wc,.slice ka n kc,.slice va lv vc,.slice ca lc cc,.int .u64 laid],.int .i64 i] w (AnsB w (.int .i64 2)):=by
 go_enter Tryz.func157,Tryz.ntmps157
 go_wp2_with fail
 refine (CK.out _ xbel).mono ?_;rintro e w1 ⟨rfl,hb1⟩;have hz_w1:=hb1.size;try simp only [World.size_alloc,World.size_setCell] at hz_w1
 have hh:=bc6 hb1 (al6 (b:=w.heap.size) xsi);obtain ⟨c_t0,c_t1,c_t2,c_t3,c_t4,c_t5⟩:=hh;have z_t:=blt hb1 (alz (b:=w.heap.size) xsi);have hB1:Below w.heap.size w w1:=xbel;go_wp2
 go_ret
 exact ⟨rfl,hB1⟩
theorem asked4_far (w:World) (seg:Int) (wa ka va ca:Option Addr) (wc kc vc cc lw n lv lc:Nat) (laid i:Int) (h0:0≤i) (hi:(n:Int)≤i) (CK:Hid (∀W,Below w.heap.size w W→Calls Tryz.prog 89 #[.agg #[.int .i64 seg,.slice wa lw wc,.slice ka n kc,.slice va lv vc,.slice ca lc cc,.int .u64 laid]] W (AnsB W (.int .i64 0)))):
    Calls Tryz.prog 157 #[.agg #[.int .i64 seg,.slice wa lw wc,.slice ka n kc,.slice va lv vc,.slice ca lc cc,.int .u64 laid],.int .i64 i] w (AnsB w (.int .i64 2)):=by
 go_enter Tryz.func157,Tryz.ntmps157
 go_wp2_with fail
 refine (CK.out _ xbel).mono ?_;rintro e w1 ⟨rfl,hb1⟩;have hz_w1:=hb1.size;try simp only [World.size_alloc,World.size_setCell] at hz_w1
 have hh:=bc6 hb1 (al6 (b:=w.heap.size) xsi);obtain ⟨c_t0,c_t1,c_t2,c_t3,c_t4,c_t5⟩:=hh;have z_t:=blt hb1 (alz (b:=w.heap.size) xsi);have hB1:Below w.heap.size w w1:=xbel;go_wp2
 go_ret
 exact ⟨rfl,hB1⟩
theorem asked4_in (w:World) (seg:Int) (wa ka va ca:Option Addr) (wc kc vc cc lw n lv lc:Nat) (laid i:Int) (h0:0≤i) (hi:i<(n:Int)) (CK:Hid (∀W,Below w.heap.size w W→Calls Tryz.prog 89 #[.agg #[.int .i64 seg,.slice wa lw wc,.slice ka n kc,.slice va lv vc,.slice ca lc cc,.int .u64 laid]] W (AnsB W (.int .i64 0)))):
    Calls Tryz.prog 157 #[.agg #[.int .i64 seg,.slice wa lw wc,.slice ka n kc,.slice va lv vc,.slice ca lc cc,.int .u64 laid],.int .i64 i] w (AnsB w (.int .i64 0)):=by
 go_enter Tryz.func157,Tryz.ntmps157
 go_wp2_with fail
 refine (CK.out _ xbel).mono ?_;rintro e w1 ⟨rfl,hb1⟩;have hz_w1:=hb1.size;try simp only [World.size_alloc,World.size_setCell] at hz_w1
 have hh:=bc6 hb1 (al6 (b:=w.heap.size) xsi);obtain ⟨c_t0,c_t1,c_t2,c_t3,c_t4,c_t5⟩:=hh;have z_t:=blt hb1 (alz (b:=w.heap.size) xsi);have hB1:Below w.heap.size w w1:=xbel;go_wp2
 go_ret
 exact ⟨rfl,hB1⟩
def askS (c:SlC) (i:Int):Int:=if slMay c=true then (if 0≤i∧i<c.ks.length then 0 else 2) else 8
theorem asked4_ok (c:SlC) (a:SlA) (hl:c.ws.length≤1000000000000) (hl2:c.ks.length≤1000000000000) (i:Int) (w:World) (hin:SlIn w c a):
    Calls Tryz.prog 157 #[slV c a,.int .i64 i] w (AnsB w (.int .i64 (askS c i))):=by
 have CK:=hid (fun W (hb:Below w.heap.size w W)=>slCheck_ok c a hl hl2 W (hin.below hb));unfold askS;by_cases hm:slMay c=true
 · rw [show slE c=0 from if_pos hm] at CK;rw [if_pos hm];by_cases h0:0≤i
   · by_cases hi:i<c.ks.length
     · rw [if_pos ⟨h0,hi⟩];exact asked4_in w _ _ _ _ _ _ _ _ _ _ _ _ _ _ i h0 hi CK
     · rw [if_neg (fun h=>hi h.2)];exact asked4_far w _ _ _ _ _ _ _ _ _ _ _ _ _ _ i h0 xo CK
   · rw [if_neg (fun h=>h0 h.1)];exact asked4_neg w _ _ _ _ _ _ _ _ _ _ _ _ _ _ i xo CK
 · rw [show slE c=8 from if_neg hm] at CK;rw [if_neg hm];exact asked4_bad w _ _ _ _ _ _ _ _ _ _ _ _ _ _ i 8 xdd CK
theorem two_at {w:World} {b:Nat} {x y:Value} (h0:w.cell? ⟨b,0,none⟩=some x) (h1:w.cell? ⟨b,1,none⟩=some y):∀j v,[x,y][j]? =some v→w.cell? ⟨b,j,none⟩=some v:=by
 intro j v hj;match j with
 | 0=>simp at hj;rw [←hj];exact h0
 | 1=>simp at hj;rw [←hj];exact h1
 | n+2=>simp at hj
theorem at_set {W:World} {b4 b5:Nat} {x y e u v z:Value} (hne:b4≠b5) (h0:W.cell? ⟨b4,0,none⟩=some u) (h1:W.cell? ⟨b4,1,none⟩=some v) (h2:W.cell? ⟨b5,0,none⟩=some z):
    (((W.setCell ⟨b4,0,none⟩ x).setCell ⟨b4,1,none⟩ y).setCell ⟨b5,0,none⟩ e).cell? ⟨b4,0,none⟩=some x∧(((W.setCell ⟨b4,0,none⟩ x).setCell ⟨b4,1,none⟩ y).setCell ⟨b5,0,none⟩ e).cell? ⟨b4,1,none⟩=some y∧(((W.setCell ⟨b4,0,none⟩ x).setCell ⟨b4,1,none⟩ y).setCell ⟨b5,0,none⟩ e).cell? ⟨b5,0,none⟩=some e:=by
 refine ⟨?_,?_,World.cell?_setCell_same (u:=z) _ _ _ ?_⟩
 · rw [World.cell?_setCell_other _ _ _ _ (by intro e;injection e with e1 e2;omega),World.cell?_setCell_other _ _ _ _ (by intro e;injection e with e1 e2;omega)];exact World.cell?_setCell_same _ _ _ h0
 · rw [World.cell?_setCell_other _ _ _ _ (by intro e;injection e with e1 e2;omega)];exact World.cell?_setCell_same _ _ _ (by rw [World.cell?_setCell_other _ _ _ _ (by intro e;injection e with e1 e2;omega)];exact h1)
 · rw [World.cell?_setCell_other _ _ _ _ (by intro e;injection e with e1 e2;omega),World.cell?_setCell_other _ _ _ _ (by intro e;injection e with e1 e2;omega)];exact h2
structure AtI (Z b4 b5 B:Nat) (w:World) (k:Nat) (W:World):Prop where
 zero:k=0
 c0:W.cell? ⟨b4,0,none⟩=some (.int .i64 0)
 c1:W.cell? ⟨b4,1,none⟩=some (.int .i64 0)
 e0:W.cell? ⟨b5,0,none⟩=some (.int .i64 0)
 f0:W.frozen? ⟨b4,0,none⟩=false
 f1:W.frozen? ⟨b4,1,none⟩=false
 g0:W.frozen? ⟨b5,0,none⟩=false
 bel:Below B w W
 big:Z≤W.heap.size
theorem AtI.calm {Z b4 b5 B M:Nat} {w:World} {k:Nat} {W W':World} (h:AtI Z b4 b5 B w k W) (hc:Calm M W W') (hB:B≤M):AtI Z b4 b5 B w k W':=
  ⟨h.zero,hc.cell h.c0,hc.cell h.c1,hc.cell h.e0,hc.frozen h.c0 h.f0,hc.frozen h.c1 h.f1,hc.frozen h.e0 h.g0,hc.below hB h.bel,Nat.le_trans h.big hc.size⟩
structure AtX (x y:Int) (m b4 b5 B:Nat) (w:World) (c:Code) (W:World):Prop where
 code:c= .ret
 hit:m≠0
 c0:W.cell? ⟨b4,0,none⟩=some (.int .i64 x)
 c1:W.cell? ⟨b4,1,none⟩=some (.int .i64 y)
 e0:W.cell? ⟨b5,0,none⟩=some (.int .i64 0)
 bel:Below B w W
theorem AtX.calm {x y:Int} {m b4 b5 B M:Nat} {w:World} {c:Code} {W W':World} (h:AtX x y m b4 b5 B w c W) (hc:Calm M W W') (hB:B≤M):AtX x y m b4 b5 B w c W':=
  ⟨h.code,h.hit,hc.cell h.c0,hc.cell h.c1,hc.cell h.e0,hc.below hB h.bel⟩
theorem At4_no (w:World) (seg:Int) (wa ka va ca:Option Addr) (wc kc vc cc lw n lv lc:Nat) (laid i:Int) (x:Int) (hx:x≠0)
    (AK:Hid (∀W,Below w.heap.size w W→Calls Tryz.prog 157 #[.agg #[.int .i64 seg,.slice wa lw wc,.slice ka n kc,.slice va lv vc,.slice ca lc cc,.int .u64 laid],.int .i64 i] W (AnsB W (.int .i64 x)))):
    Calls Tryz.prog 121 #[.agg #[.int .i64 seg,.slice wa lw wc,.slice ka n kc,.slice va lv vc,.slice ca lc cc,.int .u64 laid],.int .i64 i] w (AnsB w (.tuple #[.agg #[.int .i64 0,.int .i64 0],.int .i64 x])):=by
 have g1:(x != 0)=true:=by simpa using hx
 clear hx;go_enter Tryz.func121,Tryz.ntmps121
 go_wp2_with fail
 refine (AK.out _ xbel).mono ?_;rintro e w1 ⟨rfl,hb1⟩;have hz_w1:=hb1.size;try simp only [World.size_alloc,World.size_setCell] at hz_w1
 have all_c:w1.cell? ⟨w.heap.size+1,0,none⟩=some (.int .i64 0)∧w1.cell? ⟨w.heap.size+1,1,none⟩=some (.int .i64 0)∧w1.cell? ⟨w.heap.size+1+1,0,none⟩=some (.int .i64 0):=by refine ⟨?_,?_,?_⟩<;>(refine (hb1.cell ?_).trans ?_<;>first|(exact xlt)|(exact xcn))
 have all_f:w1.frozen? ⟨w.heap.size+1,0,none⟩=false∧w1.frozen? ⟨w.heap.size+1,1,none⟩=false∧w1.frozen? ⟨w.heap.size+1+1,0,none⟩=false:=by refine ⟨?_,?_,?_⟩<;>(refine (hb1.frozen ?_).trans ?_<;>first|(exact xlt)|(exact xcn))
 have all_z:w.heap.size+1<w1.heap.size∧w.heap.size+1+1<w1.heap.size:=by refine ⟨?_,?_⟩<;>(omega)
 obtain ⟨c_p0,c_p1,c_e0⟩:=all_c;try clear all_c
 obtain ⟨f_p0,f_p1,f_e0⟩:=all_f;try clear all_f
 obtain ⟨z_p,z_e⟩:=all_z;try clear all_z
 have hB1:Below w.heap.size w w1:=xbel;go_wp2
 obtain ⟨d0,d1,d2⟩:=at_set (x:= .int .i64 0) (y:= .int .i64 0) (e:= .int .i64 x) (show w.heap.size+1≠w.heap.size+1+1 by omega) c_p0 c_p1 c_e0;exact bodyPost_ret (results_cc rfl rfl rfl (run_loadVar_many _ Tryz.underlying91 rfl xk (two_at d0 d1)) (run_loadVar_one Tryz.underlying38 rfl d2)) rfl ⟨rfl,((hB1.setCell xdo _).setCell xdo _).setCell xdo _⟩
theorem At4_in (c:SlC) (a:SlA) (i:Nat) (L:List (Int×Int)) (hL:L.length≤1) (hi:i+1≤65536) (w:World) (hin:SlIn w c a)
    (AK:Hid (∀W,Below w.heap.size w W→Calls Tryz.prog 157 #[slV c a,.int .i64 i] W (AnsB W (.int .i64 0))))
    (IT:Hid (∀(S:Nat→Prop) (b1 b2 b3:Nat),S b1→S b2→S b3→SlS S c a→∀W,IsRow .u64 W a.wa c.ws→IsRow .i64 W a.ka c.ks→IsRow .i64 W a.va c.vs→PrBox W b1 b2 b3 c a i (i+1)→Iter Tryz.prog 134 #[.pointer (some ⟨b1,0,none⟩),.pointer (some ⟨b2,0,none⟩),.pointer (some ⟨b3,0,none⟩)] (pairsL L) (KpS S) W)):
    Calls Tryz.prog 121 #[slV c a,.int .i64 i] w (AnsB w (.tuple #[.agg #[.int .i64 (L.getD 0 (0,0)).1,.int .i64 (L.getD 0 (0,0)).2],.int .i64 (if L.length=0 then 6 else 0)])):=by
 have HIN:=hid hin;have PA:=hid (fun w=>pairs_ok c a i (i+1) w);have HPL:=hid (pairsL_length L);have HPG:=hid (fun k (h:k<L.length)=>pairsL_get h);have k1:IntKind.i64.wrap ((i:Int)+1)=(i:Int)+1:=IntWalk.i64_in _ xo;have NO:=hid (fun (h:L.length=0)=>(show (L.getD 0 (0,0)).1=0∧(L.getD 0 (0,0)).2=0∧(if L.length=0 then (6:Int) else 0)=6 by
  rw [List.length_eq_zero_iff.1 h];exact ⟨rfl,rfl,rfl⟩))
 have YES:=hid (fun (h:L.length≠0)=>(show (if L.length=0 then (6:Int) else 0)=0 from if_neg h));generalize hE:(if L.length=0 then (6:Int) else 0)=E at *;have HXY:Hid (∀k,k<L.length→(L.getD k (0,0)).1=(L.getD 0 (0,0)).1∧(L.getD k (0,0)).2=(L.getD 0 (0,0)).2∧L.length≠0):=hid fun k hk=>by
  obtain rfl:k=0:=xo;exact ⟨rfl,rfl,by omega⟩
 generalize (L.getD 0 (0,0)).1=X at *;generalize (L.getD 0 (0,0)).2=Y at *;clear hin hE hL;obtain ⟨seg,ws,ks,vs,cs,laid⟩:=c;obtain ⟨wa,ka,va,ca,wc,kc,vc,cc⟩:=a;dsimp only [slV] at *;refine calls_of_wp_m Tryz.func121 rfl ?_;simp only [Tryz.ntmps121,List.size_toArray,List.length_cons,List.length_nil,Nat.reduceAdd,Nat.reduceSub,Array.replicate_succ,Array.replicate_zero,List.push_toArray,List.append_toArray,List.nil_append,List.cons_append];go_wp2_with fail
 refine (AK.out _ xbel).mono ?_;rintro e w1 ⟨rfl,hb1⟩;have hz_w1:=hb1.size;try simp only [World.size_alloc,World.size_setCell] at hz_w1
 have hh:=bc6 hb1 (au6 (au6 (al6 (b:=w.heap.size) xsi)));obtain ⟨c_t0,c_t1,c_t2,c_t3,c_t4,c_t5⟩:=hh;have z_t:=blt hb1 (auz (auz (alz (b:=w.heap.size) xsi)));have hh:=bc2 hb1 (au2 (al2 (b:=w.heap.size+1) xsi));obtain ⟨c_p0,c_p1⟩:=hh;have hh:=bf2 hb1 (auz (alz (b:=w.heap.size+1) xsi)) (auf2 (alz (b:=w.heap.size+1) xsi) (alf2 (b:=w.heap.size+1) xsi));obtain ⟨f_p0,f_p1⟩:=hh;have z_p:=blt hb1 (auz (alz (b:=w.heap.size+1) xsi));have c_e0:=bc1 hb1 (al1 (b:=w.heap.size+1+1) xsi);have f_e0:=bf1 hb1 (alz (b:=w.heap.size+1+1) xsi) (alf1 (b:=w.heap.size+1+1) xsi);have z_e:=blt hb1 (alz (b:=w.heap.size+1+1) xsi);have hB1:Below w.heap.size w w1:=xbel;have hz1:w.heap.size+3≤w1.heap.size:=xo;go_wp2_with fail
 refine (PA.out _).mono ?_;rintro e w2 ⟨rfl,rfl⟩;have HI1:=HIN.out.below hB1;have HB1:=hid hB1;go_wp2
 refine wp_range_w (xs:=pairsL L) (Kp:=KpS (fun k=>k<w1.heap.size+3)) rfl (enters_of Tryz.func134 xk rfl)
   (IT.out (fun k=>k<w1.heap.size+3) (w1.heap.size+1) (w1.heap.size+2) w1.heap.size (by show _<_;omega) (by show _<_;omega) (by show _<_;omega) ⟨?s1,?s2,?s3⟩ _ ?r1 ?r2 ?r3 ⟨?b1,?b2,?b3,?b4,?b5,?b6,?b7,?b8⟩) br (fun h k=>fun i hi=>(k i hi).trans (h i hi)) ?kb ?ps
   (AtI (w1.heap.size+3) (w.heap.size+1) (w.heap.size+1+1) w.heap.size w) (AtX X Y L.length (w.heap.size+1) (w.heap.size+1+1) w.heap.size w) ?hI ?hX ?h0 ?round ?done ?stop
 case s1=>intro x hx h0;have:=row_block HI1.w x hx h0;show _<_;omega
 case s2=>intro x hx h0;have:=row_block HI1.k x hx h0;show _<_;omega
 case s3=>intro x hx h0;have:=row_block HI1.v x hx h0;show _<_;omega
 case r1=>exact HI1.w.below xbel
 case r2=>exact HI1.k.below xbel
 case r3=>exact HI1.v.below xbel
 case b1=>(exact xcn)
 case b2=>(exact xcn)
 case b3=>(exact xcn)
 case b4=>(exact xcn)
 case b5=>(exact xcn)
 case b6=>(exact xcn)
 case b7=>(exact xcn)
 case b8=>(exact xcn)
 case kb=>
  intro W q o o' hl _ _ k hk;simp at hl;exact World.putObj_heap_other xo
 case ps=>
  intro x hx;simp only [pairsL,List.mem_map] at hx;obtain ⟨k,_,rfl⟩:=hx;rfl
 case hI=>
  intro k W W' h hc;exact h.calm hc (by simp;omega)
 case hX=>
  intro k W W' h hc;exact h.calm hc (by simp;omega)
 case h0=>
  exact ⟨rfl,by (exact xcn),by (exact xcn),by (exact xcn),by (exact xcn),by (exact xcn),by (exact xcn),by (exact xbel),by simp⟩
 case round=>
  intro q k W hq hk hi;rw [HPL.out] at hk;rw [HPG.out k hk];obtain ⟨hxx,hyy,hne⟩:=HXY.out k hk;rw [hxx,hyy];obtain ⟨-,hc0,hc1,he0,hf0,hf1,hg0,hbel,hzW⟩:=hi;have hzb:w.heap.size+1+1<W.heap.size:=World.block_lt_of_cell? _ _ he0;clear hxx hyy hk;gi_wp2
  have hab:Below W.heap.size W (W.alloc (.cells #[.int .i64 X,.int .i64 Y] 91)):=br.alloc (Nat.le_refl _) _;refine ⟨keeps_below hab,fun i hi=>hab.block i xo,?_⟩;intro W2 hc;have q0:W2.cell? ⟨W.heap.size,0,none⟩=some (.int .i64 X):=hc.cell xcw;have q1:W2.cell? ⟨W.heap.size,1,none⟩=some (.int .i64 Y):=hc.cell xcw;have p0:W2.cell? ⟨w.heap.size+1,0,none⟩=some (.int .i64 0):=hc.cell ((hab.cell (p:=⟨w.heap.size+1,0,none⟩) xdo).trans hc0);have p1:W2.cell? ⟨w.heap.size+1,1,none⟩=some (.int .i64 0):=hc.cell ((hab.cell (p:=⟨w.heap.size+1,1,none⟩) xdo).trans hc1);have r0:W2.cell? ⟨w.heap.size+1+1,0,none⟩=some (.int .i64 0):=hc.cell ((hab.cell (p:=⟨w.heap.size+1+1,0,none⟩) xdo).trans he0);have m0:W2.frozen? ⟨w.heap.size+1,0,none⟩=false:=hc.frozen ((hab.cell (p:=⟨w.heap.size+1,0,none⟩) xdo).trans hc0) ((hab.frozen (p:=⟨w.heap.size+1,0,none⟩) xdo).trans hf0);have m1:W2.frozen? ⟨w.heap.size+1,1,none⟩=false:=hc.frozen ((hab.cell (p:=⟨w.heap.size+1,1,none⟩) xdo).trans hc1) ((hab.frozen (p:=⟨w.heap.size+1,1,none⟩) xdo).trans hf1);have m2:W2.frozen? ⟨w.heap.size+1+1,0,none⟩=false:=hc.frozen ((hab.cell (p:=⟨w.heap.size+1+1,0,none⟩) xdo).trans he0) ((hab.frozen (p:=⟨w.heap.size+1+1,0,none⟩) xdo).trans hg0);have HB2:Hid (Below w.heap.size w W2):=hid (hc.below (by simp;omega) (below_via hab hbel xo));clear hbel hab hc hc0 hc1 he0 hf0 hf1 hg0;gi_wp2
  obtain ⟨d0,d1,d2⟩:=at_set (x:= .int .i64 X) (y:= .int .i64 Y) (e:= .int .i64 0) (show w.heap.size+1≠w.heap.size+1+1 by omega) p0 p1 r0;refine ⟨((KeepsOthers.setCell W2 ⟨w.heap.size+1,0,none⟩ _).trans (KeepsOthers.setCell _ ⟨w.heap.size+1,1,none⟩ _)).trans (KeepsOthers.setCell _ ⟨w.heap.size+1+1,0,none⟩ _),⟨rfl,hne,d0,d1,d2,((HB2.out.setCell xdo _).setCell xdo _).setCell xdo _⟩⟩
 case done=>
  intro D W hD hi hK;obtain ⟨hz0,hc0,hc1,he0,hf0,hf1,hg0,hbl,-⟩:=hi;rw [HPL.out] at hz0;obtain ⟨rfl,rfl,rfl⟩:=NO.out hz0;simp at hD;have HBL:=hid hbl;clear hbl YES NO HPG HXY;go_wp2
  obtain ⟨d0,d1,d2⟩:=at_set (x:= .int .i64 0) (y:= .int .i64 0) (e:= .int .i64 6) (show w.heap.size+1≠w.heap.size+1+1 by omega) hc0 hc1 he0;have hB4:Below w.heap.size w (((W.setCell ⟨w.heap.size+1,0,none⟩ (.int .i64 0)).setCell ⟨w.heap.size+1,1,none⟩ (.int .i64 0)).setCell ⟨w.heap.size+1+1,0,none⟩ (.int .i64 6)):=((HBL.out.setCell xdo _).setCell xdo _).setCell xdo _;have hK2:(((W.setCell ⟨w.heap.size+1,0,none⟩ (.int .i64 0)).setCell ⟨w.heap.size+1,1,none⟩ (.int .i64 0)).setCell ⟨w.heap.size+1+1,0,none⟩ (.int .i64 6)).heap[D]? =some (.deferred (some [])):=by
   rw [Below.heap_setCell _ _ _ _ (by show D≠w.heap.size+1+1;omega),Below.heap_setCell _ _ _ _ (by show D≠w.heap.size+1;omega),Below.heap_setCell _ _ _ _ (by show D≠w.heap.size+1;omega)];exact hK
  generalize (((W.setCell ⟨w.heap.size+1,0,none⟩ (.int .i64 0)).setCell ⟨w.heap.size+1,1,none⟩ (.int .i64 0)).setCell ⟨w.heap.size+1+1,0,none⟩ (.int .i64 6))=W4 at *;have hcalm:Calm (w.heap.size+3) W4 (W4.putObj D (.deferred none)):=Calm.putObj _ xo hK2 rfl;exact postM_one hK2 (results_cc rfl rfl rfl (run_loadVar_many _ Tryz.underlying91 rfl xk (two_at (hcalm.cell d0) (hcalm.cell d1))) (run_loadVar_one Tryz.underlying38 rfl (hcalm.cell d2))) ⟨rfl,hcalm.below xo hB4⟩
 case stop=>
  intro D c W hD hX hK;obtain ⟨rfl,hne,hc0,hc1,he0,hbel⟩:=hX;obtain rfl:=YES.out hne;simp at hD;have hcalm:Calm (w.heap.size+3) W (W.putObj D (.deferred none)):=Calm.putObj _ xo hK rfl;clear YES NO HPG HXY;go_wp2
  exact postM_one hK (results_cc rfl rfl rfl (run_loadVar_many _ Tryz.underlying91 rfl xk (two_at (hcalm.cell hc0) (hcalm.cell hc1))) (run_loadVar_one Tryz.underlying38 rfl (hcalm.cell he0))) ⟨rfl,hcalm.below xo hbel⟩
def atS (c:SlC) (i:Int):Int×Int×Int:=if askS c i=0 then (if bitW c.ws i.toNat=true then (c.ks.getD i.toNat 0,c.vs.getD i.toNat 0,0) else (0,0,6)) else (0,0,askS c i)
theorem At4_ok (c:SlC) (a:SlA) (hl:c.ws.length≤1000000000000) (hl2:c.ks.length≤1000000000000) (i:Int) (w:World) (hin:SlIn w c a):
    Calls Tryz.prog 121 #[slV c a,.int .i64 i] w (AnsB w (.tuple #[.agg #[.int .i64 (atS c i).1,.int .i64 (atS c i).2.1],.int .i64 (atS c i).2.2])):=by
 have AK:=hid (fun W (hb:Below w.heap.size w W)=>asked4_ok c a hl hl2 i W (hin.below hb));unfold atS;by_cases h:askS c i=0
 · rw [h] at AK;rw [if_pos h];have hm:slMay c=true:=by
    unfold askS at h;split at h
    · assumption
    · cases h
   have hp:0≤i∧i<c.ks.length:=by
    unfold askS at h;rw [if_pos hm] at h;split at h
    · assumption
    · cases h
   obtain ⟨S,M,-,-,-,hnk,hnv,-,-,hSM,-,hnw,-,-,-⟩:=slHead_facts (slMay_head hm);obtain ⟨p,rfl⟩:∃p:Nat,i=p:=⟨i.toNat,by omega⟩
   rw [Int.toNat_natCast];have hlen:(prs c p (p+1)).length≤1:=by
    rw [prs_succ (Nat.le_refl p)];have:prs c p p=[]:=by simp [prs,plsW]
    rw [this];split<;>simp
   have A:=At4_in c a p (prs c p (p+1)) hlen xo w hin AK (hid fun S b1 b2 b3 s1 s2 s3 hS W hw hk hv hbx=>pairs1_iter c a hin.u p (p+1) xo xo xo xo xo S b1 b2 b3 s1 s2 s3 hS W hw hk hv hbx);have e0:prs c p p=[]:=by simp [prs,plsW]
   rw [prs_succ (Nat.le_refl p),e0] at A;by_cases hb:bitW c.ws p=true
   · rw [if_pos hb] at A ⊢;exact A
   · rw [if_neg hb] at A ⊢;exact A
 · rw [if_neg h];exact At4_no w _ _ _ _ _ _ _ _ _ _ _ _ _ _ i _ h AK
end
section
open Go.RowKit
theorem enters_take1:∀args w,(callFunc 71 args).run Tryz.prog w= .ok (.enter 71 args) w:=enters_of Tryz.func71 xk rfl
theorem gapTake_ok (c:Cfg) (s:SlC) (sa:SlA) (hl:s.ws.length≤1000000000000) (hl2:s.ks.length≤1000000000000) (hcc:s.cs.length≤sa.cc) (k:Int) (w:World) (hin:SlIn w s sa) (hT:TabAt w):
    Calls Tryz.prog 41 #[.agg #[.int .u8 c.tag,.int .i64 c.most,.int .i64 c.seg,.int .i64 c.least,.int .i64 c.den,.int .i64 c.ll,.int .i64 c.rl,.int .i64 c.rh,.int .i64 c.lh],slV s sa,.int .i64 k] w (FreshSl2 w (takC c s k) (.int .i64 (takE c s k))):=by
 have CK:Hid (∀W,Below w.heap.size w W→Calls Tryz.prog 51 #[.agg #[.int .u8 c.tag,.int .i64 c.most,.int .i64 c.seg,.int .i64 c.least,.int .i64 c.den,.int .i64 c.ll,.int .i64 c.rl,.int .i64 c.rh,.int .i64 c.lh],slV s sa] W (AnsB W (.int .i64 (gapE c s)))):=hid fun W hb=>gapCheck_ok c s sa hl hl2 hcc W (hin.below hb)
 by_cases h0:gapE c s=0
 · rw [h0] at CK;obtain ⟨hc,a,H,kn,hs,hmost,hden⟩:=gap_zero h0;obtain ⟨g,hlw⟩:=gapN_gd kn hin.u;obtain ⟨p1,p2,p3,p4,p5,p6⟩:=kn.pows;rw [sum_many kn hin.u] at hmost;have AM:Hid (∀W,Below w.heap.size w W→Calls Tryz.prog 68 #[slV s sa,.int .i64 0,.int .i64 s.ks.length] W (AnsB W (.int .i64 (manyC s)))):=hid fun W hb=>among_all kn hin.u sa hcc W (hin.below hb)
   by_cases hk:k<0
   · have e:takE c s k=2:=by rw [takE,if_pos h0,if_pos (.inl hk)]
     rw [takC,e,if_neg xdd];exact gTake_neg c s.seg _ _ _ _ _ _ _ _ _ _ _ _ _ k hk w CK
   · by_cases hm:(manyC s:Int)≤k
     · have e:takE c s k=2:=by rw [takE,if_pos h0,if_pos (.inr hm)]
       rw [takC,e,if_neg xdd];exact gTake_arg c s.seg _ _ _ _ _ _ _ _ _ _ _ _ _ k _ hk hm w CK AM
     · have e:takE c s k=0:=by rw [takE,if_pos h0,if_neg xo]
       rw [takC,e,if_pos rfl,sgL_eq kn.cap.seg,kn.cap.hgt];obtain ⟨n,rfl⟩:∃n:Nat,k=n:=⟨k.toNat,by omega⟩
       rw [Int.toNat_natCast];have hn:n<(plsW s.ws 0 s.ks.length).length:=by rw [plsW_length];unfold manyC at hm;omega
       have hmn:manyC s≤s.ks.length:=by have:=cntW_le s.ws 0 s.ks.length;unfold manyC;omega
       obtain ⟨-,hbit,hat⟩:=pls_rank hn;have NT:Hid (∀W,Below w.heap.size w W→Calls Tryz.prog 69 #[.slice sa.wa s.ws.length sa.wc,.int .i64 s.ks.length,.int .i64 n] W (AnsB W (.tuple #[.int .i64 ((plsW s.ws 0 s.ks.length).getD n 0:Nat),.int .i64 0]))):=hid fun W hb=>by
        have:=Nth_ok sa.wa sa.wc s.ws hin.u s.ks.length n p4 xo hl (may_w kn) W (hin.below hb).w (hT.below hb);rwa [nthV,nthE,if_pos hn,if_pos hn] at this
       unfold takN;generalize (plsW s.ws 0 s.ks.length).getD n 0=at_ at *;obtain ⟨kz,gz,zl,-,-,hzm⟩:=take_in kn hin.u hat hbit;have hzu:=gz.u;have CL:Hid (∀W,Below w.heap.size w W→Calls Tryz.prog 70 #[slV s sa,.int .i64 at_] W (FreshSl2 W (tkC s at_) (.int .i64 0))):=hid fun W hb=>by
        have AT:∀W',Below W.heap.size W W'→Calls Tryz.prog 121 #[slV s sa,.int .i64 at_] W' (AnsB W' (.tuple #[.agg #[.int .i64 (s.ks.getD at_ 0),.int .i64 (s.vs.getD at_ 0)],.int .i64 0])):=fun W' hb'=>by
         have:=At4_ok s sa hl hl2 at_ W' ((hin.below hb).below hb');have e1:askS s at_=0:=by rw [askS,if_pos kn.may,if_pos ⟨by omega,by omega⟩]
         rw [atS,if_pos e1,Int.toNat_natCast,if_pos hbit] at this;exact this
        have hv:=g.elv;have hcl:=g.elc;have hwl:=g.elw;have hpH:=Nat.two_pow_pos H;have hs4:=g.s4;have TW:∀W',Below W.heap.size W W'→Calls Tryz.prog 56 #[slV s sa] W' (FreshSlN W' s):=fun W' hb'=>slTwin_ok s sa W' ((hin.below hb).below hb') xo xo xo xo
        have hvk:s.vs.length=s.ks.length:=hv;unfold slV at AT TW ⊢;rw [hvk] at AT TW ⊢;exact slClr_core W s.seg sa.wa sa.ka sa.va sa.ca sa.wc sa.kc sa.vc sa.cc s.ws.length s.ks.length s.cs.length s.laid s at_ (2^a) (s.ks.getD at_ 0) (s.vs.getD at_ 0) rfl rfl rfl rfl hvk rfl xo xo xo p4 xo p3 g.seg g.s4 hat (by have:=g.wn;omega) (by have:=g.cn;rw [hcl];exact this) g.ok (hid AT) (hid TW)
       have hz1:1≤(tkC s at_).ks.length:=xo;have HI:Hid (∀W (zb:SlA),Below w.heap.size w W→SlIn W (tkC s at_) zb→(tkC s at_).cs.length≤zb.cc→W.cell? ⟨w.heap.size,0,none⟩=some (.int .u8 c.tag)→W.cell? ⟨w.heap.size,1,none⟩=some (.int .i64 c.most)→W.cell? ⟨w.heap.size,2,none⟩=some (.int .i64 c.seg)→W.cell? ⟨w.heap.size,3,none⟩=some (.int .i64 c.least)→W.cell? ⟨w.heap.size,4,none⟩=some (.int .i64 c.den)→W.cell? ⟨w.heap.size,5,none⟩=some (.int .i64 c.ll)→W.cell? ⟨w.heap.size,6,none⟩=some (.int .i64 c.rl)→W.cell? ⟨w.heap.size,7,none⟩=some (.int .i64 c.rh)→W.cell? ⟨w.heap.size,8,none⟩=some (.int .i64 c.lh)→W.cell? ⟨w.heap.size+1,0,none⟩=some (.int .i64 (tkC s at_).seg)→W.cell? ⟨w.heap.size+1,1,none⟩=some (.slice zb.wa (tkC s at_).ws.length zb.wc)→W.cell? ⟨w.heap.size+1,2,none⟩=some (.slice zb.ka (tkC s at_).ks.length zb.kc)→W.cell? ⟨w.heap.size+1,3,none⟩=some (.slice zb.va (tkC s at_).vs.length zb.vc)→W.cell? ⟨w.heap.size+1,4,none⟩=some (.slice zb.ca (tkC s at_).cs.length zb.cc)→W.cell? ⟨w.heap.size+1,5,none⟩=some (.int .u64 (tkC s at_).laid)→Calls Tryz.prog 73 #[.agg #[.int .i64 (tkC s at_).seg,.slice zb.wa (tkC s at_).ws.length zb.wc,.slice zb.ka (tkC s at_).ks.length zb.kc,.slice zb.va (tkC s at_).vs.length zb.vc,.slice zb.ca (tkC s at_).cs.length zb.cc,.int .u64 (tkC s at_).laid],.int .i64 at_,.func (.func 71) #[] #[.pointer (some ⟨w.heap.size,0,none⟩),.pointer (some ⟨w.heap.size+1,0,none⟩)]] W (HighR W a at_ H (topI (unfB c (tkC s at_) a H at_) (H+1)))):=hid fun W zb hb hz hzc q0 q1 q2 q3 q4 q5 q6 q7 q8 r0 r1 r2 r3 r4 r5=>by
        refine highest_ok (tkC s at_).seg _ _ _ _ _ _ _ _ _ _ _ _ _ a H at_ p6 (unfB c (tkC s at_) a H at_) (fun h=>inH (tkC s at_) a h at_) 71 _ enters_take1 W (hid fun W' hb'=> ?_) (hid fun h hh W' hb'=> ?_) (hid fun h hh W' hb'=> ?_)
        · exact Path_ok (tkC s at_).seg (tkC s at_).ks.length a H (kz.win hs) at_ xo W'
        · exact among_win kz hzu zb hzc hh xo W' (hz.below hb')
        · have b:=inH_bd kz hzu hh (at_:=at_) xo;have cc:∀ {p:Addr} {v:Value},W.cell? p=some v→W'.cell? p=some v:=fun h=>(hb'.cell (World.block_lt_of_cell? _ _ h)).trans h
          obtain ⟨hwd,-,-,-⟩:=kz.cap.wd hh;rw [←Nat.pow_add] at hwd;exact takeIs_ok c (tkC s at_).seg _ _ _ _ _ _ _ _ _ _ _ _ _ h (inH (tkC s at_) a h at_) (sprB c (tkC s at_).ks.length H h (inH (tkC s at_) a h at_)) 0 w.heap.size (w.heap.size+1) W' (cc q0) (cc q1) (cc q2) (cc q3) (cc q4) (cc q5) (cc q6) (cc q7) (cc q8) (cc r0) (cc r1) (cc r2) (cc r3) (cc r4) (cc r5) (hid fun W'' hb''=>Sparse_in c (tkC s at_).ks.length a H h kz.cap hh (inH (tkC s at_) a h at_) xo xo W'')
       have hLn:(prs (tkC s at_) 0 (tkC s at_).ks.length).length=manyC (tkC s at_):=prs_length _ _ _;dsimp only;generalize tkC s at_=z at *;obtain ⟨z1,z2,z3,z4,z5,z6⟩:=kz.pows;obtain ⟨g',hlw'⟩:=gapN_gd kz hzu;have lz1:z.ws.length≤1000000000000:=by have:=g'.elw;omega
       have lz2:z.ks.length≤1000000000000:=xo;by_cases ht1:topI (unfB c z a H at_) (H+1)= -1
       · rw [if_pos ht1];exact gTake_none c s.seg _ _ _ _ _ _ _ _ _ _ _ _ _ a H at_ n _ _ z hzu hm ht1 w CK AM NT CL HI
       · rw [if_neg ht1];by_cases ht:topI (unfB c z a H at_) (H+1)=H
         · rw [if_pos ht];have hcn:manyC z≤z.ks.length:=by have:=cntW_le z.ws 0 z.ks.length;unfold manyC;omega
           obtain ⟨H',n1,n2,n3,n4⟩:=nar_ok (m:=manyC z) 20 z.ks.length a H kz.cap xo xo;have hnar:narF c (manyC z) 20 z.ks.length=((2^a*2^H':Nat):Int):=n2.all;have hbig:=n2.big;have hdiv:(narF c (manyC z) 20 z.ks.length).toNat/2^a=2^H':=by rw [hnar,Int.toNat_natCast,Nat.mul_div_cancel_left _ xo]
           rw [hdiv];have hle:manyC z≤2^a*2^H':=by rw [hnar] at n3;omega
           refine gTake_wide c s.seg _ _ _ _ _ _ _ _ _ _ _ _ _ a H at_ n _ _ z hzu hm (narF c (manyC z) 20 z.ks.length) (prs z 0 z.ks.length) _ z6 ht w CK AM NT CL HI (hid fun W zb hb hz=> ?_) (hid fun W zb hb hz hzc=> ?_) (hid fun la pl W zb hb hz hla=> ?_)
           · have:=Pairs_ok z zb lz1 lz2 0 z.ks.length W hz;have pe:partE z 0 z.ks.length=0:=by rw [partE,if_pos kz.may,if_pos xo]
             rw [prsR,pe,if_pos rfl] at this;exact this
           · exact narrower_ok c z.seg _ _ _ _ _ _ _ _ _ _ _ _ _ a H (manyC z) kz.cap hcn W (hid fun W' hb'=>among_all kz hzu zb hzc W' (hz.below hb'))
           · rw [hnar];exact Into_ok g' kz.may zb (2^H') (Nat.two_pow_pos H') (pwB_two a) (pwB_two H') hbig (prs z 0 z.ks.length) (by rw [hLn];exact hle) la pl W hz hla
         · rw [if_neg ht];obtain ⟨h,eh,hh⟩:∃h:Nat,topI (unfB c z a H at_) (H+1)+1=h∧h≤H:=by
            have:=topI_bd (unfB c z a H at_) (H+1);exact ⟨(topI (unfB c z a H at_) (H+1)+1).toNat,by omega,by omega⟩
           have hht:(topI (unfB c z a H at_) (H+1)+1).toNat=h:=xo;simp only [hht];have b:=wnd_bd (a:=a) (at_:=at_) hh (by rw [←kz.nk];omega);have e3:=wnd_seg a h at_;have hhi:(wnd a h at_+1)*2^(a+h)≤z.ks.length:=by rw [kz.nk];exact b.2.2.2
           have hlen:=prs_length z (wnd a h at_*2^(a+h)) ((wnd a h at_+1)*2^(a+h));have hc2:=cntW_le z.ws (wnd a h at_*2^(a+h)) ((wnd a h at_+1)*2^(a+h));have hlh:wnd a h at_*2^(a+h)≤(wnd a h at_+1)*2^(a+h):=Nat.mul_le_mul_right _ xo;refine gTake_even c s.seg _ _ _ _ _ _ _ _ _ _ _ _ _ a H at_ n _ _ z hzu hm h _ hh z6 eh ht1 ht w CK AM NT CL HI (hid fun W zb hb hz=> ?_);have ehi:((wnd a h at_*2^(a+h):Nat):Int)+((2^(a+h):Nat):Int)=(((wnd a h at_+1)*2^(a+h):Nat):Int):=by rw [←Int.natCast_add,Nat.succ_mul]
           rw [ehi];refine Even_core z.seg _ _ _ _ _ _ _ _ _ _ _ _ _ _ _ (prs z (wnd a h at_*2^(a+h)) ((wnd a h at_+1)*2^(a+h))) _ W (hid fun W' hb'=> ?_) (hid fun la pl W' hb' hla=> ?_)
           · have:=Pairs_ok z zb lz1 lz2 (wnd a h at_*2^(a+h):Nat) ((wnd a h at_+1)*2^(a+h):Nat) W' (hz.below hb');have pe:partE z (wnd a h at_*2^(a+h):Nat) ((wnd a h at_+1)*2^(a+h):Nat)=0:=by rw [partE,if_pos kz.may,if_pos ⟨Int.natCast_nonneg _,Int.ofNat_le.2 hlh,Int.ofNat_le.2 hhi⟩]
             rw [prsR,pe,if_pos rfl] at this;exact this
           · exact over_ok g' kz.may zb _ _ hlh hhi _ (by rw [hlen];exact hc2) la pl W' (hz.below hb') hla
 · have e:takE c s k=gapE c s:=by rw [takE,if_neg h0]
   rw [takC,e,if_neg h0];exact gTake_err c s.seg _ _ _ _ _ _ _ _ _ _ _ _ _ k _ h0 w CK
end
section
open Go.RowKit
theorem put_zero {c:Cfg} {s:SlC} {k:Int} (h:putE c s k=0):gapE c s=0∧0≤k∧k≤manyC s∧(manyC s:Int)≠c.most:=by
 unfold putE at h;by_cases h0:gapE c s=0
 · rw [if_pos h0] at h;by_cases h1:k<0∨(manyC s:Int)<k
   · rw [if_pos h1] at h;omega
   · rw [if_neg h1] at h;by_cases h2:(manyC s:Int)=c.most
     · rw [if_pos h2] at h;omega
     · exact ⟨h0,by omega,by omega,h2⟩
 · rw [if_neg h0] at h;exact absurd h h0
theorem take_zero {c:Cfg} {s:SlC} {k:Int} (h:takE c s k=0):gapE c s=0∧0≤k∧k<manyC s:=by
 unfold takE at h;by_cases h0:gapE c s=0
 · rw [if_pos h0] at h;by_cases h1:k<0∨(manyC s:Int)≤k
   · rw [if_pos h1] at h;omega
   · exact ⟨h0,by omega,by omega⟩
 · rw [if_neg h0] at h;exact absurd h h0
theorem gd_nums {d:SlC} {S n lc:Nat} (g:SlGd d S ((n+63)/64) n lc):d.ws.length≤1000000∧d.ks.length≤1000000∧d.vs.length≤1000000∧d.cs.length≤1000000∧U64s d.ws:=by
 have h1:=g.elw;have h2:=g.elk;have h3:=g.elv;have h4:=g.elc;have h5:=g.cn;have h6:=g.s4;have h7:=g.nm;have h9:1*lc≤S*lc:=Nat.mul_le_mul_right _ xo;exact ⟨by omega,by omega,by omega,by omega,g.u⟩
theorem nil_nums:nilC.ws.length≤1000000∧nilC.ks.length≤1000000∧nilC.vs.length≤1000000∧nilC.cs.length≤1000000∧U64s nilC.ws:=
  ⟨Nat.zero_le _,Nat.zero_le _,Nat.zero_le _,Nat.zero_le _,fun x hx=>by cases hx⟩
theorem put_gd {c:Cfg} {s:SlC} (hu:U64s s.ws) {k:Int} (p:Int×Int) (h:putE c s k=0):∃S n lc,SlGd (putC c s k p) S ((n+63)/64) n lc:=by
 obtain ⟨h0,k0,k1,k2⟩:=put_zero h;obtain ⟨hc,a,H,kn,hs,hmost,hden⟩:=gap_zero h0;rw [sum_many kn hu] at hmost;obtain ⟨g,hlw⟩:=gapN_gd kn hu;obtain ⟨p1,p2,p3,p4,p5,p6⟩:=kn.pows;obtain ⟨n,rfl⟩:∃n:Nat,k=n:=⟨k.toNat,by omega⟩
 have hn:n≤manyC s:=xo;have hat:=homeC_lt p5 n;rw [putC,if_pos h,sgL_eq kn.cap.seg,kn.cap.hgt,Int.toNat_natCast];unfold putN;by_cases ht:topI (ovB c s a H (homeC s n)) (H+1)=H
 · rw [if_pos ht];have hLn:(prs s 0 s.ks.length).length=manyC s:=prs_length _ _ _;have hil:(insL (prs s 0 s.ks.length) n p).length=manyC s+1:=by rw [insL_length (by rw [hLn];exact hn),hLn]
   have hcap:=cap_facts kn (n:=manyC s+1) xo;exact ⟨_,_,_,(emptyL_gd p1 p2 hcap.2.2.1 hcap.2.2.2.1 s.laid).sp (Nat.zero_le _) (Nat.le_refl _) (by rw [hil];have:=hcap.2.2.2.2.1;omega)⟩
 · rw [if_neg ht];obtain ⟨h',eh,hh,hroom⟩:=put_room kn hu hat ht;have hht:(topI (ovB c s a H (homeC s n)) (H+1)+1).toNat=h':=xo;simp only [hht];have b:=wnd_bd (a:=a) (at_:=homeC s n) hh (by rw [←kn.nk];exact hat);have hhi:(wnd a h' (homeC s n)+1)*2^(a+h')≤s.ks.length:=by rw [kn.nk];exact b.2.2.2
   obtain ⟨q1,q2⟩:=home_in p5 hn b.2.1 b.2.2.1 hhi;have hil:=insL_length q2 p;have hpl:=prs_length s (wnd a h' (homeC s n)*2^(a+h')) ((wnd a h' (homeC s n)+1)*2^(a+h'));have eww:(wnd a h' (homeC s n)+1)*2^(a+h')=wnd a h' (homeC s n)*2^(a+h')+2^(a+h'):=Nat.succ_mul _ _;exact ⟨_,_,_,g.sp xo hhi (by rw [hil,hpl];omega)⟩
theorem put_nums (c:Cfg) (s:SlC) (hu:U64s s.ws) (k:Int) (p:Int×Int):(putC c s k p).ws.length≤1000000∧(putC c s k p).ks.length≤1000000∧(putC c s k p).vs.length≤1000000∧(putC c s k p).cs.length≤1000000∧U64s (putC c s k p).ws:=by
 by_cases h:putE c s k=0
 · obtain ⟨_,_,_,g⟩:=put_gd hu p h;exact gd_nums g
 · rw [putC,if_neg h];exact nil_nums
theorem take_gd {c:Cfg} {s:SlC} (hu:U64s s.ws) {k:Int} (h:takE c s k=0):∃S n lc,SlGd (takC c s k) S ((n+63)/64) n lc:=by
 obtain ⟨h0,k0,k1⟩:=take_zero h;obtain ⟨hc,a,H,kn,hs,hmost,hden⟩:=gap_zero h0;obtain ⟨n,rfl⟩:∃n:Nat,k=n:=⟨k.toNat,by omega⟩
 have hn:n<(plsW s.ws 0 s.ks.length).length:=by rw [plsW_length];unfold manyC at k1;omega
 obtain ⟨hr,hbit,hat⟩:=pls_rank hn;rw [takC,if_pos h,sgL_eq kn.cap.seg,kn.cap.hgt,Int.toNat_natCast];unfold takN;generalize (plsW s.ws 0 s.ks.length).getD n 0=at_ at *;obtain ⟨kz,gz,zl,t1,t2,hzm⟩:=take_in kn hu hat hbit;dsimp only;generalize tkC s at_=z at *;obtain ⟨z1,z2,z3,z4,z5,z6⟩:=kz.pows;by_cases ht1:topI (unfB c z a H at_) (H+1)= -1
 · rw [if_pos ht1];exact ⟨_,_,_,gz⟩
 · rw [if_neg ht1];by_cases ht:topI (unfB c z a H at_) (H+1)=H
   · rw [if_pos ht];have hLn:(prs z 0 z.ks.length).length=manyC z:=prs_length _ _ _;have hcn:manyC z≤z.ks.length:=by have:=cntW_le z.ws 0 z.ks.length;unfold manyC;omega
     obtain ⟨H',n1,n2,n3,n4⟩:=nar_ok (m:=manyC z) 20 z.ks.length a H kz.cap xo xo;have hnar:narF c (manyC z) 20 z.ks.length=((2^a*2^H':Nat):Int):=n2.all;have hbig:=n2.big;have hdiv:(narF c (manyC z) 20 z.ks.length).toNat/2^a=2^H':=by rw [hnar,Int.toNat_natCast,Nat.mul_div_cancel_left _ xo]
     rw [hdiv];have hle:manyC z≤2^a*2^H':=by rw [hnar] at n3;omega
     exact ⟨_,_,_,(emptyL_gd z1 z2 (Nat.two_pow_pos H') hbig z.laid).sp (Nat.zero_le _) (Nat.le_refl _) (by rw [hLn];omega)⟩
   · rw [if_neg ht];obtain ⟨h',eh,hh⟩:∃h':Nat,topI (unfB c z a H at_) (H+1)+1=h'∧h'≤H:=by
      have:=topI_bd (unfB c z a H at_) (H+1);exact ⟨(topI (unfB c z a H at_) (H+1)+1).toNat,by omega,by omega⟩
     have hht:(topI (unfB c z a H at_) (H+1)+1).toNat=h':=xo;simp only [hht];have b:=wnd_bd (a:=a) (at_:=at_) hh (by rw [←kz.nk];omega);have hhi:(wnd a h' at_+1)*2^(a+h')≤s.ks.length:=by rw [←zl,kz.nk];exact b.2.2.2
     have eww:(wnd a h' at_+1)*2^(a+h')=wnd a h' at_*2^(a+h')+2^(a+h'):=Nat.succ_mul _ _;have hpl:=prs_length z (wnd a h' at_*2^(a+h')) ((wnd a h' at_+1)*2^(a+h'));have hc2:=cntW_le z.ws (wnd a h' at_*2^(a+h')) ((wnd a h' at_+1)*2^(a+h'));exact ⟨_,_,_,gz.sp xo hhi (by rw [hpl];exact hc2)⟩
theorem take_nums (c:Cfg) (s:SlC) (hu:U64s s.ws) (k:Int):(takC c s k).ws.length≤1000000∧(takC c s k).ks.length≤1000000∧(takC c s k).vs.length≤1000000∧(takC c s k).cs.length≤1000000∧U64s (takC c s k).ws:=by
 by_cases h:takE c s k=0
 · obtain ⟨_,_,_,g⟩:=take_gd hu h;exact gd_nums g
 · rw [takC,if_neg h];exact nil_nums
theorem new_nums9 (c:Cfg):(newC c).ws.length≤1000000∧(newC c).ks.length≤1000000∧(newC c).vs.length≤1000000∧(newC c).cs.length≤1000000∧U64s (newC c).ws:=by
 unfold newC;split
 · rename_i h
   obtain ⟨S,M,h1,h2,h4,h6,hM,hm,-,-⟩:=least_nums h;rw [emptyC_eq h1 h2 h4];exact gd_nums (emptyL_gd h4 h6 hM hm 0)
 · exact nil_nums
end
section
open Go.RowKit
def delL (l:List (Int×Int)) (k:Nat):List (Int×Int):=l.take k++l.drop (k+1)
theorem del_mid (A B:List (Int×Int)) (x:Int×Int):delL (A++x::B) A.length=A++B:=by
 unfold delL;rw [List.take_left,show A++x::B=(A++[x])++B by simp,show A.length+1=(A++[x]).length by simp,List.drop_left]
theorem ful_low {c:Cfg} {size:Int} {a H:Nat} (k:CapC c size a H) {m:Int} (h:fulB c H H m=true):m*c.den≤c.rh*size:=by
 unfold fulB at h;rw [k.wtop] at h;rw [Int.mul_comm c.rh];split at h
 · rw [decide_eq_true_eq] at h;exact h
 · rename_i hH
   rw [decide_eq_true_eq,Int.sub_self,Int.mul_zero,Int.zero_add,Int.mul_right_comm,←Int.mul_assoc] at h;exact Int.le_of_mul_le_mul_right h xo
theorem wide_prs {S M:Nat} (h4:4≤S) (h6:S≤64) (hM:1≤M) (hm:S*M≤65536) (laid:Int) {L:List (Int×Int)} (hL:L.length≤S*M):(wideC S M laid L).ks.length=S*M∧prs (wideC S M laid L) 0 (S*M)=L:=by
 have g:=emptyL_gd h4 h6 hM hm laid;exact ⟨(g.sp (Nat.zero_le _) (Nat.le_refl _) xo).elk,sp_in g (Nat.zero_le _) (Nat.le_refl _) xo⟩
theorem put_res {c:Cfg} {s:SlC} (hu:U64s s.ws) {k:Int} (p:Int×Int) (h:putE c s k=0):
    gapE c (putC c s k p)=0∧prs (putC c s k p) 0 (putC c s k p).ks.length=insL (prs s 0 s.ks.length) k.toNat p:=by
 obtain ⟨h0,k0,k1,k2⟩:=put_zero h;obtain ⟨hc,a,H,kn,hs,hmost,hden⟩:=gap_zero h0;rw [sum_many kn hu] at hmost;have hlt:(manyC s:Int)<c.most:=xo;obtain ⟨g,hlw⟩:=gapN_gd kn hu;obtain ⟨p1,p2,p3,p4,p5,p6⟩:=kn.pows;obtain ⟨n,rfl⟩:∃n:Nat,k=n:=⟨k.toNat,by omega⟩
 have hn:n≤manyC s:=xo;have hat:=homeC_lt p5 n;rw [putC,if_pos h,sgL_eq kn.cap.seg,kn.cap.hgt,Int.toNat_natCast];unfold putN;by_cases ht:topI (ovB c s a H (homeC s n)) (H+1)=H
 · rw [if_pos ht];have hLn:(prs s 0 s.ks.length).length=manyC s:=prs_length _ _ _;have hil:(insL (prs s 0 s.ks.length) n p).length=manyC s+1:=by rw [insL_length (by rw [hLn];exact hn),hLn]
   have hcap:=cap_facts kn (n:=manyC s+1) xo;have hd:=cap_den hc kn.cap.seg s.laid (L:=insL (prs s 0 s.ks.length) n p) (by rw [hil];omega);rw [hil] at hd;obtain ⟨w1,w2⟩:=wide_prs p1 p2 hcap.2.2.1 hcap.2.2.2.1 s.laid (L:=insL (prs s 0 s.ks.length) n p) (by rw [hil];exact hcap.2.2.2.2.1);exact ⟨hd,by rw [w1];exact w2⟩
 · rw [if_neg ht];obtain ⟨h',eh,hh,hroom⟩:=put_room kn hu hat ht;have hht:(topI (ovB c s a H (homeC s n)) (H+1)+1).toNat=h':=xo;simp only [hht];have b:=wnd_bd (a:=a) (at_:=homeC s n) hh (by rw [←kn.nk];exact hat);have hhi:(wnd a h' (homeC s n)+1)*2^(a+h')≤s.ks.length:=by rw [kn.nk];exact b.2.2.2
   obtain ⟨q1,q2⟩:=home_in p5 hn b.2.1 b.2.2.1 hhi;have hil:=insL_length q2 p;have hpl:=prs_length s (wnd a h' (homeC s n)*2^(a+h')) ((wnd a h' (homeC s n)+1)*2^(a+h'));have eww:(wnd a h' (homeC s n)+1)*2^(a+h')=wnd a h' (homeC s n)*2^(a+h')+2^(a+h'):=Nat.succ_mul _ _;have hlh:wnd a h' (homeC s n)*2^(a+h')≤(wnd a h' (homeC s n)+1)*2^(a+h'):=xo;have hd:=put_den kn hu hden hlt hat eh hh (L:=insL (prs s (wnd a h' (homeC s n)*2^(a+h')) ((wnd a h' (homeC s n)+1)*2^(a+h'))) (n-cntW s.ws 0 (wnd a h' (homeC s n)*2^(a+h'))) p) (by rw [hil,hpl];rfl) (by rw [hil,hpl];exact hroom);refine ⟨hd,?_⟩;generalize wnd a h' (homeC s n)*2^(a+h')=lo at *;generalize (wnd a h' (homeC s n)+1)*2^(a+h')=hi at *;have hL:(insL (prs s lo hi) (n-cntW s.ws 0 lo) p).length≤hi-lo:=by rw [hil,hpl];omega
   rw [(g.sp hlh hhi hL).elk,prs_sp g hlh hhi hL,prs_app s (Nat.zero_le lo) (Nat.le_trans hlh hhi),prs_app s hlh hhi,←List.append_assoc];have e0:=prs_length s 0 lo;rw [insL_mid (A:=prs s 0 lo) (B:=prs s lo hi) (C:=prs s hi s.ks.length) (by rw [e0];exact q1) (by rw [e0];exact q2),e0]
theorem take_res {c:Cfg} {s:SlC} (hu:U64s s.ws) {k:Int} (h:takE c s k=0):
    gapE c (takC c s k)=0∧prs (takC c s k) 0 (takC c s k).ks.length=delL (prs s 0 s.ks.length) k.toNat:=by
 obtain ⟨h0,k0,k1⟩:=take_zero h;obtain ⟨hc,a,H,kn,hs,hmost,hden⟩:=gap_zero h0;rw [sum_many kn hu] at hmost;obtain ⟨g,hlw⟩:=gapN_gd kn hu;obtain ⟨p1,p2,p3,p4,p5,p6⟩:=kn.pows;obtain ⟨n,rfl⟩:∃n:Nat,k=n:=⟨k.toNat,by omega⟩
 have hn:n<(plsW s.ws 0 s.ks.length).length:=by rw [plsW_length];unfold manyC at k1;omega
 obtain ⟨hr,hbit,hat⟩:=pls_rank hn;rw [takC,if_pos h,sgL_eq kn.cap.seg,kn.cap.hgt,Int.toNat_natCast];unfold takN;generalize (plsW s.ws 0 s.ks.length).getD n 0=at_ at *;obtain ⟨kz,gz,zl,t1,t2,hzm⟩:=take_in kn hu hat hbit;obtain ⟨d1,d2⟩:=take_den kn hu hden hmost hat hbit;obtain ⟨r1,r2⟩:=prs_tk_all g hat hbit;have e0:=prs_length s 0 at_;have hdel:delL (prs s 0 s.ks.length) n=prs (tkC s at_) 0 s.ks.length:=by
  rw [r1,r2,←hr,←e0];exact del_mid _ _ _
 have hfz:(manyC (tkC s at_):Int)*c.den≤c.rh*(s.ks.length:Int):=by
  have htop:=((denB_iff g).1 hden H (Nat.le_refl _) 0 (by rw [Nat.sub_self];exact Nat.one_pos)).1;have e:cntH s.ws a H 0=manyC s:=by
   rw [cntH,manyC,Nat.zero_mul,Nat.zero_add,Nat.one_mul,Nat.pow_add,kn.nk]
  rw [e] at htop;have hf:=ful_low kn.cap htop;have d0:=cfHead_num (cfMay_head hc);have:(manyC (tkC s at_):Int)*c.den≤(manyC s:Int)*c.den:=Int.mul_le_mul_of_nonneg_right xo xo;omega
 dsimp only;generalize tkC s at_=z at *;obtain ⟨z1,z2,z3,z4,z5,z6⟩:=kz.pows;rw [←zl] at hfz gz;rw [hdel,←zl];by_cases ht1:topI (unfB c z a H at_) (H+1)= -1
 · rw [if_pos ht1];exact ⟨d1 ht1,rfl⟩
 · rw [if_neg ht1];by_cases ht:topI (unfB c z a H at_) (H+1)=H
   · rw [if_pos ht];have hLn:(prs z 0 z.ks.length).length=manyC z:=prs_length _ _ _;have hcn:manyC z≤z.ks.length:=by have:=cntW_le z.ws 0 z.ks.length;unfold manyC;omega
     obtain ⟨H',n1,n2,n3,n4⟩:=nar_den (m:=manyC z) 20 z.ks.length a H kz.cap xo xo hfz;have hnar:narF c (manyC z) 20 z.ks.length=((2^a*2^H':Nat):Int):=n2.all;have hbig:=n2.big;have hdiv:(narF c (manyC z) 20 z.ks.length).toNat/2^a=2^H':=by rw [hnar,Int.toNat_natCast,Nat.mul_div_cancel_left _ xo]
     rw [hdiv];rw [hnar] at n2 n3 n4;have hle:manyC z≤2^a*2^H':=xo;obtain ⟨w1,w2⟩:=wide_prs p1 p2 (Nat.two_pow_pos H') hbig z.laid (L:=prs z 0 z.ks.length) (by rw [hLn];exact hle);refine ⟨wide_den n2 z.laid (by rw [hLn];exact hle) (by rw [hLn];omega) (by rw [hLn];exact n4),by rw [w1];exact w2⟩
   · rw [if_neg ht];obtain ⟨h',eh,hh⟩:∃h':Nat,topI (unfB c z a H at_) (H+1)+1=h'∧h'≤H:=by
      have:=topI_bd (unfB c z a H at_) (H+1);exact ⟨(topI (unfB c z a H at_) (H+1)+1).toNat,by omega,by omega⟩
     have hht:(topI (unfB c z a H at_) (H+1)+1).toNat=h':=xo;simp only [hht];have b:=wnd_bd (a:=a) (at_:=at_) hh (by rw [←kz.nk];omega);have hhi:(wnd a h' at_+1)*2^(a+h')≤z.ks.length:=by rw [kz.nk];exact b.2.2.2
     have eww:(wnd a h' at_+1)*2^(a+h')=wnd a h' at_*2^(a+h')+2^(a+h'):=Nat.succ_mul _ _;have hlh:wnd a h' at_*2^(a+h')≤(wnd a h' at_+1)*2^(a+h'):=xo;have hpl:=prs_length z (wnd a h' at_*2^(a+h')) ((wnd a h' at_+1)*2^(a+h'));have hc2:=cntW_le z.ws (wnd a h' at_*2^(a+h')) ((wnd a h' at_+1)*2^(a+h'));have hd:=d2 h' eh hh (prs z (wnd a h' at_*2^(a+h')) ((wnd a h' at_+1)*2^(a+h'))) (by rw [hpl];rfl) (by rw [hpl];omega);refine ⟨hd,?_⟩;generalize wnd a h' at_*2^(a+h')=lo at *;generalize (wnd a h' at_+1)*2^(a+h')=hi at *;have hL:(prs z lo hi).length≤hi-lo:=by rw [hpl];exact hc2
     rw [(gz.sp hlh hhi hL).elk,prs_sp gz hlh hhi hL,prs_app z (Nat.zero_le lo) (Nat.le_trans hlh hhi),prs_app z hlh hhi,←List.append_assoc]
end
section
open Go.RowKit
section
variable {f g:Nat→Int}
def lvs (f g:Nat→Int):Nat→Nat→List (Int×Int)
  | 0,n=>[(f n,g n)]
  | d+1,n=>lvs f g d (2*n)++lvs f g d (2*n+1)
theorem lvs_length:∀d n,(lvs f g d n).length=2^d:=by
 intro d;induction d with
 | zero=>intro n;rfl
 | succ d ih=>intro n;rw [lvs,List.length_append,ih,ih,Nat.pow_succ];omega
theorem lvs_get:∀d n i,i<2^d→(lvs f g d n)[i]? =some (f (n*2^d+i),g (n*2^d+i)):=by
 intro d;induction d with
 | zero=>
  intro n i hi;have:i=0:=by simp at hi;exact hi
  subst this;simp [lvs]
 | succ d ih=>
  intro n i hi;rw [Nat.pow_succ] at hi;rw [lvs];by_cases h:i<2^d
  · rw [List.getElem?_append_left (by rw [lvs_length];exact h),ih _ _ h];rw [show n*2^(d+1)+i=2*n*2^d+i by rw [Nat.pow_succ,Nat.mul_comm 2 n,Nat.mul_assoc,Nat.mul_comm 2]]
  · rw [List.getElem?_append_right (by rw [lvs_length];omega),lvs_length,ih _ _ xo];rw [show n*2^(d+1)+i=(2*n+1)*2^d+(i-2^d) by rw [Nat.pow_succ,Nat.add_mul,Nat.mul_comm 2 n,Nat.mul_assoc,Nat.mul_comm 2];omega]
def Good (f g:Nat→Int):Nat→Nat→Prop
  | 0,n=>ownB (f n) (g n)=true
  | d+1,n=>ownB (f n) (g n)=true∧joinR (f n) (g n) (f (2*n)) (g (2*n)) (f (2*n+1)) (g (2*n+1))=true∧Good f g d (2*n)∧Good f g d (2*n+1)
theorem Good.own:∀ {d n},Good f g d n→ownB (f n) (g n)=true
  | 0,_,h=>h
  | _+1,_,h=>h.1
def cntL (l:List (Int×Int)):Int:=(l.map (·.2)).sum
theorem cntL_append (a b:List (Int×Int)):cntL (a++b)=cntL a+cntL b:=by simp [cntL]
theorem join_facts {m c am ac bm bc:Int} (h:joinR m c am ac bm bc=true):c=ac+bc∧(0<bc→m=bm)∧(¬0<bc→m=am)∧(0<ac→0<bc→am<bm):=by
 simp only [joinR,Bool.and_eq_true,Bool.or_eq_true,decide_eq_true_eq] at h;obtain ⟨⟨⟨⟨⟨h1,h2⟩,h3⟩,h4⟩,h5,h6⟩,h7⟩:=h;unfold abM at h5;refine ⟨by omega,fun hb=>by rw [if_pos hb] at h5;exact h5,fun hb=>by rw [if_neg hb] at h5;exact h5,fun ha hb=>by rcases h7 with (h7|h7)|h7<;>omega⟩
theorem Good.cnt:∀ {d n},Good f g d n→cntL (lvs f g d n)=g n:=by
 intro d;induction d with
 | zero=>intro n _;simp [lvs,cntL]
 | succ d ih=>
  intro n h;obtain ⟨h1,h2,h3,h4⟩:=h;rw [lvs,cntL_append,ih h3,ih h4,(join_facts h2).1]
def srv (key m c:Int):Prop:=0<c∧key≤m
instance (key m c:Int):Decidable (srv key m c):=by unfold srv;infer_instance
end
end
section
open Go.RowKit
theorem lvs_take {f g:Nat→Int} {D d m:Nat} (hd:d≤D) (h1:2^D≤m*2^d) (h2:(m+1)*2^d≤2*2^D):
    (lvs f g D 1).take (m*2^d-2^D+2^d)=(lvs f g D 1).take (m*2^d-2^D)++lvs f g d m:=by
 rw [Nat.add_mul,Nat.one_mul] at h2;obtain ⟨P,hP⟩:∃P,m*2^d=P:=⟨_,rfl⟩
 rw [hP] at h1 h2 ⊢;have p1:=Nat.two_pow_pos d;have p2:=Nat.two_pow_pos D;generalize hQ:2^D=Q at h1 h2 p2 ⊢;generalize hR:2^d=R at h2 p1 ⊢;have e:((lvs f g D 1).take (P-Q)).length=P-Q:=by
  rw [List.length_take,lvs_length,hQ];omega
 refine List.ext_getElem? fun k=> ?_
 by_cases hk:k<P-Q
 · rw [List.getElem?_take,if_pos xo,List.getElem?_append_left (by rw [e];exact hk),List.getElem?_take,if_pos hk]
 · rw [List.getElem?_append_right (by rw [e];omega),e];by_cases hk2:k<P-Q+R
   · rw [List.getElem?_take,if_pos hk2,lvs_get _ _ _ (by rw [hQ];omega),lvs_get _ _ _ (by rw [hR];omega),hP,hQ];rw [show 1*Q+k=P+(k-(P-Q)) by omega]
   · rw [List.getElem?_take,if_neg hk2,List.getElem?_eq_none (by rw [lvs_length,hR];omega)]
theorem Good.ahead {f g:Nat→Int} {D d m:Nat} (h:Good f g d m) (hd:d≤D) (h1:2^D≤m*2^d) (h2:(m+1)*2^d≤2*2^D):
    cntL ((lvs f g D 1).take (m*2^d-2^D+2^d))=cntL ((lvs f g D 1).take (m*2^d-2^D))+g m:=by
 rw [lvs_take hd h1 h2,cntL_append,h.cnt]
end
section
open Go.RowKit
theorem plsW_append (ws:List Int) {a b d:Nat} (h1:a≤b) (h2:b≤d):plsW ws a b++plsW ws b d=plsW ws a d:=by
 unfold plsW;rw [←List.filter_append];congr 1
 have:=List.range'_append_1 (s:=a) (m:=b-a) (n:=d-b);rw [show a+(b-a)=b by omega,show b-a+(d-b)=d-a by omega] at this;exact this
theorem prs_append (c:SlC) {a b d:Nat} (h1:a≤b) (h2:b≤d):prs c a b++prs c b d=prs c a d:=by
 unfold prs;rw [←List.map_append,plsW_append c.ws h1 h2]
def Ris (l:List (Int×Int)):Prop:=l.Pairwise fun p q=>p.1<q.1
theorem Ris.apart {a b:List (Int×Int)} (h:Ris (a++b)):Ris a∧Ris b∧∀p ∈ a,∀q ∈ b,p.1<q.1:=by
 have:=List.pairwise_append.1 h;exact this
theorem Ris.prs {c:SlC} {n:Nat} (h:Ris (prs c 0 n)) {a b:Nat} (h1:a≤b) (h2:b≤n):Ris (Go.Proofs.YtjhpblejlchhjaaGreatDoor.prs c a b):=by
 rw [←prs_append c (Nat.zero_le b) h2] at h;have h3:=h.apart.1;rw [←prs_append c (Nat.zero_le a) h1] at h3;exact h3.apart.2.1
end
section
open Go.RowKit Go.Shelf
end
section
open Go.RowKit Go.Shelf
end
section
open Go.RowKit
theorem prs_in {c:SlC} {a b:Nat} {p:Int×Int}:p ∈ prs c a b↔∃j,(a≤j∧j<b∧bitW c.ws j=true)∧(c.ks.getD j 0,c.vs.getD j 0)=p:=by
 unfold prs plsW;rw [List.mem_map];constructor
 · rintro ⟨j,hj,rfl⟩;rw [List.mem_filter,List.mem_range'_1] at hj;exact ⟨j,⟨hj.1.1,by omega,hj.2⟩,rfl⟩
 · rintro ⟨j,⟨h1,h2,h3⟩,rfl⟩;exact ⟨j,List.mem_filter.2 ⟨List.mem_range'_1.2 ⟨h1,by omega⟩,h3⟩,rfl⟩
end
section
open Go.RowKit
theorem make_len {gs ps:List Int} (hm:may gs ps=true) (h:makeOk gs ps 0=true):(makeG gs ps 0).length=(makeP gs ps 0).length∧ps.length≤(makeP gs ps 0).length∧(makeP gs ps 0).length≤65536∧0≤makeN gs ps 0∧makeN gs ps 0<(makeP gs ps 0).length:=by
 have hl:=may_len hm;rw [makeG,makeP,makeN,if_pos h,if_pos h,if_pos h];cases hf:firstF gs ps with
 | some k=>
  have hk:=(firstF_is hf).1;dsimp only;rw [List.length_set];omega
 | none=>
  have h2:gs.length≠65536:=by
   unfold makeOk at h;rw [hf] at h;simp at h;exact h.2
  dsimp only;rw [List.length_append,List.length_append];simp only [List.length_cons,List.length_nil];omega
theorem in_zero {c:Cfg} {s:SlC} {gs ps:List Int} (h:inE c s gs ps=0):makeOk gs ps 0=true∧(manyC s:Int)≠c.most:=by
 unfold inE at h;by_cases q:makeOk gs ps 0=true∧(manyC s:Int)≠c.most
 · exact q
 · rw [if_neg q] at h;exact absurd h xdd
theorem in_prs {c:Cfg} {s:SlC} {gs ps:List Int} (hu:U64s s.ws) (h:omE c s gs ps=0) (he:inE c s gs ps=0) {k:Nat} (hk:k≤manyC s):
    putE c s k=0∧gapE c (inS c s gs ps k)=0∧prs (inS c s gs ps k) 0 (inS c s gs ps k).ks.length=insL (prs s 0 s.ks.length) k (makeN gs ps 0,0):=by
 obtain ⟨hg,hm,hl⟩:=omE_zero h;obtain ⟨h1,h2⟩:=in_zero he;have e:putE c s k=0:=by rw [putE,if_pos hg,if_neg xo,if_neg h2]
 obtain ⟨r1,r2⟩:=put_res hu (makeN gs ps 0,(0:Int)) e;exact ⟨e,r1,r2⟩
theorem om_pairs {c:Cfg} {s:SlC} {gs ps:List Int} (h:omE c s gs ps=0) {p:Int×Int} (hp:p ∈ prs s 0 s.ks.length):0≤p.1∧p.1<ps.length∧p.2=0:=by
 obtain ⟨hg,hm,hl⟩:=omE_zero h;simp only [lnk,Bool.and_eq_true,decide_eq_true_eq] at hl;obtain ⟨j,⟨-,h2,h3⟩,rfl⟩:=prs_in.1 hp;obtain ⟨f1,f2,f3,f4⟩:=lnkAt_facts (lnkTo_at hl.2 h2 h3);exact ⟨f2,f3,f1⟩
theorem mem_insL {l:List (Int×Int)} {k:Nat} {p q:Int×Int} (h:q ∈ insL l k p):q=p∨q ∈ l:=by
 rw [insL,List.mem_append,List.mem_cons] at h;rcases h with h|h|h
 · exact .inr (List.mem_of_mem_take h)
 · exact .inl h
 · exact .inr (List.mem_of_mem_drop h)
theorem mem_delL {l:List (Int×Int)} {k:Nat} {q:Int×Int} (h:q ∈ delL l k):q ∈ l:=by
 rw [delL,List.mem_append] at h;rcases h with h|h
 · exact List.mem_of_mem_take h
 · exact List.mem_of_mem_drop h
theorem in_keys {c:Cfg} {s:SlC} {gs ps:List Int} (hu:U64s s.ws) (h:omE c s gs ps=0) (he:inE c s gs ps=0) {k:Nat} (hk:k≤manyC s) {j:Nat} (hj:j<(inS c s gs ps k).ks.length) (hb:bitW (inS c s gs ps k).ws j=true):
    0≤(inS c s gs ps k).ks.getD j 0∧(inS c s gs ps k).ks.getD j 0<(makeP gs ps 0).length∧(inS c s gs ps k).vs.getD j 0=0:=by
 obtain ⟨hg,hm,hl⟩:=omE_zero h;have ml:=make_len hm (in_zero he).1;have hp:=(in_prs hu h he hk).2.2;have:((inS c s gs ps k).ks.getD j 0,(inS c s gs ps k).vs.getD j 0) ∈ prs (inS c s gs ps k) 0 (inS c s gs ps k).ks.length:=prs_in.2 ⟨j,⟨Nat.zero_le _,hj,hb⟩,rfl⟩;rw [hp] at this;rcases mem_insL this with e|e
 · injection e with e1 e2
   rw [e1,e2];exact ⟨ml.2.2.2.1,ml.2.2.2.2,rfl⟩
 · have:=om_pairs h e;dsimp only at this;omega
theorem out_prs {c:Cfg} {s:SlC} {gs ps:List Int} (hu:U64s s.ws) {n g:Int} (h:omE c s gs ps=0) (hi:isH gs ps n g=true):
    takE c s (rnkH s ps n)=0∧gapE c (outS c s ps n)=0∧prs (outS c s ps n) 0 (outS c s ps n).ks.length=delL (prs s 0 s.ks.length) (rnkH s ps n):=by
 obtain ⟨hg,hm,hl⟩:=omE_zero h;have hr:=(rnk_idx h hi).2;have e:takE c s (rnkH s ps n)=0:=by rw [takE,if_pos hg,if_neg xo]
 obtain ⟨r1,r2⟩:=take_res hu e;exact ⟨e,r1,r2⟩
theorem drop_len {gs ps:List Int} {n g:Int} (hm:may gs ps=true) (hi:isH gs ps n g=true):(dropP gs ps n g).length=ps.length∧(dropG gs ps n g).length=gs.length:=by
 rw [dropP,dropG,if_pos ⟨hm,hi⟩,if_pos ⟨hm,hi⟩,List.length_set,List.length_set];exact ⟨rfl,rfl⟩
theorem out_keys {c:Cfg} {s:SlC} {gs ps:List Int} (hu:U64s s.ws) {n g:Int} (h:omE c s gs ps=0) (hi:isH gs ps n g=true) {j:Nat} (hj:j<(outS c s ps n).ks.length) (hb:bitW (outS c s ps n).ws j=true):
    0≤(outS c s ps n).ks.getD j 0∧(outS c s ps n).ks.getD j 0<(dropP gs ps n g).length∧(outS c s ps n).vs.getD j 0=0:=by
 obtain ⟨hg,hm,hl⟩:=omE_zero h;have ml:=drop_len hm hi;have hp:=(out_prs hu h hi).2.2;have:((outS c s ps n).ks.getD j 0,(outS c s ps n).vs.getD j 0) ∈ prs (outS c s ps n) 0 (outS c s ps n).ks.length:=prs_in.2 ⟨j,⟨Nat.zero_le _,hj,hb⟩,rfl⟩;rw [hp] at this;have:=om_pairs h (mem_delL this);dsimp only at this;omega
end
section
open Go.RowKit
def hdOf (gs:List Int) (p:Int×Int):Int×Int:=(p.1,gs.getD p.1.toNat 0)
theorem hdl_prs (s:SlC) (gs:List Int) (a b:Nat):hdl s gs a b=(prs s a b).map (hdOf gs):=by
 unfold hdl prs;rw [List.map_map];rfl
def Dst (l:List (Int×Int)):Prop:=l.Pairwise fun p q=>p.1≠q.1
theorem om_dst {c:Cfg} {s:SlC} {gs ps:List Int} (h:omE c s gs ps=0):Dst (prs s 0 s.ks.length):=by
 obtain ⟨hg,hm,hl⟩:=omE_zero h;simp only [lnk,Bool.and_eq_true,decide_eq_true_eq] at hl;unfold Dst prs;rw [List.pairwise_map];have hp:=pls_pair s.ws 0 s.ks.length;rw [List.pairwise_iff_getElem] at hp ⊢;intro i j hi hj hij e;have h1:=hp i j hi hj hij;have m1:=pls_mem_iff.1 (List.getElem_mem hi);have m2:=pls_mem_iff.1 (List.getElem_mem hj);have f1:=(lnkAt_facts (lnkTo_at hl.2 m1.1.2 m1.2)).2.2.2;have f2:=(lnkAt_facts (lnkTo_at hl.2 m2.1.2 m2.2)).2.2.2;dsimp only at e;rw [e,f2] at f1;omega
theorem Dst.ins {l:List (Int×Int)} (h:Dst l) {p:Int×Int} (hp:∀q ∈ l,q.1≠p.1) (k:Nat):Dst (insL l k p):=by
 have h':Dst (l.take k++l.drop k):=by rw [List.take_append_drop];exact h
 obtain ⟨h1,h2,h3⟩:=List.pairwise_append.1 h';refine List.pairwise_append.2 ⟨h1,List.pairwise_cons.2 ⟨fun q hq=>(hp q (List.mem_of_mem_drop hq)).symm,h2⟩,fun a ha b hb=> ?_⟩;rcases List.mem_cons.1 hb with rfl|hb
 · exact hp a (List.mem_of_mem_take ha)
 · exact h3 a ha b hb
theorem Dst.del {l:List (Int×Int)} (h:Dst l) (k:Nat):Dst (delL l k):=by
 have h':Dst (l.take k++l.drop k):=by rw [List.take_append_drop];exact h
 obtain ⟨h1,h2,h3⟩:=List.pairwise_append.1 h';have hd:∀x ∈ l.drop (k+1),x ∈ l.drop k:=fun x hx=>by
  rw [←List.drop_drop] at hx;exact List.mem_of_mem_drop hx
 refine List.pairwise_append.2 ⟨h1,?_,fun a ha b hb=>h3 a ha b (hd b hb)⟩;rw [←List.drop_drop];exact h2.sublist (List.drop_sublist 1 _)
theorem make_new {c:Cfg} {s:SlC} {gs ps:List Int} (h:omE c s gs ps=0) (hk:makeOk gs ps 0=true):∀q ∈ prs s 0 s.ks.length,q.1≠makeN gs ps 0:=by
 obtain ⟨hg,hm,hl⟩:=omE_zero h;have ml:=may_len hm;simp only [lnk,Bool.and_eq_true,decide_eq_true_eq] at hl;intro q hq e;obtain ⟨j,⟨-,h2,h3⟩,rfl⟩:=prs_in.1 hq;obtain ⟨f1,f2,f3,f4⟩:=lnkAt_facts (lnkTo_at hl.2 h2 h3);dsimp only at e;rw [makeN,if_pos hk] at e;cases hf:firstF gs ps with
 | some k=>
  rw [hf] at e;dsimp only at e;have hb:=(firstF_is hf).2.1;simp only [freeB,Bool.and_eq_true,decide_eq_true_eq] at hb;rw [e,Int.toNat_natCast] at f4;omega
 | none=>
  rw [hf] at e;dsimp only at e;omega
theorem in_dst {c:Cfg} {s:SlC} {gs ps:List Int} (hu:U64s s.ws) (h:omE c s gs ps=0) (he:inE c s gs ps=0) {k:Nat} (hk:k≤manyC s):Dst (prs (inS c s gs ps k) 0 (inS c s gs ps k).ks.length):=by
 rw [(in_prs hu h he hk).2.2];exact (om_dst h).ins (make_new h (in_zero he).1) k
theorem out_dst {c:Cfg} {s:SlC} {gs ps:List Int} (hu:U64s s.ws) {n g:Int} (h:omE c s gs ps=0) (hi:isH gs ps n g=true):Dst (prs (outS c s ps n) 0 (outS c s ps n).ks.length):=by
 rw [(out_prs hu h hi).2.2];exact (om_dst h).del _
def keyN (s:SlC) (j:Nat):Nat:=(s.ks.getD j 0).toNat
theorem stl_out {but:Int} {s:SlC} {m:Nat}:∀(L:List Nat) (x:List Int×Int),(∀j ∈ L,keyN s j≠m)→(stlL but s x L).1.getD m 0=x.1.getD m 0
  | [],x,_=>rfl
  | i::L,x,h=>by
   have h1:=stl_out (but:=but) L (stl1 but s x i) fun j hj=>h j (List.mem_cons_of_mem _ hj)
   have h2:keyN s i≠m:=h i (List.mem_cons_self ..);refine h1.trans ?_;show (x.1.set (keyN s i) (i:Int)).getD m 0=x.1.getD m 0;rw [List.getD_eq_getElem?_getD,List.getElem?_set_ne h2,←List.getD_eq_getElem?_getD]
theorem stl_hit {but:Int} {s:SlC} {j:Nat}:∀(L:List Nat) (x:List Int×Int),L.Pairwise (fun a b=>keyN s a≠keyN s b)→j ∈ L→keyN s j<x.1.length→(stlL but s x L).1.getD (keyN s j) 0=(j:Int)
  | [],x,_,h,_=>by cases h
  | i::L,x,hp,h,hl=>by
   obtain ⟨h1,h2⟩:=List.pairwise_cons.1 hp;rcases List.mem_cons.1 h with rfl|h
   · refine (stl_out (but:=but) L (stl1 but s x j) fun b hb=>(h1 b hb).symm).trans ?_;show (x.1.set (keyN s j) (j:Int)).getD (keyN s j) 0=(j:Int);rw [List.getD_eq_getElem?_getD,List.getElem?_set_self hl];rfl
   · exact stl_hit (but:=but) L (stl1 but s x i) h2 h (by rw [stl1_length];exact hl)
theorem dst_keys {s:SlC} (hd:Dst (prs s 0 s.ks.length)) (h0:∀j,j<s.ks.length→bitW s.ws j=true→0≤s.ks.getD j 0):(plsW s.ws 0 s.ks.length).Pairwise fun a b=>keyN s a≠keyN s b:=by
 unfold Dst prs at hd;rw [List.pairwise_map] at hd;rw [List.pairwise_iff_getElem] at hd ⊢;intro i j hi hj hij e;have m1:=pls_mem_iff.1 (List.getElem_mem hi);have m2:=pls_mem_iff.1 (List.getElem_mem hj);have z1:=h0 _ m1.1.2 m1.2;have z2:=h0 _ m2.1.2 m2.2;have:=hd i j hi hj hij;unfold keyN at e;dsimp only at this;omega
theorem stl_lnk {but:Int} {s:SlC} {x:List Int×Int} (hd:Dst (prs s 0 s.ks.length)) (h0:∀j,j<s.ks.length→bitW s.ws j=true→0≤s.ks.getD j 0∧s.ks.getD j 0<x.1.length∧s.vs.getD j 0=0):lnkTo s (stlTo but s x s.ks.length).1 s.ks.length=true:=by
 have hk:=dst_keys hd fun j hj hb=>(h0 j hj hb).1
 rw [lnkTo,List.all_eq_true];intro j hj;rw [List.mem_range] at hj;cases hb:bitW s.ws j with
 | false=>rfl
 | true=>
  obtain ⟨z1,z2,z3⟩:=h0 j hj hb;have hh:=stl_hit (but:=but) (j:=j) (plsW s.ws 0 s.ks.length) x hk (pls_mem_iff.2 ⟨⟨Nat.zero_le _,hj⟩,hb⟩) (by unfold keyN;omega);have hl:=stlTo_length but s x s.ks.length;simp only [Bool.not_true,Bool.false_or,lnkAt,Bool.and_eq_true,decide_eq_true_eq];exact ⟨z3,z1,by rw [hl];exact z2,hh⟩
end
section
open Go.RowKit Go.Shelf
theorem okAt_iff {g a:Int}:okAt g a=true↔0≤g∧g≤2147483647∧ -1≤a∧(0≤a→g<2147483647):=by
 refine ⟨okAt_facts,fun h=> ?_⟩;simp [okAt];omega
theorem may_iff {gs ps:List Int}:may gs ps=true↔ps.length=gs.length∧gs.length≤65536∧∀k,k<gs.length→okAt (gs.getD k 0) (ps.getD k 0)=true:=by
 constructor
 · intro h;exact ⟨(may_len h).1,(may_len h).2,fun k hk=>may_at h hk⟩
 · rintro ⟨h1,h2,h3⟩;simp only [may,Bool.and_eq_true,decide_eq_true_eq];refine ⟨⟨h1,h2⟩,?_⟩;rw [okTo,List.all_eq_true];intro k hk;exact h3 k (by simpa using hk)
theorem isH_iff {gs ps:List Int} {n g:Int}:isH gs ps n g=true↔0≤n∧n<gs.length∧0≤ps.getD n.toNat 0∧gs.getD n.toNat 0=g:=by
 refine ⟨isH_facts,fun h=> ?_⟩;simp only [isH,Bool.and_eq_true,decide_eq_true_eq];exact ⟨⟨⟨h.1,h.2.1⟩,h.2.2.1⟩,h.2.2.2⟩
theorem getD_set_eq {l:List Int} {k:Nat} {a:Int} (h:k<l.length):(l.set k a).getD k 0=a:=by
 simp [List.getD_eq_getElem?_getD,h]
theorem getD_set_ne {l:List Int} {k j:Nat} {a:Int} (h:j≠k):(l.set k a).getD j 0=l.getD j 0:=by
 have h':¬k=j:=fun e=>h e.symm
 simp [List.getD_eq_getElem?_getD,List.getElem?_set,h']
theorem getD_push_lt {l:List Int} {k:Nat} {a:Int} (h:k<l.length):(l++[a]).getD k 0=l.getD k 0:=by
 simp [List.getD_eq_getElem?_getD,List.getElem?_append_left h]
theorem getD_push_eq {l:List Int} {a:Int}:(l++[a]).getD l.length 0=a:=by
 simp [List.getD_eq_getElem?_getD]
end
end Go.Proofs.YtjhpblejlchhjaaGreatDoor

/- Merged: Dense, DenPl, SlAt, GTakeOk, GAdd, PutR, GAddOk, GGone, PmTwR. -/
import Derived.Test.YtmnlagmmbfjbeaaDoorPmaNamesP18
import Derived.Test.YtmnlagmmbfjbeaaDoorPmaNamesP20
import Derived.Test.YtmnlagmmbfjbeaaDoorPmaNamesP21
import Derived.Test.YtmnlagmmbfjbeaaDoorPmaNamesP10
import Derived.Test.YtmnlagmmbfjbeaaDoorPmaNamesP30
import Derived.Test.YtmnlagmmbfjbeaaDoorPmaNamesP29
import Derived.Test.YtmnlagmmbfjbeaaDoorPmaNamesP28
import Derived.Test.YtmnlagmmbfjbeaaDoorPmaNamesP27
import Derived.Test.YtmnlagmmbfjbeaaDoorPmaNamesP12
import Derived.Test.YtmnlagmmbfjbeaaDoorPmaNamesP13
import Derived.Test.YtmnlagmmbfjbeaaDoorPmaNamesP22
import Derived.Test.YtmnlagmmbfjbeaaDoorPmaNamesP6
import Derived.Test.YtmnlagmmbfjbeaaDoorPmaNamesP14
namespace Go.Proofs.YtmnlagmmbfjbeaaDoor
set_option maxRecDepth 100000
set_option maxHeartbeats 40000000
set_option linter.unusedVariables false
set_option linter.unusedSimpArgs false
section
open Go.RowKit
end
section
open Go.RowKit
def cntH (ws:List Int) (a h i:Nat):Nat:=cntW ws (i*2^(a+h)) ((i+1)*2^(a+h))
theorem win_apart {w i i':Nat} (h:i≠i'):(i+1)*w≤i'*w∨(i'+1)*w≤i*w:=by
 rcases Nat.lt_or_ge i i' with q|q
 · exact .inl (Nat.mul_le_mul_right _ q)
 · exact .inr (Nat.mul_le_mul_right _ xo)
theorem gapN_mk {c:Cfg} {z:SlC} {a H n:Nat} (k:CapC c n a H) (g:SlGd z (2^a) ((n+63)/64) n (2^H)):GapN c z a H:=by
 have hm:=gd_may g (pwB_two a) (pwB_two H) rfl;have hn:n=2^a*2^H:=by have:=k.all;omega
 have hm':=hm;simp only [slMay,Bool.and_eq_true] at hm';exact ⟨by rw [g.elk];exact k,g.seg,by rw [g.elk,hn],by rw [g.elv,hn],g.elc,cntB_bd g.seg hm'.2,hm⟩
theorem cnt_tk {c:SlC} {S lw n lc:Nat} (h:SlGd c S lw n lc) {i:Nat} (hi:i<n) (hb:bitW c.ws i=true) (x y:Nat):cntW c.ws x y=cntW (tkC c i).ws x y+if x≤i∧i<y then 1 else 0:=
  cntW_clr h.u (by rw [h.elw];have:=h.wn;omega) hb x y
theorem take_in {c:Cfg} {s:SlC} {a H:Nat} (k:GapN c s a H) (hu:U64s s.ws) {at_:Nat} (hat:at_<s.ks.length) (hb:bitW s.ws at_=true):
    GapN c (tkC s at_) a H∧SlGd (tkC s at_) (2^a) ((s.ks.length+63)/64) s.ks.length (2^H)∧(tkC s at_).ks.length=s.ks.length∧
    (∀j,j≤H→∀i,i≠wnd a j at_→cntH (tkC s at_).ws a j i=cntH s.ws a j i)∧(∀j,j≤H→cntH (tkC s at_).ws a j (wnd a j at_)+1=cntH s.ws a j (wnd a j at_))∧manyC (tkC s at_)+1=manyC s:=by
 obtain ⟨g,-⟩:=gapN_gd k hu;have gt:=g.tk hat;have hn:=k.nk;refine ⟨gapN_mk k.cap gt,gt,gt.elk,fun j hj i hi=> ?_,fun j hj=> ?_,?_⟩
 · obtain ⟨-,c2,c3,-⟩:=wnd_bd (a:=a) (at_:=at_) hj (by rw [←hn];exact hat);have:=cnt_tk g hat hb (i*2^(a+j)) ((i+1)*2^(a+j));rw [if_neg (by rcases win_apart (w:=2^(a+j)) hi with r|r<;>omega)] at this;exact this.symm
 · obtain ⟨-,c2,c3,-⟩:=wnd_bd (a:=a) (at_:=at_) hj (by rw [←hn];exact hat);have:=cnt_tk g hat hb (wnd a j at_*2^(a+j)) ((wnd a j at_+1)*2^(a+j));rw [if_pos ⟨c2,c3⟩] at this;exact this.symm
 · have:=cnt_tk g hat hb 0 s.ks.length;rw [if_pos ⟨by omega,hat⟩] at this;unfold manyC;rw [gt.elk];exact this.symm
end
section
open Go.RowKit Go.Shelf
attribute [local go_sem] Oper.semAt_some
theorem asked4_bad (w:World) (seg:Int) (wa ka va ca:Option Addr) (wc kc vc cc lw n lv lc:Nat) (laid i:Int) (x:Int) (hx:x≠0) (CK:Hid (∀W,Below w.heap.size w W→Calls Tryd.prog 52 #[.agg #[.int .i64 seg,.slice wa lw wc,.slice ka n kc,.slice va lv vc,.slice ca lc cc,.int .u64 laid]] W (AnsB W (.int .i64 x)))):
    Calls Tryd.prog 31 #[.agg #[.int .i64 seg,.slice wa lw wc,.slice ka n kc,.slice va lv vc,.slice ca lc cc,.int .u64 laid],.int .i64 i] w (AnsB w (.int .i64 x)):=by
 have g1:(x != 0)=true:=by simpa using hx
 clear hx;go_enter Tryd.func31,Tryd.ntmps31
 go_wp2_with fail
 refine (CK.out _ xbel).mono ?_;rintro e w1 ⟨rfl,hb1⟩;have hz_w1:=hb1.size;try simp only [World.size_alloc,World.size_setCell] at hz_w1
 have hB1:Below w.heap.size w w1:=xbel;go_wp2
 go_ret
 exact ⟨rfl,hB1⟩
theorem asked4_neg (w:World) (seg:Int) (wa ka va ca:Option Addr) (wc kc vc cc lw n lv lc:Nat) (laid i:Int) (hi:i<0) (CK:Hid (∀W,Below w.heap.size w W→Calls Tryd.prog 52 #[.agg #[.int .i64 seg,.slice wa lw wc,.slice ka n kc,.slice va lv vc,.slice ca lc cc,.int .u64 laid]] W (AnsB W (.int .i64 0)))):
    Calls Tryd.prog 31 #[.agg #[.int .i64 seg,.slice wa lw wc,.slice ka n kc,.slice va lv vc,.slice ca lc cc,.int .u64 laid],.int .i64 i] w (AnsB w (.int .i64 2)):=by
 go_enter Tryd.func31,Tryd.ntmps31
 go_wp2_with fail
 refine (CK.out _ xbel).mono ?_;rintro e w1 ⟨rfl,hb1⟩;have hz_w1:=hb1.size;try simp only [World.size_alloc,World.size_setCell] at hz_w1
 have hh:=bc6 hb1 (al6 (b:=w.heap.size) xsi);obtain ⟨c_t0,c_t1,c_t2,c_t3,c_t4,c_t5⟩:=hh;have z_t:=blt hb1 (alz (b:=w.heap.size) xsi);have hB1:Below w.heap.size w w1:=xbel;go_wp2
 go_ret
 exact ⟨rfl,hB1⟩
theorem asked4_far (w:World) (seg:Int) (wa ka va ca:Option Addr) (wc kc vc cc lw n lv lc:Nat) (laid i:Int) (h0:0≤i) (hi:(n:Int)≤i) (CK:Hid (∀W,Below w.heap.size w W→Calls Tryd.prog 52 #[.agg #[.int .i64 seg,.slice wa lw wc,.slice ka n kc,.slice va lv vc,.slice ca lc cc,.int .u64 laid]] W (AnsB W (.int .i64 0)))):
    Calls Tryd.prog 31 #[.agg #[.int .i64 seg,.slice wa lw wc,.slice ka n kc,.slice va lv vc,.slice ca lc cc,.int .u64 laid],.int .i64 i] w (AnsB w (.int .i64 2)):=by
 go_enter Tryd.func31,Tryd.ntmps31
 go_wp2_with fail
 refine (CK.out _ xbel).mono ?_;rintro e w1 ⟨rfl,hb1⟩;have hz_w1:=hb1.size;try simp only [World.size_alloc,World.size_setCell] at hz_w1
 have hh:=bc6 hb1 (al6 (b:=w.heap.size) xsi);obtain ⟨c_t0,c_t1,c_t2,c_t3,c_t4,c_t5⟩:=hh;have z_t:=blt hb1 (alz (b:=w.heap.size) xsi);have hB1:Below w.heap.size w w1:=xbel;go_wp2
 go_ret
 exact ⟨rfl,hB1⟩
theorem asked4_in (w:World) (seg:Int) (wa ka va ca:Option Addr) (wc kc vc cc lw n lv lc:Nat) (laid i:Int) (h0:0≤i) (hi:i<(n:Int)) (CK:Hid (∀W,Below w.heap.size w W→Calls Tryd.prog 52 #[.agg #[.int .i64 seg,.slice wa lw wc,.slice ka n kc,.slice va lv vc,.slice ca lc cc,.int .u64 laid]] W (AnsB W (.int .i64 0)))):
    Calls Tryd.prog 31 #[.agg #[.int .i64 seg,.slice wa lw wc,.slice ka n kc,.slice va lv vc,.slice ca lc cc,.int .u64 laid],.int .i64 i] w (AnsB w (.int .i64 0)):=by
 go_enter Tryd.func31,Tryd.ntmps31
 go_wp2_with fail
 refine (CK.out _ xbel).mono ?_;rintro e w1 ⟨rfl,hb1⟩;have hz_w1:=hb1.size;try simp only [World.size_alloc,World.size_setCell] at hz_w1
 have hh:=bc6 hb1 (al6 (b:=w.heap.size) xsi);obtain ⟨c_t0,c_t1,c_t2,c_t3,c_t4,c_t5⟩:=hh;have z_t:=blt hb1 (alz (b:=w.heap.size) xsi);have hB1:Below w.heap.size w w1:=xbel;go_wp2
 go_ret
 exact ⟨rfl,hB1⟩
def askS (c:SlC) (i:Int):Int:=if slMay c=true then (if 0≤i∧i<c.ks.length then 0 else 2) else 8
theorem asked4_ok (c:SlC) (a:SlA) (hl:c.ws.length≤1000000000000) (hl2:c.ks.length≤1000000000000) (i:Int) (w:World) (hin:SlIn w c a):
    Calls Tryd.prog 31 #[slV c a,.int .i64 i] w (AnsB w (.int .i64 (askS c i))):=by
 have CK:=hid (fun W (hb:Below w.heap.size w W)=>slCheck_ok c a hl hl2 W (hin.below hb));unfold askS;by_cases hm:slMay c=true
 · rw [show slE c=0 from if_pos hm] at CK;rw [if_pos hm];by_cases h0:0≤i
   · by_cases hi:i<c.ks.length
     · rw [if_pos ⟨h0,hi⟩];exact asked4_in w _ _ _ _ _ _ _ _ _ _ _ _ _ _ i h0 hi CK
     · rw [if_neg (fun h=>hi h.2)];exact asked4_far w _ _ _ _ _ _ _ _ _ _ _ _ _ _ i h0 xo CK
   · rw [if_neg (fun h=>h0 h.1)];exact asked4_neg w _ _ _ _ _ _ _ _ _ _ _ _ _ _ i xo CK
 · rw [show slE c=8 from if_neg hm] at CK;rw [if_neg hm];exact asked4_bad w _ _ _ _ _ _ _ _ _ _ _ _ _ _ i 8 xdd CK
theorem two_at {w:World} {b:Nat} {x y:Value} (h0:w.cell? ⟨b,0,none⟩=some x) (h1:w.cell? ⟨b,1,none⟩=some y):∀j v,[x,y][j]? =some v→w.cell? ⟨b,j,none⟩=some v:=by
 intro j v hj;match j with
 | 0=>simp at hj;rw [←hj];exact h0
 | 1=>simp at hj;rw [←hj];exact h1
 | n+2=>simp at hj
theorem at_set {W:World} {b4 b5:Nat} {x y e u v z:Value} (hne:b4≠b5) (h0:W.cell? ⟨b4,0,none⟩=some u) (h1:W.cell? ⟨b4,1,none⟩=some v) (h2:W.cell? ⟨b5,0,none⟩=some z):
    (((W.setCell ⟨b4,0,none⟩ x).setCell ⟨b4,1,none⟩ y).setCell ⟨b5,0,none⟩ e).cell? ⟨b4,0,none⟩=some x∧(((W.setCell ⟨b4,0,none⟩ x).setCell ⟨b4,1,none⟩ y).setCell ⟨b5,0,none⟩ e).cell? ⟨b4,1,none⟩=some y∧(((W.setCell ⟨b4,0,none⟩ x).setCell ⟨b4,1,none⟩ y).setCell ⟨b5,0,none⟩ e).cell? ⟨b5,0,none⟩=some e:=by
 refine ⟨?_,?_,World.cell?_setCell_same (u:=z) _ _ _ ?_⟩
 · rw [World.cell?_setCell_other _ _ _ _ (by intro e;injection e with e1 e2;omega),World.cell?_setCell_other _ _ _ _ (by intro e;injection e with e1 e2;omega)];exact World.cell?_setCell_same _ _ _ h0
 · rw [World.cell?_setCell_other _ _ _ _ (by intro e;injection e with e1 e2;omega)];exact World.cell?_setCell_same _ _ _ (by rw [World.cell?_setCell_other _ _ _ _ (by intro e;injection e with e1 e2;omega)];exact h1)
 · rw [World.cell?_setCell_other _ _ _ _ (by intro e;injection e with e1 e2;omega),World.cell?_setCell_other _ _ _ _ (by intro e;injection e with e1 e2;omega)];exact h2
structure AtI (Z b4 b5 B:Nat) (w:World) (k:Nat) (W:World):Prop where
 zero:k=0
 c0:W.cell? ⟨b4,0,none⟩=some (.int .i64 0)
 c1:W.cell? ⟨b4,1,none⟩=some (.int .i64 0)
 e0:W.cell? ⟨b5,0,none⟩=some (.int .i64 0)
 f0:W.frozen? ⟨b4,0,none⟩=false
 f1:W.frozen? ⟨b4,1,none⟩=false
 g0:W.frozen? ⟨b5,0,none⟩=false
 bel:Below B w W
 big:Z≤W.heap.size
theorem AtI.calm {Z b4 b5 B M:Nat} {w:World} {k:Nat} {W W':World} (h:AtI Z b4 b5 B w k W) (hc:Calm M W W') (hB:B≤M):AtI Z b4 b5 B w k W':=
  ⟨h.zero,hc.cell h.c0,hc.cell h.c1,hc.cell h.e0,hc.frozen h.c0 h.f0,hc.frozen h.c1 h.f1,hc.frozen h.e0 h.g0,hc.below hB h.bel,Nat.le_trans h.big hc.size⟩
structure AtX (x y:Int) (m b4 b5 B:Nat) (w:World) (c:Code) (W:World):Prop where
 code:c= .ret
 hit:m≠0
 c0:W.cell? ⟨b4,0,none⟩=some (.int .i64 x)
 c1:W.cell? ⟨b4,1,none⟩=some (.int .i64 y)
 e0:W.cell? ⟨b5,0,none⟩=some (.int .i64 0)
 bel:Below B w W
theorem AtX.calm {x y:Int} {m b4 b5 B M:Nat} {w:World} {c:Code} {W W':World} (h:AtX x y m b4 b5 B w c W) (hc:Calm M W W') (hB:B≤M):AtX x y m b4 b5 B w c W':=
  ⟨h.code,h.hit,hc.cell h.c0,hc.cell h.c1,hc.cell h.e0,hc.below hB h.bel⟩
theorem At4_no (w:World) (seg:Int) (wa ka va ca:Option Addr) (wc kc vc cc lw n lv lc:Nat) (laid i:Int) (x:Int) (hx:x≠0)
    (AK:Hid (∀W,Below w.heap.size w W→Calls Tryd.prog 31 #[.agg #[.int .i64 seg,.slice wa lw wc,.slice ka n kc,.slice va lv vc,.slice ca lc cc,.int .u64 laid],.int .i64 i] W (AnsB W (.int .i64 x)))):
    Calls Tryd.prog 74 #[.agg #[.int .i64 seg,.slice wa lw wc,.slice ka n kc,.slice va lv vc,.slice ca lc cc,.int .u64 laid],.int .i64 i] w (AnsB w (.tuple #[.agg #[.int .i64 0,.int .i64 0],.int .i64 x])):=by
 have g1:(x != 0)=true:=by simpa using hx
 clear hx;go_enter Tryd.func74,Tryd.ntmps74
 go_wp2_with fail
 refine (AK.out _ xbel).mono ?_;rintro e w1 ⟨rfl,hb1⟩;have hz_w1:=hb1.size;try simp only [World.size_alloc,World.size_setCell] at hz_w1
 have all_c:w1.cell? ⟨w.heap.size+1,0,none⟩=some (.int .i64 0)∧w1.cell? ⟨w.heap.size+1,1,none⟩=some (.int .i64 0)∧w1.cell? ⟨w.heap.size+1+1,0,none⟩=some (.int .i64 0):=by refine ⟨?_,?_,?_⟩<;>(refine (hb1.cell ?_).trans ?_<;>first|(exact xlt)|(exact xcn))
 have all_f:w1.frozen? ⟨w.heap.size+1,0,none⟩=false∧w1.frozen? ⟨w.heap.size+1,1,none⟩=false∧w1.frozen? ⟨w.heap.size+1+1,0,none⟩=false:=by refine ⟨?_,?_,?_⟩<;>(refine (hb1.frozen ?_).trans ?_<;>first|(exact xlt)|(exact xcn))
 have all_z:w.heap.size+1<w1.heap.size∧w.heap.size+1+1<w1.heap.size:=by refine ⟨?_,?_⟩<;>(omega)
 obtain ⟨c_p0,c_p1,c_e0⟩:=all_c;try clear all_c
 obtain ⟨f_p0,f_p1,f_e0⟩:=all_f;try clear all_f
 obtain ⟨z_p,z_e⟩:=all_z;try clear all_z
 have hB1:Below w.heap.size w w1:=xbel;go_wp2
 obtain ⟨d0,d1,d2⟩:=at_set (x:= .int .i64 0) (y:= .int .i64 0) (e:= .int .i64 x) (show w.heap.size+1≠w.heap.size+1+1 by omega) c_p0 c_p1 c_e0;exact bodyPost_ret (results_cc rfl rfl rfl (run_loadVar_many _ Tryd.underlying59 rfl xk (two_at d0 d1)) (run_loadVar_one Tryd.underlying34 rfl d2)) rfl ⟨rfl,((hB1.setCell xdo _).setCell xdo _).setCell xdo _⟩
theorem At4_in (c:SlC) (a:SlA) (i:Nat) (L:List (Int×Int)) (hL:L.length≤1) (hi:i+1≤65536) (w:World) (hin:SlIn w c a)
    (AK:Hid (∀W,Below w.heap.size w W→Calls Tryd.prog 31 #[slV c a,.int .i64 i] W (AnsB W (.int .i64 0))))
    (IT:Hid (∀(S:Nat→Prop) (b1 b2 b3:Nat),S b1→S b2→S b3→SlS S c a→∀W,IsRow .u64 W a.wa c.ws→IsRow .i64 W a.ka c.ks→IsRow .i64 W a.va c.vs→PrBox W b1 b2 b3 c a i (i+1)→Iter Tryd.prog 91 #[.pointer (some ⟨b1,0,none⟩),.pointer (some ⟨b2,0,none⟩),.pointer (some ⟨b3,0,none⟩)] (pairsL L) (KpS S) W)):
    Calls Tryd.prog 74 #[slV c a,.int .i64 i] w (AnsB w (.tuple #[.agg #[.int .i64 (L.getD 0 (0,0)).1,.int .i64 (L.getD 0 (0,0)).2],.int .i64 (if L.length=0 then 6 else 0)])):=by
 have HIN:=hid hin;have PA:=hid (fun w=>pairs_ok c a i (i+1) w);have HPL:=hid (pairsL_length L);have HPG:=hid (fun k (h:k<L.length)=>pairsL_get h);have k1:IntKind.i64.wrap ((i:Int)+1)=(i:Int)+1:=IntWalk.i64_in _ xo;have NO:=hid (fun (h:L.length=0)=>(show (L.getD 0 (0,0)).1=0∧(L.getD 0 (0,0)).2=0∧(if L.length=0 then (6:Int) else 0)=6 by
  rw [List.length_eq_zero_iff.1 h];exact ⟨rfl,rfl,rfl⟩))
 have YES:=hid (fun (h:L.length≠0)=>(show (if L.length=0 then (6:Int) else 0)=0 from if_neg h));generalize hE:(if L.length=0 then (6:Int) else 0)=E at *;have HXY:Hid (∀k,k<L.length→(L.getD k (0,0)).1=(L.getD 0 (0,0)).1∧(L.getD k (0,0)).2=(L.getD 0 (0,0)).2∧L.length≠0):=hid fun k hk=>by
  obtain rfl:k=0:=xo;exact ⟨rfl,rfl,by omega⟩
 generalize (L.getD 0 (0,0)).1=X at *;generalize (L.getD 0 (0,0)).2=Y at *;clear hin hE hL;obtain ⟨seg,ws,ks,vs,cs,laid⟩:=c;obtain ⟨wa,ka,va,ca,wc,kc,vc,cc⟩:=a;dsimp only [slV] at *;refine calls_of_wp_m Tryd.func74 rfl ?_;simp only [Tryd.ntmps74,List.size_toArray,List.length_cons,List.length_nil,Nat.reduceAdd,Nat.reduceSub,Array.replicate_succ,Array.replicate_zero,List.push_toArray,List.append_toArray,List.nil_append,List.cons_append];go_wp2_with fail
 refine (AK.out _ xbel).mono ?_;rintro e w1 ⟨rfl,hb1⟩;have hz_w1:=hb1.size;try simp only [World.size_alloc,World.size_setCell] at hz_w1
 have hh:=bc6 hb1 (au6 (au6 (al6 (b:=w.heap.size) xsi)));obtain ⟨c_t0,c_t1,c_t2,c_t3,c_t4,c_t5⟩:=hh;have z_t:=blt hb1 (auz (auz (alz (b:=w.heap.size) xsi)));have hh:=bc2 hb1 (au2 (al2 (b:=w.heap.size+1) xsi));obtain ⟨c_p0,c_p1⟩:=hh;have hh:=bf2 hb1 (auz (alz (b:=w.heap.size+1) xsi)) (auf2 (alz (b:=w.heap.size+1) xsi) (alf2 (b:=w.heap.size+1) xsi));obtain ⟨f_p0,f_p1⟩:=hh;have z_p:=blt hb1 (auz (alz (b:=w.heap.size+1) xsi));have c_e0:=bc1 hb1 (al1 (b:=w.heap.size+1+1) xsi);have f_e0:=bf1 hb1 (alz (b:=w.heap.size+1+1) xsi) (alf1 (b:=w.heap.size+1+1) xsi);have z_e:=blt hb1 (alz (b:=w.heap.size+1+1) xsi);have hB1:Below w.heap.size w w1:=xbel;have hz1:w.heap.size+3≤w1.heap.size:=xo;go_wp2_with fail
 refine (PA.out _).mono ?_;rintro e w2 ⟨rfl,rfl⟩;have HI1:=HIN.out.below hB1;have HB1:=hid hB1;go_wp2
 refine wp_range_w (xs:=pairsL L) (Kp:=KpS (fun k=>k<w1.heap.size+3)) rfl (enters_of Tryd.func91 xk rfl)
   (IT.out (fun k=>k<w1.heap.size+3) (w1.heap.size+1) (w1.heap.size+2) w1.heap.size (by show _<_;omega) (by show _<_;omega) (by show _<_;omega) ⟨?s1,?s2,?s3⟩ _ ?r1 ?r2 ?r3 ⟨?b1,?b2,?b3,?b4,?b5,?b6,?b7,?b8⟩) br (fun h k=>fun i hi=>(k i hi).trans (h i hi)) ?kb ?ps
   (AtI (w1.heap.size+3) (w.heap.size+1) (w.heap.size+1+1) w.heap.size w) (AtX X Y L.length (w.heap.size+1) (w.heap.size+1+1) w.heap.size w) ?hI ?hX ?h0 ?round ?done ?stop
 case s1=>intro x hx h0;have:=row_block HI1.w x hx h0;show _<_;omega
 case s2=>intro x hx h0;have:=row_block HI1.k x hx h0;show _<_;omega
 case s3=>intro x hx h0;have:=row_block HI1.v x hx h0;show _<_;omega
 case r1=>exact HI1.w.below xbel
 case r2=>exact HI1.k.below xbel
 case r3=>exact HI1.v.below xbel
 case b1=>(exact xcn)
 case b2=>(exact xcn)
 case b3=>(exact xcn)
 case b4=>(exact xcn)
 case b5=>(exact xcn)
 case b6=>(exact xcn)
 case b7=>(exact xcn)
 case b8=>(exact xcn)
 case kb=>
  intro W q o o' hl _ _ k hk;simp at hl;exact World.putObj_heap_other xo
 case ps=>
  intro x hx;simp only [pairsL,List.mem_map] at hx;obtain ⟨k,_,rfl⟩:=hx;rfl
 case hI=>
  intro k W W' h hc;exact h.calm hc (by simp;omega)
 case hX=>
  intro k W W' h hc;exact h.calm hc (by simp;omega)
 case h0=>
  exact ⟨rfl,by (exact xcn),by (exact xcn),by (exact xcn),by (exact xcn),by (exact xcn),by (exact xcn),by (exact xbel),by simp⟩
 case round=>
  intro q k W hq hk hi;rw [HPL.out] at hk;rw [HPG.out k hk];obtain ⟨hxx,hyy,hne⟩:=HXY.out k hk;rw [hxx,hyy];obtain ⟨-,hc0,hc1,he0,hf0,hf1,hg0,hbel,hzW⟩:=hi;have hzb:w.heap.size+1+1<W.heap.size:=World.block_lt_of_cell? _ _ he0;clear hxx hyy hk;gi_wp2
  have hab:Below W.heap.size W (W.alloc (.cells #[.int .i64 X,.int .i64 Y] 59)):=br.alloc (Nat.le_refl _) _;refine ⟨keeps_below hab,fun i hi=>hab.block i xo,?_⟩;intro W2 hc;have q0:W2.cell? ⟨W.heap.size,0,none⟩=some (.int .i64 X):=hc.cell xcw;have q1:W2.cell? ⟨W.heap.size,1,none⟩=some (.int .i64 Y):=hc.cell xcw;have p0:W2.cell? ⟨w.heap.size+1,0,none⟩=some (.int .i64 0):=hc.cell ((hab.cell (p:=⟨w.heap.size+1,0,none⟩) xdo).trans hc0);have p1:W2.cell? ⟨w.heap.size+1,1,none⟩=some (.int .i64 0):=hc.cell ((hab.cell (p:=⟨w.heap.size+1,1,none⟩) xdo).trans hc1);have r0:W2.cell? ⟨w.heap.size+1+1,0,none⟩=some (.int .i64 0):=hc.cell ((hab.cell (p:=⟨w.heap.size+1+1,0,none⟩) xdo).trans he0);have m0:W2.frozen? ⟨w.heap.size+1,0,none⟩=false:=hc.frozen ((hab.cell (p:=⟨w.heap.size+1,0,none⟩) xdo).trans hc0) ((hab.frozen (p:=⟨w.heap.size+1,0,none⟩) xdo).trans hf0);have m1:W2.frozen? ⟨w.heap.size+1,1,none⟩=false:=hc.frozen ((hab.cell (p:=⟨w.heap.size+1,1,none⟩) xdo).trans hc1) ((hab.frozen (p:=⟨w.heap.size+1,1,none⟩) xdo).trans hf1);have m2:W2.frozen? ⟨w.heap.size+1+1,0,none⟩=false:=hc.frozen ((hab.cell (p:=⟨w.heap.size+1+1,0,none⟩) xdo).trans he0) ((hab.frozen (p:=⟨w.heap.size+1+1,0,none⟩) xdo).trans hg0);have HB2:Hid (Below w.heap.size w W2):=hid (hc.below (by simp;omega) (below_via hab hbel xo));clear hbel hab hc hc0 hc1 he0 hf0 hf1 hg0;gi_wp2
  obtain ⟨d0,d1,d2⟩:=at_set (x:= .int .i64 X) (y:= .int .i64 Y) (e:= .int .i64 0) (show w.heap.size+1≠w.heap.size+1+1 by omega) p0 p1 r0;refine ⟨((KeepsOthers.setCell W2 ⟨w.heap.size+1,0,none⟩ _).trans (KeepsOthers.setCell _ ⟨w.heap.size+1,1,none⟩ _)).trans (KeepsOthers.setCell _ ⟨w.heap.size+1+1,0,none⟩ _),⟨rfl,hne,d0,d1,d2,((HB2.out.setCell xdo _).setCell xdo _).setCell xdo _⟩⟩
 case done=>
  intro D W hD hi hK;obtain ⟨hz0,hc0,hc1,he0,hf0,hf1,hg0,hbl,-⟩:=hi;rw [HPL.out] at hz0;obtain ⟨rfl,rfl,rfl⟩:=NO.out hz0;simp at hD;have HBL:=hid hbl;clear hbl YES NO HPG HXY;go_wp2
  obtain ⟨d0,d1,d2⟩:=at_set (x:= .int .i64 0) (y:= .int .i64 0) (e:= .int .i64 6) (show w.heap.size+1≠w.heap.size+1+1 by omega) hc0 hc1 he0;have hB4:Below w.heap.size w (((W.setCell ⟨w.heap.size+1,0,none⟩ (.int .i64 0)).setCell ⟨w.heap.size+1,1,none⟩ (.int .i64 0)).setCell ⟨w.heap.size+1+1,0,none⟩ (.int .i64 6)):=((HBL.out.setCell xdo _).setCell xdo _).setCell xdo _;have hK2:(((W.setCell ⟨w.heap.size+1,0,none⟩ (.int .i64 0)).setCell ⟨w.heap.size+1,1,none⟩ (.int .i64 0)).setCell ⟨w.heap.size+1+1,0,none⟩ (.int .i64 6)).heap[D]? =some (.deferred (some [])):=by
   rw [Below.heap_setCell _ _ _ _ (by show D≠w.heap.size+1+1;omega),Below.heap_setCell _ _ _ _ (by show D≠w.heap.size+1;omega),Below.heap_setCell _ _ _ _ (by show D≠w.heap.size+1;omega)];exact hK
  generalize (((W.setCell ⟨w.heap.size+1,0,none⟩ (.int .i64 0)).setCell ⟨w.heap.size+1,1,none⟩ (.int .i64 0)).setCell ⟨w.heap.size+1+1,0,none⟩ (.int .i64 6))=W4 at *;have hcalm:Calm (w.heap.size+3) W4 (W4.putObj D (.deferred none)):=Calm.putObj _ xo hK2 rfl;exact postM_one hK2 (results_cc rfl rfl rfl (run_loadVar_many _ Tryd.underlying59 rfl xk (two_at (hcalm.cell d0) (hcalm.cell d1))) (run_loadVar_one Tryd.underlying34 rfl (hcalm.cell d2))) ⟨rfl,hcalm.below xo hB4⟩
 case stop=>
  intro D c W hD hX hK;obtain ⟨rfl,hne,hc0,hc1,he0,hbel⟩:=hX;obtain rfl:=YES.out hne;simp at hD;have hcalm:Calm (w.heap.size+3) W (W.putObj D (.deferred none)):=Calm.putObj _ xo hK rfl;clear YES NO HPG HXY;go_wp2
  exact postM_one hK (results_cc rfl rfl rfl (run_loadVar_many _ Tryd.underlying59 rfl xk (two_at (hcalm.cell hc0) (hcalm.cell hc1))) (run_loadVar_one Tryd.underlying34 rfl (hcalm.cell he0))) ⟨rfl,hcalm.below xo hbel⟩
def atS (c:SlC) (i:Int):Int×Int×Int:=if askS c i=0 then (if bitW c.ws i.toNat=true then (c.ks.getD i.toNat 0,c.vs.getD i.toNat 0,0) else (0,0,6)) else (0,0,askS c i)
theorem At4_ok (c:SlC) (a:SlA) (hl:c.ws.length≤1000000000000) (hl2:c.ks.length≤1000000000000) (i:Int) (w:World) (hin:SlIn w c a):
    Calls Tryd.prog 74 #[slV c a,.int .i64 i] w (AnsB w (.tuple #[.agg #[.int .i64 (atS c i).1,.int .i64 (atS c i).2.1],.int .i64 (atS c i).2.2])):=by
 have AK:=hid (fun W (hb:Below w.heap.size w W)=>asked4_ok c a hl hl2 i W (hin.below hb));unfold atS;by_cases h:askS c i=0
 · rw [h] at AK;rw [if_pos h];have hm:slMay c=true:=by
    unfold askS at h;split at h
    · assumption
    · cases h
   have hp:0≤i∧i<c.ks.length:=by
    unfold askS at h;rw [if_pos hm] at h;split at h
    · assumption
    · cases h
   obtain ⟨S,M,-,-,-,hnk,hnv,-,-,hSM,-,hnw,-,-,-⟩:=slHead_facts (slMay_head hm);obtain ⟨p,rfl⟩:∃p:Nat,i=p:=⟨i.toNat,by omega⟩
   rw [Int.toNat_natCast];have hlen:(prs c p (p+1)).length≤1:=by
    rw [prs_succ (Nat.le_refl p)];have:prs c p p=[]:=by simp [prs,plsW]
    rw [this];split<;>simp
   have A:=At4_in c a p (prs c p (p+1)) hlen xo w hin AK (hid fun S b1 b2 b3 s1 s2 s3 hS W hw hk hv hbx=>pairs1_iter c a hin.u p (p+1) xo xo xo xo xo S b1 b2 b3 s1 s2 s3 hS W hw hk hv hbx);have e0:prs c p p=[]:=by simp [prs,plsW]
   rw [prs_succ (Nat.le_refl p),e0] at A;by_cases hb:bitW c.ws p=true
   · rw [if_pos hb] at A ⊢;exact A
   · rw [if_neg hb] at A ⊢;exact A
 · rw [if_neg h];exact At4_no w _ _ _ _ _ _ _ _ _ _ _ _ _ _ i _ h AK
end
section
open Go.RowKit
theorem enters_take1:∀args w,(callFunc 46 args).run Tryd.prog w= .ok (.enter 46 args) w:=enters_of Tryd.func46 xk rfl
theorem gapTake_ok (c:Cfg) (s:SlC) (sa:SlA) (hl:s.ws.length≤1000000000000) (hl2:s.ks.length≤1000000000000) (hcc:s.cs.length≤sa.cc) (k:Int) (w:World) (hin:SlIn w s sa) (hT:TabAt w):
    Calls Tryd.prog 25 #[.agg #[.int .u8 c.tag,.int .i64 c.most,.int .i64 c.seg,.int .i64 c.least,.int .i64 c.den,.int .i64 c.ll,.int .i64 c.rl,.int .i64 c.rh,.int .i64 c.lh],slV s sa,.int .i64 k] w (FreshSl2 w (takC c s k) (.int .i64 (takE c s k))):=by
 have CK:Hid (∀W,Below w.heap.size w W→Calls Tryd.prog 26 #[.agg #[.int .u8 c.tag,.int .i64 c.most,.int .i64 c.seg,.int .i64 c.least,.int .i64 c.den,.int .i64 c.ll,.int .i64 c.rl,.int .i64 c.rh,.int .i64 c.lh],slV s sa] W (AnsB W (.int .i64 (gapE c s)))):=hid fun W hb=>gapCheck_ok c s sa hl hl2 hcc W (hin.below hb)
 by_cases h0:gapE c s=0
 · rw [h0] at CK;obtain ⟨hc,a,H,kn,hs,hmost,hden⟩:=gap_zero h0;obtain ⟨g,hlw⟩:=gapN_gd kn hin.u;obtain ⟨p1,p2,p3,p4,p5,p6⟩:=kn.pows;rw [sum_many kn hin.u] at hmost;have AM:Hid (∀W,Below w.heap.size w W→Calls Tryd.prog 35 #[slV s sa,.int .i64 0,.int .i64 s.ks.length] W (AnsB W (.int .i64 (manyC s)))):=hid fun W hb=>among_all kn hin.u sa hcc W (hin.below hb)
   by_cases hk:k<0
   · have e:takE c s k=2:=by rw [takE,if_pos h0,if_pos (.inl hk)]
     rw [takC,e,if_neg xdd];exact gTake_neg c s.seg _ _ _ _ _ _ _ _ _ _ _ _ _ k hk w CK
   · by_cases hm:(manyC s:Int)≤k
     · have e:takE c s k=2:=by rw [takE,if_pos h0,if_pos (.inr hm)]
       rw [takC,e,if_neg xdd];exact gTake_arg c s.seg _ _ _ _ _ _ _ _ _ _ _ _ _ k _ hk hm w CK AM
     · have e:takE c s k=0:=by rw [takE,if_pos h0,if_neg xo]
       rw [takC,e,if_pos rfl,sgL_eq kn.cap.seg,kn.cap.hgt];obtain ⟨n,rfl⟩:∃n:Nat,k=n:=⟨k.toNat,by omega⟩
       rw [Int.toNat_natCast];have hn:n<(plsW s.ws 0 s.ks.length).length:=by rw [plsW_length];unfold manyC at hm;omega
       have hmn:manyC s≤s.ks.length:=by have:=cntW_le s.ws 0 s.ks.length;unfold manyC;omega
       obtain ⟨-,hbit,hat⟩:=pls_rank hn;have NT:Hid (∀W,Below w.heap.size w W→Calls Tryd.prog 44 #[.slice sa.wa s.ws.length sa.wc,.int .i64 s.ks.length,.int .i64 n] W (AnsB W (.tuple #[.int .i64 ((plsW s.ws 0 s.ks.length).getD n 0:Nat),.int .i64 0]))):=hid fun W hb=>by
        have:=Nth_ok sa.wa sa.wc s.ws hin.u s.ks.length n p4 xo hl (may_w kn) W (hin.below hb).w (hT.below hb);rwa [nthV,nthE,if_pos hn,if_pos hn] at this
       unfold takN;generalize (plsW s.ws 0 s.ks.length).getD n 0=at_ at *;obtain ⟨kz,gz,zl,-,-,hzm⟩:=take_in kn hin.u hat hbit;have hzu:=gz.u;have CL:Hid (∀W,Below w.heap.size w W→Calls Tryd.prog 45 #[slV s sa,.int .i64 at_] W (FreshSl2 W (tkC s at_) (.int .i64 0))):=hid fun W hb=>by
        have AT:∀W',Below W.heap.size W W'→Calls Tryd.prog 74 #[slV s sa,.int .i64 at_] W' (AnsB W' (.tuple #[.agg #[.int .i64 (s.ks.getD at_ 0),.int .i64 (s.vs.getD at_ 0)],.int .i64 0])):=fun W' hb'=>by
         have:=At4_ok s sa hl hl2 at_ W' ((hin.below hb).below hb');have e1:askS s at_=0:=by rw [askS,if_pos kn.may,if_pos ⟨by omega,by omega⟩]
         rw [atS,if_pos e1,Int.toNat_natCast,if_pos hbit] at this;exact this
        have hv:=g.elv;have hcl:=g.elc;have hwl:=g.elw;have hpH:=Nat.two_pow_pos H;have hs4:=g.s4;have TW:∀W',Below W.heap.size W W'→Calls Tryd.prog 29 #[slV s sa] W' (FreshSlN W' s):=fun W' hb'=>slTwin_ok s sa W' ((hin.below hb).below hb') xo xo xo xo
        have hvk:s.vs.length=s.ks.length:=hv;unfold slV at AT TW ⊢;rw [hvk] at AT TW ⊢;exact slClr_core W s.seg sa.wa sa.ka sa.va sa.ca sa.wc sa.kc sa.vc sa.cc s.ws.length s.ks.length s.cs.length s.laid s at_ (2^a) (s.ks.getD at_ 0) (s.vs.getD at_ 0) rfl rfl rfl rfl hvk rfl xo xo xo p4 xo p3 g.seg g.s4 hat (by have:=g.wn;omega) (by have:=g.cn;rw [hcl];exact this) g.ok (hid AT) (hid TW)
       have hz1:1≤(tkC s at_).ks.length:=xo;have HI:Hid (∀W (zb:SlA),Below w.heap.size w W→SlIn W (tkC s at_) zb→(tkC s at_).cs.length≤zb.cc→W.cell? ⟨w.heap.size,0,none⟩=some (.int .u8 c.tag)→W.cell? ⟨w.heap.size,1,none⟩=some (.int .i64 c.most)→W.cell? ⟨w.heap.size,2,none⟩=some (.int .i64 c.seg)→W.cell? ⟨w.heap.size,3,none⟩=some (.int .i64 c.least)→W.cell? ⟨w.heap.size,4,none⟩=some (.int .i64 c.den)→W.cell? ⟨w.heap.size,5,none⟩=some (.int .i64 c.ll)→W.cell? ⟨w.heap.size,6,none⟩=some (.int .i64 c.rl)→W.cell? ⟨w.heap.size,7,none⟩=some (.int .i64 c.rh)→W.cell? ⟨w.heap.size,8,none⟩=some (.int .i64 c.lh)→W.cell? ⟨w.heap.size+1,0,none⟩=some (.int .i64 (tkC s at_).seg)→W.cell? ⟨w.heap.size+1,1,none⟩=some (.slice zb.wa (tkC s at_).ws.length zb.wc)→W.cell? ⟨w.heap.size+1,2,none⟩=some (.slice zb.ka (tkC s at_).ks.length zb.kc)→W.cell? ⟨w.heap.size+1,3,none⟩=some (.slice zb.va (tkC s at_).vs.length zb.vc)→W.cell? ⟨w.heap.size+1,4,none⟩=some (.slice zb.ca (tkC s at_).cs.length zb.cc)→W.cell? ⟨w.heap.size+1,5,none⟩=some (.int .u64 (tkC s at_).laid)→Calls Tryd.prog 38 #[.agg #[.int .i64 (tkC s at_).seg,.slice zb.wa (tkC s at_).ws.length zb.wc,.slice zb.ka (tkC s at_).ks.length zb.kc,.slice zb.va (tkC s at_).vs.length zb.vc,.slice zb.ca (tkC s at_).cs.length zb.cc,.int .u64 (tkC s at_).laid],.int .i64 at_,.func (.func 46) #[] #[.pointer (some ⟨w.heap.size,0,none⟩),.pointer (some ⟨w.heap.size+1,0,none⟩)]] W (HighR W a at_ H (topI (unfB c (tkC s at_) a H at_) (H+1)))):=hid fun W zb hb hz hzc q0 q1 q2 q3 q4 q5 q6 q7 q8 r0 r1 r2 r3 r4 r5=>by
        refine highest_ok (tkC s at_).seg _ _ _ _ _ _ _ _ _ _ _ _ _ a H at_ p6 (unfB c (tkC s at_) a H at_) (fun h=>inH (tkC s at_) a h at_) 46 _ enters_take1 W (hid fun W' hb'=> ?_) (hid fun h hh W' hb'=> ?_) (hid fun h hh W' hb'=> ?_)
        · exact Path_ok (tkC s at_).seg (tkC s at_).ks.length a H (kz.win hs) at_ xo W'
        · exact among_win kz hzu zb hzc hh xo W' (hz.below hb')
        · have b:=inH_bd kz hzu hh (at_:=at_) xo;have cc:∀ {p:Addr} {v:Value},W.cell? p=some v→W'.cell? p=some v:=fun h=>(hb'.cell (World.block_lt_of_cell? _ _ h)).trans h
          obtain ⟨hwd,-,-,-⟩:=kz.cap.wd hh;rw [←Nat.pow_add] at hwd;exact takeIs_ok c (tkC s at_).seg _ _ _ _ _ _ _ _ _ _ _ _ _ h (inH (tkC s at_) a h at_) (sprB c (tkC s at_).ks.length H h (inH (tkC s at_) a h at_)) 0 w.heap.size (w.heap.size+1) W' (cc q0) (cc q1) (cc q2) (cc q3) (cc q4) (cc q5) (cc q6) (cc q7) (cc q8) (cc r0) (cc r1) (cc r2) (cc r3) (cc r4) (cc r5) (hid fun W'' hb''=>Sparse_in c (tkC s at_).ks.length a H h kz.cap hh (inH (tkC s at_) a h at_) xo xo W'')
       have hLn:(prs (tkC s at_) 0 (tkC s at_).ks.length).length=manyC (tkC s at_):=prs_length _ _ _;dsimp only;generalize tkC s at_=z at *;obtain ⟨z1,z2,z3,z4,z5,z6⟩:=kz.pows;obtain ⟨g',hlw'⟩:=gapN_gd kz hzu;have lz1:z.ws.length≤1000000000000:=by have:=g'.elw;omega
       have lz2:z.ks.length≤1000000000000:=xo;by_cases ht1:topI (unfB c z a H at_) (H+1)= -1
       · rw [if_pos ht1];exact gTake_none c s.seg _ _ _ _ _ _ _ _ _ _ _ _ _ a H at_ n _ _ z hzu hm ht1 w CK AM NT CL HI
       · rw [if_neg ht1];by_cases ht:topI (unfB c z a H at_) (H+1)=H
         · rw [if_pos ht];have hcn:manyC z≤z.ks.length:=by have:=cntW_le z.ws 0 z.ks.length;unfold manyC;omega
           obtain ⟨H',n1,n2,n3,n4⟩:=nar_ok (m:=manyC z) 20 z.ks.length a H kz.cap xo xo;have hnar:narF c (manyC z) 20 z.ks.length=((2^a*2^H':Nat):Int):=n2.all;have hbig:=n2.big;have hdiv:(narF c (manyC z) 20 z.ks.length).toNat/2^a=2^H':=by rw [hnar,Int.toNat_natCast,Nat.mul_div_cancel_left _ xo]
           rw [hdiv];have hle:manyC z≤2^a*2^H':=by rw [hnar] at n3;omega
           refine gTake_wide c s.seg _ _ _ _ _ _ _ _ _ _ _ _ _ a H at_ n _ _ z hzu hm (narF c (manyC z) 20 z.ks.length) (prs z 0 z.ks.length) _ z6 ht w CK AM NT CL HI (hid fun W zb hb hz=> ?_) (hid fun W zb hb hz hzc=> ?_) (hid fun la pl W zb hb hz hla=> ?_)
           · have:=Pairs_ok z zb lz1 lz2 0 z.ks.length W hz;have pe:partE z 0 z.ks.length=0:=by rw [partE,if_pos kz.may,if_pos xo]
             rw [prsR,pe,if_pos rfl] at this;exact this
           · exact narrower_ok c z.seg _ _ _ _ _ _ _ _ _ _ _ _ _ a H (manyC z) kz.cap hcn W (hid fun W' hb'=>among_all kz hzu zb hzc W' (hz.below hb'))
           · rw [hnar];exact Into_ok g' kz.may zb (2^H') (Nat.two_pow_pos H') (pwB_two a) (pwB_two H') hbig (prs z 0 z.ks.length) (by rw [hLn];exact hle) la pl W hz hla
         · rw [if_neg ht];obtain ⟨h,eh,hh⟩:∃h:Nat,topI (unfB c z a H at_) (H+1)+1=h∧h≤H:=by
            have:=topI_bd (unfB c z a H at_) (H+1);exact ⟨(topI (unfB c z a H at_) (H+1)+1).toNat,by omega,by omega⟩
           have hht:(topI (unfB c z a H at_) (H+1)+1).toNat=h:=xo;simp only [hht];have b:=wnd_bd (a:=a) (at_:=at_) hh (by rw [←kz.nk];omega);have e3:=wnd_seg a h at_;have hhi:(wnd a h at_+1)*2^(a+h)≤z.ks.length:=by rw [kz.nk];exact b.2.2.2
           have hlen:=prs_length z (wnd a h at_*2^(a+h)) ((wnd a h at_+1)*2^(a+h));have hc2:=cntW_le z.ws (wnd a h at_*2^(a+h)) ((wnd a h at_+1)*2^(a+h));have hlh:wnd a h at_*2^(a+h)≤(wnd a h at_+1)*2^(a+h):=Nat.mul_le_mul_right _ xo;refine gTake_even c s.seg _ _ _ _ _ _ _ _ _ _ _ _ _ a H at_ n _ _ z hzu hm h _ hh z6 eh ht1 ht w CK AM NT CL HI (hid fun W zb hb hz=> ?_);have ehi:((wnd a h at_*2^(a+h):Nat):Int)+((2^(a+h):Nat):Int)=(((wnd a h at_+1)*2^(a+h):Nat):Int):=by rw [←Int.natCast_add,Nat.succ_mul]
           rw [ehi];refine Even_core z.seg _ _ _ _ _ _ _ _ _ _ _ _ _ _ _ (prs z (wnd a h at_*2^(a+h)) ((wnd a h at_+1)*2^(a+h))) _ W (hid fun W' hb'=> ?_) (hid fun la pl W' hb' hla=> ?_)
           · have:=Pairs_ok z zb lz1 lz2 (wnd a h at_*2^(a+h):Nat) ((wnd a h at_+1)*2^(a+h):Nat) W' (hz.below hb');have pe:partE z (wnd a h at_*2^(a+h):Nat) ((wnd a h at_+1)*2^(a+h):Nat)=0:=by rw [partE,if_pos kz.may,if_pos ⟨Int.natCast_nonneg _,Int.ofNat_le.2 hlh,Int.ofNat_le.2 hhi⟩]
             rw [prsR,pe,if_pos rfl] at this;exact this
           · exact over_ok g' kz.may zb _ _ hlh hhi _ (by rw [hlen];exact hc2) la pl W' (hz.below hb') hla
 · have e:takE c s k=gapE c s:=by rw [takE,if_neg h0]
   rw [takC,e,if_neg h0];exact gTake_err c s.seg _ _ _ _ _ _ _ _ _ _ _ _ _ k _ h0 w CK
end
section
open Go.RowKit Go.Shelf Go.Sort
attribute [local go_sem] Oper.semAt_some
end
section
open Go.RowKit Go.Shelf Go.Sort
end
section
open Go.RowKit
end
section
open Go.RowKit Go.Shelf Go.Sort
attribute [local go_sem] Oper.semAt_some
end
section
open Go.RowKit Go.Shelf
attribute [local go_sem] Oper.semAt_some
end
end Go.Proofs.YtmnlagmmbfjbeaaDoor

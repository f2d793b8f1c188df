/- Merged: Spoil09, Spoil9K, RangeE, Build18, BuildIx, RowEq, IdxSame, BuildIxs. -/
import Derived.Test.YtookgoidlnlckaaGreatDoorGapTellsP12
import Derived.Test.YtookgoidlnlckaaGreatDoorGapTellsP5
import Derived.Test.YtookgoidlnlckaaGreatDoorGapTellsP2
import Derived.Test.YtookgoidlnlckaaGreatDoorGapTellsP4
import Derived.Test.YtookgoidlnlckaaGreatDoorGapTellsP10
import Derived.Test.YtookgoidlnlckaaGreatDoorGapTellsP6
namespace Go.Proofs.YtookgoidlnlckaaGreatDoor
set_option maxRecDepth 100000
set_option maxHeartbeats 40000000
set_option linter.unusedVariables false
set_option linter.unusedSimpArgs false
section
open Go.RowKit
def OwnK (k:IntKind) (e:TypeId) (B:Nat) (ao:Option Addr) (n c:Nat) (w:World):Prop:=∃xs:List Int,xs.length=n∧w.ownsRow B e 1 (.slice ao n c) n (xs.map (Value.int k))
theorem OwnK.form {k:IntKind} {e:TypeId} {B:Nat} {ao:Option Addr} {n c:Nat} {w:World} (h:OwnK k e B ao n c w) {j:Nat} (hj:j<n):∃g,ao=some ⟨g,0,none⟩∧B≤g∧g<w.heap.size:=by
 obtain ⟨xs,hl,h1,⟨h2,h3⟩ | ⟨g,cap,cur,hv,hg,hh,_⟩⟩:=h
 · omega
 · cases hv;exact ⟨g,rfl,hg,(Array.getElem?_eq_some_iff.1 hh).1⟩
theorem OwnK.set {k:IntKind} {e:TypeId} {B g n c:Nat} {w:World} (h:OwnK k e B (some ⟨g,0,none⟩) n c w) {j:Nat} (hj:j<n):
    (∃v,w.cell? ⟨g,j,none⟩=some v)∧w.frozen? ⟨g,j,none⟩=false∧∀y:Int,OwnK k e B (some ⟨g,0,none⟩) n c (w.setCell ⟨g,j,none⟩ (.int k y)):=by
 obtain ⟨xs,rfl,h1⟩:=h;obtain ⟨⟨x,_,hx⟩,hf,hs⟩:=row_cell h1 hj;refine ⟨⟨_,hx⟩,hf,fun y=>⟨xs.set j y,by simp,?_⟩⟩;have:=hs y;rw [List.length_set] at this;exact this
theorem OwnK.other {k:IntKind} {e:TypeId} {B:Nat} {ao:Option Addr} {n c:Nat} {w w':World} (h:OwnK k e B ao n c w) (hh:∀k,(Value.slice ao n c).ownBlock=some k→w'.heap[k]? =w.heap[k]?):OwnK k e B ao n c w':=by
 obtain ⟨xs,hl,h1⟩:=h;exact ⟨xs,hl,owns_heap h1 hh⟩
theorem OwnK.apart {k k':IntKind} {e e':TypeId} {B B':Nat} {ao bo:Option Addr} {n c m d:Nat} {w:World} (h:OwnK k e B ao n c w) (h':OwnK k' e' B' bo m d w) (hne:e≠e'):∀p q,(Value.slice ao n c).ownBlock=some p→(Value.slice bo m d).ownBlock=some q→p≠q:=by
 obtain ⟨xs,hl,h1⟩:=h;obtain ⟨ys,hm,h2⟩:=h';intro p q hp hq e;rcases owns_apart h1 h2 hne with h|h
 · rw [h] at hp;cases hp
 · exact h (by rw [hp,hq,e])
theorem OwnK.lt {k:IntKind} {e:TypeId} {B:Nat} {ao:Option Addr} {n c:Nat} {w:World} (h:OwnK k e B ao n c w):∀p,(Value.slice ao n c).ownBlock=some p→p<w.heap.size:=by
 obtain ⟨xs,hl,h1⟩:=h;exact fun p hp=>(owns_lt h1 hp).2
theorem spoil09_ok (seg laid:Int) (B:Nat) (wa ka va ca:Option Addr) (lw wc n kc lv vc lc cc:Nat) (w:World) (hw:OwnK .u64 27 B wa lw wc w) (hk:OwnK .i64 2 B ka n kc w) (hc:OwnK .i64 3 B ca lc cc w) (hB:B≤w.heap.size) (hn:n≤1000000000) (hm:lw≤1000000000) (hl:lc≤1000000000):
    Calls Tryz.prog 15 #[.agg #[.int .i64 seg,.slice wa lw wc,.slice ka n kc,.slice va lv vc,.slice ca lc cc,.int .u64 laid]] w fun e w'=>(∃v,e= .returned v)∧Below B w w':=by
 have HW:=hid hw;have HK:=hid hk;have HC:=hid hc;have HKW:=hid (hk.apart hw (by decide));have HKC:=hid (hk.apart hc (by decide));have HWC:=hid (hw.apart hc (by decide));have L1:=hid hw.lt;have L2:=hid hk.lt;have L3:=hid hc.lt;clear hw hk hc;go_enter Tryz.func15,Tryz.ntmps15
 go_wp2
 go_loopg [2] n (fun g i wr=>∃k:Nat,k+g=n∧i= .int .i64 k∧Hid (OwnK .i64 2 B ka n kc wr)∧Hid (OwnK .u64 27 B wa lw wc wr)∧Hid (OwnK .i64 3 B ca lc cc wr)∧wr.cell? ⟨w.heap.size,1,none⟩=some (.slice wa lw wc)∧wr.cell? ⟨w.heap.size,2,none⟩=some (.slice ka n kc)∧wr.cell? ⟨w.heap.size,4,none⟩=some (.slice ca lc cc)∧Hid (Below B w wr))
 case atStart=>
  exact ⟨0,by omega,rfl,hid (HK.out.other fun k hk=>Below.heap_alloc _ _ _ (L2.out k hk)),hid (HW.out.other fun k hk=>Below.heap_alloc _ _ _ (L1.out k hk)),hid (HC.out.other fun k hk=>Below.heap_alloc _ _ _ (L3.out k hk)),by (exact xcw),by (exact xcw),by (exact xcw),hid ((Below.refl _ w).alloc hB _)⟩
 case round=>
  obtain ⟨k,hk,rfl,HK1,HW1,HC1,hc1,hc2,hc4,HB⟩:=hrel;by_cases hlt:k<n
  · obtain ⟨g,rfl,hg1,hg2⟩:=HK1.out.form hlt;obtain ⟨⟨x,hx⟩,hf,hs⟩:=HK1.out.set hlt;have hgw:g<w.heap.size:=L2.out g rfl;have HS:=hid (hs (-7));have HW2:=hid (HW1.out.other (w':=wr.setCell ⟨g,k,none⟩ (.int .i64 (-7))) fun l hl=>heap_setCell_ne _ _ _ (by have:=HKW.out g l rfl hl;show l≠g;omega));have HC2:=hid (HC1.out.other (w':=wr.setCell ⟨g,k,none⟩ (.int .i64 (-7))) fun l hl=>heap_setCell_ne _ _ _ (by have:=HKC.out g l rfl hl;show l≠g;omega));clear hs;go_wp2
    go_roundg (gk-1)
    case measure=>omega
    case rel=>exact ⟨k+1,by omega,by go_num,HS,HW2,HC2,by rw [World.cell?_setCell_other _ _ _ _ (by intro e;simp at e<;>omega)];exact hc1,by rw [World.cell?_setCell_other _ _ _ _ (by intro e;simp at e<;>omega)];exact hc2,by rw [World.cell?_setCell_other _ _ _ _ (by intro e;simp at e<;>omega)];exact hc4,hid (HB.out.setCell hg1 _)⟩
  · obtain rfl:k=n:=xo;clear HK HK1 hk hlt HKW HKC;obtain ⟨wo,rfl⟩:∃wo,wr=wo:=⟨_,rfl⟩
    go_wp2
    go_loopg [3] lw (fun g i wr=>∃k:Nat,k+g=lw∧i= .int .i64 k∧Hid (OwnK .u64 27 B wa lw wc wr)∧Hid (OwnK .i64 3 B ca lc cc wr)∧wr.cell? ⟨w.heap.size,1,none⟩=some (.slice wa lw wc)∧wr.cell? ⟨w.heap.size,4,none⟩=some (.slice ca lc cc)∧Hid (Below B w wr))
    case atStart=>exact ⟨0,by omega,rfl,HW1,HC1,hc1,hc4,HB⟩
    case round=>
     obtain ⟨j,hj,rfl,HW2,HC2,hd1,hd4,HB2⟩:=hrel;by_cases hlt:j<lw
     · obtain ⟨g,rfl,hg1,hg2⟩:=HW2.out.form hlt;obtain ⟨⟨x,hx⟩,hf,hs⟩:=HW2.out.set hlt;have hgw:g<w.heap.size:=L1.out g rfl;have HS:=hid (hs 7);have HC3:=hid (HC2.out.other (w':=wr.setCell ⟨g,j,none⟩ (.int .u64 7)) fun l hl=>heap_setCell_ne _ _ _ (by have:=HWC.out g l rfl hl;show l≠g;omega));clear hs;go_wp2
       go_roundg (gk-1)
       case measure=>omega
       case rel=>exact ⟨j+1,by omega,by go_num,HS,HC3,by rw [World.cell?_setCell_other _ _ _ _ (by intro e;simp at e<;>omega)];exact hd1,by rw [World.cell?_setCell_other _ _ _ _ (by intro e;simp at e<;>omega)];exact hd4,hid (HB2.out.setCell hg1 _)⟩
     · obtain rfl:j=lw:=xo;clear HW HW1 HW2 HWC;obtain ⟨wo2,rfl⟩:∃wo,wr=wo:=⟨_,rfl⟩
       go_wp2
       go_loopg [4] lc (fun g i wr=>∃k:Nat,k+g=lc∧i= .int .i64 k∧Hid (OwnK .i64 3 B ca lc cc wr)∧wr.cell? ⟨w.heap.size,4,none⟩=some (.slice ca lc cc)∧Hid (Below B w wr))
       case atStart=>exact ⟨0,by omega,rfl,HC2,hd4,HB2⟩
       case round=>
        obtain ⟨i,hi,rfl,HC4,he4,HB4⟩:=hrel;by_cases hlt:i<lc
        · obtain ⟨g,rfl,hg1,hg2⟩:=HC4.out.form hlt;obtain ⟨⟨x,hx⟩,hf,hs⟩:=HC4.out.set hlt;have hgw:g<w.heap.size:=L3.out g rfl;have HS:=hid (hs (-7));clear hs;go_wp2
          go_roundg (gk-1)
          case measure=>omega
          case rel=>exact ⟨i+1,by omega,by go_num,HS,by rw [World.cell?_setCell_other _ _ _ _ (by intro e;simp at e<;>omega)];exact he4,hid (HB4.out.setCell hg1 _)⟩
        · obtain rfl:i=lc:=xo;go_wp2
          exact bodyPost_end (results_none rfl _ _ _) rfl ⟨⟨_,rfl⟩,HB4.out⟩
end
section
open Go.RowKit
theorem pb_kp {S:Nat→Prop} {w w':World} {b:Nat} {vs:List Value} (h:KpS S w w') (hp:PB w b vs) (hS:S b):PB w' b vs:=
  fun j v hj=>h.cell (a:=⟨b,j,none⟩) hS (hp j v hj)
theorem OwnK.kp {S:Nat→Prop} {k:IntKind} {e:TypeId} {B:Nat} {ao:Option Addr} {n c:Nat} {w w':World} (h:OwnK k e B ao n c w) (hk:KpS S w w') (hS:∀q,B≤q→q<w.heap.size→S q):OwnK k e B ao n c w':=by
 refine h.other fun q hq=>hk q ?_
 obtain ⟨xs,hl,h1⟩:=h;exact hS q (owns_lt h1 hq).1 (owns_lt h1 hq).2
theorem OwnK.base {k:IntKind} {e:TypeId} {B B':Nat} {ao:Option Addr} {n c:Nat} {w:World} (h:OwnK k e B ao n c w) (hb:B'≤B):OwnK k e B' ao n c w:=by
 obtain ⟨xs,hl,h1⟩:=h;exact ⟨xs,hl,owns_base h1 hb⟩
theorem OwnK.not {k:IntKind} {e:TypeId} {B:Nat} {ao:Option Addr} {n c:Nat} {w:World} {S:Nat→Prop} (h:OwnK k e B ao n c w) (hS:∀q,B≤q→q<w.heap.size→¬S q):∀p,(Value.slice ao n c).ownBlock=some p→¬S p:=by
 intro p hp;obtain ⟨xs,hl,h1⟩:=h;exact hS p (owns_lt h1 hp).1 (owns_lt h1 hp).2
theorem spoil09_kp (S:Nat→Prop) (seg laid:Int) (B:Nat) (wa ka va ca:Option Addr) (lw wc n kc lv vc lc cc:Nat) (w:World) (hw:OwnK .u64 27 B wa lw wc w) (hk:OwnK .i64 2 B ka n kc w) (hc:OwnK .i64 3 B ca lc cc w) (hB:B≤w.heap.size) (hn:n≤1000000000) (hm:lw≤1000000000) (hl:lc≤1000000000) (hS:∀q,S q→q<w.heap.size) (h1:∀p,(Value.slice wa lw wc).ownBlock=some p→¬S p) (h2:∀p,(Value.slice ka n kc).ownBlock=some p→¬S p) (h3:∀p,(Value.slice ca lc cc).ownBlock=some p→¬S p):
    Calls Tryz.prog 15 #[.agg #[.int .i64 seg,.slice wa lw wc,.slice ka n kc,.slice va lv vc,.slice ca lc cc,.int .u64 laid]] w fun e w'=>(∃v,e= .returned v)∧Below B w w'∧KpS S w w':=by
 have HSS:=hid hS;have Q1:=hid h1;have Q2:=hid h2;have Q3:=hid h3;have HW:=hid hw;have HK:=hid hk;have HC:=hid hc;have HKW:=hid (hk.apart hw (by decide));have HKC:=hid (hk.apart hc (by decide));have HWC:=hid (hw.apart hc (by decide));have L1:=hid hw.lt;have L2:=hid hk.lt;have L3:=hid hc.lt;clear hw hk hc hS h1 h2 h3;go_enter Tryz.func15,Tryz.ntmps15
 go_wp2
 go_loopg [2] n (fun g i wr=>∃k:Nat,k+g=n∧i= .int .i64 k∧Hid (OwnK .i64 2 B ka n kc wr)∧Hid (OwnK .u64 27 B wa lw wc wr)∧Hid (OwnK .i64 3 B ca lc cc wr)∧wr.cell? ⟨w.heap.size,1,none⟩=some (.slice wa lw wc)∧wr.cell? ⟨w.heap.size,2,none⟩=some (.slice ka n kc)∧wr.cell? ⟨w.heap.size,4,none⟩=some (.slice ca lc cc)∧Hid (Below B w wr)∧Hid (KpS S w wr))
 case atStart=>
  exact ⟨0,by omega,rfl,hid (HK.out.other fun k hk=>Below.heap_alloc _ _ _ (L2.out k hk)),hid (HW.out.other fun k hk=>Below.heap_alloc _ _ _ (L1.out k hk)),hid (HC.out.other fun k hk=>Below.heap_alloc _ _ _ (L3.out k hk)),by (exact xcw),by (exact xcw),by (exact xcw),hid ((Below.refl _ w).alloc hB _),hid (fun q hq=>Below.heap_alloc _ _ _ (HSS.out q hq))⟩
 case round=>
  obtain ⟨k,hk,rfl,HK1,HW1,HC1,hc1,hc2,hc4,HB,HKP⟩:=hrel;by_cases hlt:k<n
  · obtain ⟨g,rfl,hg1,hg2⟩:=HK1.out.form hlt;obtain ⟨⟨x,hx⟩,hf,hs⟩:=HK1.out.set hlt;have hgw:g<w.heap.size:=L2.out g rfl;have HS:=hid (hs (-7));have HW2:=hid (HW1.out.other (w':=wr.setCell ⟨g,k,none⟩ (.int .i64 (-7))) fun l hl=>heap_setCell_ne _ _ _ (by have:=HKW.out g l rfl hl;show l≠g;omega));have HC2:=hid (HC1.out.other (w':=wr.setCell ⟨g,k,none⟩ (.int .i64 (-7))) fun l hl=>heap_setCell_ne _ _ _ (by have:=HKC.out g l rfl hl;show l≠g;omega));clear hs;go_wp2
    go_roundg (gk-1)
    case measure=>omega
    case rel=>exact ⟨k+1,by omega,by go_num,HS,HW2,HC2,by rw [World.cell?_setCell_other _ _ _ _ (by intro e;simp at e<;>omega)];exact hc1,by rw [World.cell?_setCell_other _ _ _ _ (by intro e;simp at e<;>omega)];exact hc2,by rw [World.cell?_setCell_other _ _ _ _ (by intro e;simp at e<;>omega)];exact hc4,hid (HB.out.setCell hg1 _),hid (fun q hq=>(heap_setCell_ne _ _ _ (fun e=>Q2.out g rfl (by have e2:q=g:=e;rw [←e2];exact hq))).trans (HKP.out q hq))⟩
  · obtain rfl:k=n:=xo;clear HK HK1 hk hlt HKW HKC;obtain ⟨wo,rfl⟩:∃wo,wr=wo:=⟨_,rfl⟩
    go_wp2
    go_loopg [3] lw (fun g i wr=>∃k:Nat,k+g=lw∧i= .int .i64 k∧Hid (OwnK .u64 27 B wa lw wc wr)∧Hid (OwnK .i64 3 B ca lc cc wr)∧wr.cell? ⟨w.heap.size,1,none⟩=some (.slice wa lw wc)∧wr.cell? ⟨w.heap.size,4,none⟩=some (.slice ca lc cc)∧Hid (Below B w wr)∧Hid (KpS S w wr))
    case atStart=>exact ⟨0,by omega,rfl,HW1,HC1,hc1,hc4,HB,HKP⟩
    case round=>
     obtain ⟨j,hj,rfl,HW2,HC2,hd1,hd4,HB2,HKP2⟩:=hrel;by_cases hlt:j<lw
     · obtain ⟨g,rfl,hg1,hg2⟩:=HW2.out.form hlt;obtain ⟨⟨x,hx⟩,hf,hs⟩:=HW2.out.set hlt;have hgw:g<w.heap.size:=L1.out g rfl;have HS:=hid (hs 7);have HC3:=hid (HC2.out.other (w':=wr.setCell ⟨g,j,none⟩ (.int .u64 7)) fun l hl=>heap_setCell_ne _ _ _ (by have:=HWC.out g l rfl hl;show l≠g;omega));clear hs;go_wp2
       go_roundg (gk-1)
       case measure=>omega
       case rel=>exact ⟨j+1,by omega,by go_num,HS,HC3,by rw [World.cell?_setCell_other _ _ _ _ (by intro e;simp at e<;>omega)];exact hd1,by rw [World.cell?_setCell_other _ _ _ _ (by intro e;simp at e<;>omega)];exact hd4,hid (HB2.out.setCell hg1 _),hid (fun q hq=>(heap_setCell_ne _ _ _ (fun e=>Q1.out g rfl (by have e2:q=g:=e;rw [←e2];exact hq))).trans (HKP2.out q hq))⟩
     · obtain rfl:j=lw:=xo;clear HW HW1 HW2 HWC;obtain ⟨wo2,rfl⟩:∃wo,wr=wo:=⟨_,rfl⟩
       go_wp2
       go_loopg [4] lc (fun g i wr=>∃k:Nat,k+g=lc∧i= .int .i64 k∧Hid (OwnK .i64 3 B ca lc cc wr)∧wr.cell? ⟨w.heap.size,4,none⟩=some (.slice ca lc cc)∧Hid (Below B w wr)∧Hid (KpS S w wr))
       case atStart=>exact ⟨0,by omega,rfl,HC2,hd4,HB2,HKP2⟩
       case round=>
        obtain ⟨i,hi,rfl,HC4,he4,HB4,HKP4⟩:=hrel;by_cases hlt:i<lc
        · obtain ⟨g,rfl,hg1,hg2⟩:=HC4.out.form hlt;obtain ⟨⟨x,hx⟩,hf,hs⟩:=HC4.out.set hlt;have hgw:g<w.heap.size:=L3.out g rfl;have HS:=hid (hs (-7));clear hs;go_wp2
          go_roundg (gk-1)
          case measure=>omega
          case rel=>exact ⟨i+1,by omega,by go_num,HS,by rw [World.cell?_setCell_other _ _ _ _ (by intro e;simp at e<;>omega)];exact he4,hid (HB4.out.setCell hg1 _),hid (fun q hq=>(heap_setCell_ne _ _ _ (fun e=>Q3.out g rfl (by have e2:q=g:=e;rw [←e2];exact hq))).trans (HKP4.out q hq))⟩
        · obtain rfl:i=lc:=xo;go_wp2
          exact bodyPost_end (results_none rfl _ _ _) rfl ⟨⟨_,rfl⟩,HB4.out,HKP4.out⟩
end
section
open Go.RowKit
def IterE (P:Program) (gf:Nat) (lb:Array Value) (xs:List (Array Value)) (Kp:World→World→Prop) (w:World):Prop:=
  ∀ (l:Nat) (J Jx:Nat→World→Prop) (W:World),Below w.heap.size w W→(∀W1,¬J xs.length W1)→
    (∀k W1 W2,J k W1→Below W1.heap.size W1 W2→J k W2)→(∀k W1 W2,Jx k W1→Below W1.heap.size W1 W2→Jx k W2)→
    (∀k W1,k<xs.length→J k W1→YieldAt Fence.wide 0 P l (xs.getD k #[]) W1 fun e W'=>
     (e= .returned (.bool true)∧J (k+1) W'∧Kp W1 W')∨(e= .returned (.bool false)∧Jx (k+1) W'))→
    J 0 W→
    CallsIn Fence.wide 0 P gf (#[.func (.yield l) #[] #[]]++lb) W fun e W'=>(∃v,e= .returned v)∧(J xs.length W'∨∃k,k≤xs.length∧Jx k W')
theorem wp_range_e {P:Program} {g:Operand} {ps:Array Tmp} {assign body:Code} {Q:Exit→Act→World→Prop} {a:Act} {w:World}
    {gf:Nat} {lb:Array Value} (hg:a.eval g= .func (.func gf) #[] lb) (eg:∀args w,(callFunc gf args).run P w= .ok (.enter gf args) w)
    {xs:List (Array Value)} {Kp:World→World→Prop} {w0:World} (hseq:IterE P gf lb xs Kp w0) (hb0:Below w0.heap.size w0 w)
    (hKt:∀ {A B C:World},Kp A B→Kp B C→Kp A C) (hKb:∀(W:World) (l:Nat) (o o':Obj),w.heap.size≤l→W.heap[l]? =some o→o.isCells=false→Kp W (W.putObj l o'))
    (hps:∀x ∈ xs,x.size=ps.size)
    (I:Nat→World→Prop) (Ix:Code→World→Prop) (hI:∀k W W',I k W→Calm w.heap.size W W'→I k W') (hIx:∀c W W',Ix c W→Calm w.heap.size W W'→Ix c W') (h0:I 0 w)
    (hround:∀(l k:Nat) (W:World),w.heap.size≤l→k<xs.length→I k W→
      assign.wpIn (inRd l) 0 P (Exit.then (BodyOkW P l body w.heap.size Kp I Ix k W) (fun _ _ _=>False))
        {tmps:=(ps.zip (xs.getD k #[])).foldl (fun t (p,v)=>t.setIfInBounds p v) a.tmps,defers:=[]} W)
    (hno:∀W,¬I xs.length W)
    (hstop:∀(D:Nat) (c:Code) (W:World),w.heap.size≤D→Ix c W→W.heap[D]? =some (.deferred (some []))→c.wp P Q {a with defers:= {target:= .collected D,args:= #[]}::a.defers} W):
    (Code.rangeFunc g ps assign body).wp P Q a w:=by
 refine wpIn_wide (n:=0).1 (wpIn_rangeFunc ?_);intro fn hfn;obtain ⟨rec,hrec⟩:∃rec:LoopState→Option Code→Loop,rec=fun st pe=> {state:=st,pending:=pe,fn,tmps:=a.tmps,params:=ps,assign,body,defers:=w.heap.size}:=⟨_,rfl⟩
 obtain ⟨W1,hW1⟩:∃W1,(w.alloc (.deferred (some []))).alloc (.loop (rec .ready none))=W1:=⟨_,rfl⟩
 have hL1:W1.heap[w.heap.size+1]? =some (.loop (rec .ready none)):=by
  rw [←hW1];have:=World.alloc_heap_new (w.alloc (.deferred (some []))) (.loop (rec .ready none));rwa [World.size_alloc] at this
 have hK1:W1.heap[w.heap.size]? =some (.deferred (some [])):=by
  rw [←hW1];exact (Below.heap_alloc _ _ _ (by simp)).trans (World.alloc_heap_new w _)
 have hI1:I 0 W1:=by rw [←hW1];exact hI _ _ _ h0 ((Calm.alloc _ (Nat.le_refl _)).trans (Calm.alloc _ (by simp)))
 have hb1:Below w0.heap.size w0 W1:=by
  rw [←hW1];exact hb0.trans ((((Below.refl _ w).alloc (Nat.le_refl _) _).alloc (by simp) _).mono hb0.size)
 have calmOf:∀ {A C:World},w.heap.size≤A.heap.size→Below A.heap.size A C→Calm w.heap.size A C:=fun hs hb=>
  ⟨hb.os,hb.tape,hb.output,hb.size,fun k hk=>hb.block k xo,fun k o hk _=>(hb.block k (Array.getElem?_eq_some_iff.1 hk).1).trans hk⟩
 refine ⟨w.heap.size+1,[{target:= .collected w.heap.size,args:= #[]}],W1,{target:= .fn (.func gf) lb,args:= #[.func (.yield (w.heap.size+1)) #[] #[]]},W1,gf,
   #[.func (.yield (w.heap.size+1)) #[] #[]]++lb,W1,?_,?_,fun _ _=>trivial,?_,fun h=>(by cases h),?_⟩
 · rw [←hW1,hrec];exact run_enterLoop_outer _ _ _ _ _
 · simp only [resolve,hg];simp [go_sem]
 · simp [invoke,go_sem,eg]
 · refine (hseq (w.heap.size+1)
     (fun k W=>I k W∧W.heap[w.heap.size+1]? =some (.loop (rec .ready none))∧W.heap[w.heap.size]? =some (.deferred (some [])))
     (fun _ W=>∃c,Ix c W∧W.heap[w.heap.size+1]? =some (.loop (rec .done (some c)))∧W.heap[w.heap.size]? =some (.deferred (some [])))
     W1 hb1 (fun W h=>hno W h.1) ?_ ?_ ?_ ⟨hI1,hL1,hK1⟩).mono ?_
   · rintro k A C ⟨h1,h2,h3⟩ hb;have l2:=(Array.getElem?_eq_some_iff.1 h2).1;exact ⟨hI _ _ _ h1 (calmOf xo hb),(hb.block _ l2).trans h2,(hb.block _ xo).trans h3⟩
   · rintro k A C ⟨c,h1,h2,h3⟩ hb;have l2:=(Array.getElem?_eq_some_iff.1 h2).1;exact ⟨c,hIx _ _ _ h1 (calmOf xo hb),(hb.block _ l2).trans h2,(hb.block _ xo).trans h3⟩
   · -- one round
     rintro k W hkl ⟨hi,hl,hk⟩;have hlt:w.heap.size+1<W.heap.size:=(Array.getElem?_eq_some_iff.1 hl).1;have hsz:(xs.getD k #[]).size=ps.size:=by
      rw [List.getD_eq_getElem?_getD,List.getElem?_eq_getElem hkl];exact hps _ (List.getElem_mem _)
     have hy:=run_yield (P:=P) (args:=xs.getD k #[]) hl (by rw [hrec];exact hsz);rw [hrec] at hy;refine ⟨fn,_,assign,body,hy,roundIn_of_wpIn trivial (wpIn_mono (hround _ k W xo hkl hi) ?_)⟩;intro e a1 Wa hq;cases e with
     | normal=>
      obtain ⟨hks,hkpa,hbody⟩:=hq;have hl0:=hl;have hlt0:=hlt;replace hl:Wa.heap[w.heap.size+1]? =some (.loop (rec .ready none)):=hks.same _ _ hl0 (by rfl);replace hk:Wa.heap[w.heap.size]? =some (.deferred (some [])):=hks.same _ _ hk (by rfl);replace hlt:w.heap.size+1<Wa.heap.size:=(Array.getElem?_eq_some_iff.1 hl).1;refine ⟨_,run_beginRound hl (by rw [hrec]),?_⟩;have hl2:(Wa.putObj (w.heap.size+1) (.loop {rec .ready none with state:= .busy})).heap[w.heap.size+1]? =some (.loop {rec .ready none with state:= .busy}):=World.putObj_heap_same hlt;have hk2:(Wa.putObj (w.heap.size+1) (.loop {rec .ready none with state:= .busy})).heap[w.heap.size]? =some (.deferred (some [])):=(World.putObj_heap_other xo).trans hk;have hw2:Kp Wa (Wa.putObj (w.heap.size+1) (.loop {rec .ready none with state:= .busy})):=hKb _ _ _ _ xo hl rfl;have hi2:Calm w.heap.size Wa (Wa.putObj (w.heap.size+1) (.loop {rec .ready none with state:= .busy})):=Calm.putObj _ xo hl rfl;refine wpIn_mono (hbody _ hi2) ?_;have fin:∀(jump:Option Code) (W3:World),KeepsOthers (Wa.putObj (w.heap.size+1) (.loop {rec .ready none with state:= .busy})) W3→
          (Instr.endRound (w.heap.size+1) jump).run P W3= .ok (.bool jump.isNone) (W3.putObj (w.heap.size+1) (.loop (rec (if jump.isNone then .ready else .done) jump)))∧
          W3.heap[w.heap.size+1]? =some (.loop {rec .ready none with state:= .busy})∧
          (W3.putObj (w.heap.size+1) (.loop (rec (if jump.isNone then .ready else .done) jump))).heap[w.heap.size+1]? =some (.loop (rec (if jump.isNone then .ready else .done) jump))∧
          (W3.putObj (w.heap.size+1) (.loop (rec (if jump.isNone then .ready else .done) jump))).heap[w.heap.size]? =some (.deferred (some [])):=fun jump W3 hk3=>by
       have hl3:=hk3.same _ _ hl2 rfl;have:=run_endRound (P:=P) jump hl3;rw [hrec] at this ⊢;exact ⟨this,by rw [hrec] at hl3;exact hl3,World.putObj_heap_same (Array.getElem?_eq_some_iff.1 hl3).1,(World.putObj_heap_other xo).trans (hk3.same _ _ hk2 rfl)⟩
      rintro e a3 W3 hp;cases e with
      | normal=>
       obtain ⟨hk3,hkp3,hi3⟩:=hp;obtain ⟨hr,hl3,hl4,hk4⟩:=fin none W3 hk3;exact ⟨_,_,hr,.inl ⟨rfl,⟨hI _ _ _ hi3 (Calm.putObj _ xo hl3 rfl),hl4,hk4⟩,hKt (hKt (hKt hkpa hw2) hkp3) (hKb _ _ _ _ xo hl3 rfl)⟩⟩
      | ret=>
       obtain ⟨hk3,hi3⟩:=hp;obtain ⟨hr,hl3,hl4,hk4⟩:=fin (some .ret) W3 hk3;exact ⟨_,_,hr,.inr ⟨rfl,.ret,hIx _ _ _ hi3 (Calm.putObj _ xo hl3 rfl),hl4,hk4⟩⟩
      | exit id=>
       obtain ⟨hk3,hi3⟩:=hp;obtain ⟨hr,hl3,hl4,hk4⟩:=fin (some (.exit id)) W3 hk3;exact ⟨_,_,hr,.inr ⟨rfl,.exit id,hIx _ _ _ hi3 (Calm.putObj _ xo hl3 rfl),hl4,hk4⟩⟩
      | goto t=>
       obtain ⟨hk3,hi3⟩:=hp;obtain ⟨hr,hl3,hl4,hk4⟩:=fin (some (.goto t)) W3 hk3;exact ⟨_,_,hr,.inr ⟨rfl,.goto t,hIx _ _ _ hi3 (Calm.putObj _ xo hl3 rfl),hl4,hk4⟩⟩
      | panic ch=>exact hp.elim
      | outgrown=>exact hp.elim
     | ret=>exact hq.elim
     | exit id=>exact hq.elim
     | goto t=>exact hq.elim
     | panic ch=>exact hq.elim
     | outgrown=>exact hq.elim
   · -- behind the iterator
     rintro e W2 ⟨⟨v,rfl⟩,(⟨hi,hl,hk⟩ | ⟨k,_,c,hi,hl,hk⟩)⟩
     · exact (hno _ hi).elim
     · exact ⟨some c,_,by have:=run_endLoop (P:=P) hl (by rw [hrec];simp);rw [hrec] at this;exact this,wpIn_wide.2 (hstop _ c _ (Nat.le_refl _) (hIx _ _ _ hi (Calm.putObj _ xo hl rfl)) ((World.putObj_heap_other xo).trans hk))⟩
end
section
open Go.RowKit Go.Shelf
attribute [local go_sem] Oper.semAt_some
end
section
open Go.RowKit Go.Shelf
attribute [local go_sem] Oper.semAt_some
structure FactR (R:World→World→Prop) where
 holds:Value→World→Prop
 stays:∀v w w',R w w'→holds v w→holds v w'
def FactR.any (R:World→World→Prop):FactR R:=⟨fun _ _=>True,fun _ _ _ _ _=>trivial⟩
def FactR.is {R:World→World→Prop} (x:Value):FactR R:=⟨fun v _=>v=x,fun _ _ _ _ h=>h⟩
def FactR.now {R:World→World→Prop} (S:World→Prop) (h:∀w w',R w w'→S w→S w'):FactR R:=⟨fun _ w=>S w,fun _ w w' hr h1=>h w w' hr h1⟩
def factRAt {R:World→World→Prop} (fs:List (FactR R)) (k:Nat) (v:Value) (w:World):Prop:=(fs.getD k (FactR.any R)).holds v w
theorem factRAt_stays {R:World→World→Prop} (fs:List (FactR R)) (k:Nat) (v:Value) (w w':World) (h:R w w'):factRAt fs k v w→factRAt fs k v w':=(fs.getD k (FactR.any R)).stays _ _ _ h
def JB (g:Nat) (X:World) (old new:World→Prop) (w':World):Prop:=(∀q,q≠g→w'.heap[q]? =X.heap[q]?)∧w'.heap.size=X.heap.size∧(w'.os=X.os∧w'.tape=X.tape∧w'.output=X.output)∧(old w'∨new w')
end
section
open Go.RowKit
end
section
open Go.RowKit
end
section
open Go.RowKit Go.Shelf
attribute [local go_sem] Oper.semAt_some
end
end Go.Proofs.YtookgoidlnlckaaGreatDoor

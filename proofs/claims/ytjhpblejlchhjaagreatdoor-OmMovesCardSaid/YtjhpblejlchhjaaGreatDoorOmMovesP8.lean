/- Merged: SlTake, SlTakeOk, SlLay. -/
import Derived.Test.YtjhpblejlchhjaaGreatDoorOmMovesP7
namespace Go.Proofs.YtjhpblejlchhjaaGreatDoor
set_option maxRecDepth 100000
set_option maxHeartbeats 40000000
set_option linter.unusedVariables false
set_option linter.unusedSimpArgs false
section
open Go.RowKit Go.Shelf
attribute [local go_sem] Oper.semAt_some
structure KeptA (g1 g2 g3 g4:Nat) (w W:World):Prop where
 os:W.os=w.os
 tape:W.tape=w.tape
 output:W.output=w.output
 size:w.heap.size≤W.heap.size
 block:∀q,q<w.heap.size→q≠g1→q≠g2→q≠g3→q≠g4→W.heap[q]? =w.heap[q]?
theorem KeptA.below {g1 g2 g3 g4:Nat} {w W:World} (h:Below w.heap.size w W):KeptA g1 g2 g3 g4 w W:=⟨h.os,h.tape,h.output,h.size,fun q hq _ _ _ _=>h.block q hq⟩
theorem KeptA.step {g1 g2 g3 g4:Nat} {w W W':World} (h:KeptA g1 g2 g3 g4 w W) (h0:W'.heap.size=W.heap.size) (h1:W'.os=W.os) (h2:W'.tape=W.tape) (h3:W'.output=W.output) (hb:∀q,q<w.heap.size→q≠g1→q≠g2→q≠g3→q≠g4→W'.heap[q]? =W.heap[q]?):KeptA g1 g2 g3 g4 w W':=
  ⟨h1.trans h.os,h2.trans h.tape,h3.trans h.output,by rw [h0];exact h.size,fun q hq a b c d=>(hb q hq a b c d).trans (h.block q hq a b c d)⟩
theorem owns_drew {w:World} {B:Nat} {e:TypeId} {s:Nat} {v:Value} {n:Nat} {xs:List Value} (h:w.ownsRow B e s v n xs):w.drew.ownsRow B e s v n xs:=owns_heap h fun _ _=>rfl
theorem own_len {k:IntKind} {w:World} {B:Nat} {e:TypeId} {v:Value} {n:Nat} {xs:List Int} (h:w.ownsRow B e 1 v n (xs.map (Value.int k))):xs.length=n:=by have:=h.1;simpa using this
theorem frozen_of_block {w w':World} {b:Nat} (h:w'.heap[b]? =w.heap[b]?) (i:Nat):w'.frozen? ⟨b,i,none⟩=w.frozen? ⟨b,i,none⟩:=by simp only [World.frozen?,h]
structure ArrOn (B:Nat) (W:World) (b g1 g2 g3 g4 k1 k2 k3 k4 lw n lc:Nat) (seg laid:Int) (ws ks vs cs:List Int):Prop where
 c0:W.cell? ⟨b,0,none⟩=some (.int .i64 seg)
 c1:W.cell? ⟨b,1,none⟩=some (.slice (some ⟨g1,0,none⟩) lw k1)
 c2:W.cell? ⟨b,2,none⟩=some (.slice (some ⟨g2,0,none⟩) n k2)
 c3:W.cell? ⟨b,3,none⟩=some (.slice (some ⟨g3,0,none⟩) n k3)
 c4:W.cell? ⟨b,4,none⟩=some (.slice (some ⟨g4,0,none⟩) lc k4)
 c5:W.cell? ⟨b,5,none⟩=some (.int .u64 laid)
 f5:W.frozen? ⟨b,5,none⟩=false
 o1:W.ownsRow B 27 1 (.slice (some ⟨g1,0,none⟩) lw k1) lw ((ws).map (Value.int .u64))
 o2:W.ownsRow B 2 1 (.slice (some ⟨g2,0,none⟩) n k2) n ((ks).map (Value.int .i64))
 o3:W.ownsRow B 2 1 (.slice (some ⟨g3,0,none⟩) n k3) n ((vs).map (Value.int .i64))
 o4:W.ownsRow B 3 1 (.slice (some ⟨g4,0,none⟩) lc k4) lc ((cs).map (Value.int .i64))
theorem slTake_set (w:World) (B b g1 g2 g3 g4 k1 k2 k3 k4 lw n lc i qi r s:Nat) (seg x kx vx nx:Int) (laid:Int) (ws ks vs cs:List Int)
    (c0:w.cell? ⟨b,0,none⟩=some (.int .i64 seg)) (c1:w.cell? ⟨b,1,none⟩=some (.slice (some ⟨g1,0,none⟩) lw k1)) (c2:w.cell? ⟨b,2,none⟩=some (.slice (some ⟨g2,0,none⟩) n k2)) (c3:w.cell? ⟨b,3,none⟩=some (.slice (some ⟨g3,0,none⟩) n k3)) (c4:w.cell? ⟨b,4,none⟩=some (.slice (some ⟨g4,0,none⟩) lc k4)) (c5:w.cell? ⟨b,5,none⟩=some (.int .u64 laid)) (f5:w.frozen? ⟨b,5,none⟩=false)
    (O1:Hid (w.ownsRow B 27 1 (.slice (some ⟨g1,0,none⟩) lw k1) lw ((ws).map (Value.int .u64)))) (O2:Hid (w.ownsRow B 2 1 (.slice (some ⟨g2,0,none⟩) n k2) n ((ks).map (Value.int .i64)))) (O3:Hid (w.ownsRow B 2 1 (.slice (some ⟨g3,0,none⟩) n k3) n ((vs).map (Value.int .i64)))) (O4:Hid (w.ownsRow B 3 1 (.slice (some ⟨g4,0,none⟩) lc k4) lc ((cs).map (Value.int .i64))))
    (d1:w.cell? ⟨g1,qi,none⟩=some (.int .u64 x)) (d2:w.cell? ⟨g2,i,none⟩=some (.int .i64 kx)) (d3:w.cell? ⟨g3,i,none⟩=some (.int .i64 vx)) (d4:w.cell? ⟨g4,s,none⟩=some (.int .i64 nx))
    (f1:w.frozen? ⟨g1,qi,none⟩=false) (f2:w.frozen? ⟨g2,i,none⟩=false) (f3:w.frozen? ⟨g3,i,none⟩=false) (f4:w.frozen? ⟨g4,s,none⟩=false)
    (hin:i<n) (hn:n≤65536) (hqI:(i:Int)/64=qi) (hrI:(i:Int)%64=r) (hrT:(i:Int).tmod 64=r) (hr:r<64) (hqi:qi<lw) (hs:s<lc) (hsI:(i:Int)/seg=s) (hsg:(seg==0)=false) (hsg2:¬seg=0) (hsg3:4≤seg) (hlc:lc≤65536) (hlw:lw≤65536)
    (n1:g1≠b) (n2:g2≠b) (n3:g3≠b) (n4:g4≠b) (n12:g1≠g2) (n13:g1≠g3) (n14:g1≠g4) (n23:g2≠g3) (n24:g2≠g4) (n34:g3≠g4) (hnx:0≤nx) (hnx2:nx≤65536)
    (IS:Hid (∀W,W.cell? ⟨b,1,none⟩=some (.slice (some ⟨g1,0,none⟩) lw k1)→W.cell? ⟨g1,qi,none⟩=some (.int .u64 x)→Calls Tryz.prog 135 #[.pointer (some ⟨b,0,none⟩),.int .i64 i] W fun e w'=>e= .returned (.bool true)∧W=w')) (ne:True):
    Calls Tryz.prog 122 #[.pointer (some ⟨b,0,none⟩),.int .i64 i] w fun e W=>e= .returned (.agg #[.int .i64 kx,.int .i64 vx])∧ArrOn B W b g1 g2 g3 g4 k1 k2 k3 k4 lw n lc seg laid (ws.set qi (bits BinOp.andNot IntKind.u64 x (IntKind.u64.wrap (2^r)))) (ks.set i 0) (vs.set i 0) (cs.set s (nx-1))∧KeptA g1 g2 g3 g4 w W:=by
 have y0:=World.block_lt_of_cell? _ _ c0;have y1:=World.block_lt_of_cell? _ _ d1;have y2:=World.block_lt_of_cell? _ _ d2;have y3:=World.block_lt_of_cell? _ _ d3;have y4:=World.block_lt_of_cell? _ _ d4;dsimp only at y0 y1 y2 y3 y4;go_enter Tryz.func122,Tryz.ntmps122
 go_wp2
 have hba:Below w.heap.size w (w.alloc (.cells #[.int .i64 0,.int .i64 0] 91)):=br.alloc (Nat.le_refl _) _;have hz1:(w.alloc (.cells #[.int .i64 0,.int .i64 0] 91)).heap.size=w.heap.size+1:=by simp
 have r0:(w.alloc (.cells #[.int .i64 0,.int .i64 0] 91)).cell? ⟨w.heap.size,0,none⟩=some (.int .i64 0):=xcw;have r1:(w.alloc (.cells #[.int .i64 0,.int .i64 0] 91)).cell? ⟨w.heap.size,1,none⟩=some (.int .i64 0):=xcw;have p0:(w.alloc (.cells #[.int .i64 0,.int .i64 0] 91)).frozen? ⟨w.heap.size,0,none⟩=false:=xcw;have p1:(w.alloc (.cells #[.int .i64 0,.int .i64 0] 91)).frozen? ⟨w.heap.size,1,none⟩=false:=xcw;generalize (w.alloc (.cells #[.int .i64 0,.int .i64 0] 91))=w1 at *;replace c0:w1.cell? ⟨b,0,none⟩=some (.int .i64 seg):=xjc hba c0;replace c1:w1.cell? ⟨b,1,none⟩=some (.slice (some ⟨g1,0,none⟩) lw k1):=xjc hba c1;replace c2:w1.cell? ⟨b,2,none⟩=some (.slice (some ⟨g2,0,none⟩) n k2):=xjc hba c2;replace c3:w1.cell? ⟨b,3,none⟩=some (.slice (some ⟨g3,0,none⟩) n k3):=xjc hba c3;replace c4:w1.cell? ⟨b,4,none⟩=some (.slice (some ⟨g4,0,none⟩) lc k4):=xjc hba c4;replace c5:w1.cell? ⟨b,5,none⟩=some (.int .u64 laid):=xjc hba c5;replace d1:w1.cell? ⟨g1,qi,none⟩=some (.int .u64 x):=xjc hba d1;replace d2:w1.cell? ⟨g2,i,none⟩=some (.int .i64 kx):=xjc hba d2;replace d3:w1.cell? ⟨g3,i,none⟩=some (.int .i64 vx):=xjc hba d3;replace d4:w1.cell? ⟨g4,s,none⟩=some (.int .i64 nx):=xjc hba d4;replace f1:w1.frozen? ⟨g1,qi,none⟩=false:=xjf hba f1;replace f2:w1.frozen? ⟨g2,i,none⟩=false:=xjf hba f2;replace f3:w1.frozen? ⟨g3,i,none⟩=false:=xjf hba f3;replace f4:w1.frozen? ⟨g4,s,none⟩=false:=xjf hba f4;replace f5:w1.frozen? ⟨b,5,none⟩=false:=xjf hba f5;replace O1:=hid (owns_below O1.out hba);replace O2:=hid (owns_below O2.out hba);replace O3:=hid (owns_below O3.out hba);replace O4:=hid (owns_below O4.out hba);have K1:Hid (KeptA g1 g2 g3 g4 w w1):=hid (KeptA.below hba);clear hba;have hiI:(i:Int)<n:=xo;go_still_tail 17,xk
 go_wp2_with fail
 have hk2:∀q,q≠w.heap.size→(((w1.setCell ⟨w.heap.size,0,none⟩ (.int .i64 kx)).setCell ⟨w.heap.size,1,none⟩ (.int .i64 vx)).drew).heap[q]? =w1.heap[q]? :=fun q hq=>(heap_setCell_ne _ _ _ hq).trans (heap_setCell_ne _ _ _ hq)
 have hf2:∀a:Addr,(((w1.setCell ⟨w.heap.size,0,none⟩ (.int .i64 kx)).setCell ⟨w.heap.size,1,none⟩ (.int .i64 vx)).drew).frozen? a=w1.frozen? a:=fun a=>by rw [World.frozen?_drew,World.frozen?_setCell,World.frozen?_setCell]
 replace r0:(((w1.setCell ⟨w.heap.size,0,none⟩ (.int .i64 kx)).setCell ⟨w.heap.size,1,none⟩ (.int .i64 vx)).drew).cell? ⟨w.heap.size,0,none⟩=some (.int .i64 kx):=(set_keep xsi (World.cell?_setCell_same _ _ _ r0))
 replace r1:(((w1.setCell ⟨w.heap.size,0,none⟩ (.int .i64 kx)).setCell ⟨w.heap.size,1,none⟩ (.int .i64 vx)).drew).cell? ⟨w.heap.size,1,none⟩=some (.int .i64 vx):=(World.cell?_setCell_same _ _ _ (set_keep xsi r1))
 have K2:Hid (KeptA g1 g2 g3 g4 w (((w1.setCell ⟨w.heap.size,0,none⟩ (.int .i64 kx)).setCell ⟨w.heap.size,1,none⟩ (.int .i64 vx)).drew)):=hid (K1.out.step xsi rfl rfl rfl fun q hq _ _ _ _=>hk2 q xo);have hz2:(((w1.setCell ⟨w.heap.size,0,none⟩ (.int .i64 kx)).setCell ⟨w.heap.size,1,none⟩ (.int .i64 vx)).drew).heap.size=w1.heap.size:=by simp
 generalize (((w1.setCell ⟨w.heap.size,0,none⟩ (.int .i64 kx)).setCell ⟨w.heap.size,1,none⟩ (.int .i64 vx)).drew)=w2 at *;replace c0:w2.cell? ⟨b,0,none⟩=some (.int .i64 seg):=xob c0 (hk2 b xo);replace c1:w2.cell? ⟨b,1,none⟩=some (.slice (some ⟨g1,0,none⟩) lw k1):=xob c1 (hk2 b xo);replace c2:w2.cell? ⟨b,2,none⟩=some (.slice (some ⟨g2,0,none⟩) n k2):=xob c2 (hk2 b xo);replace c3:w2.cell? ⟨b,3,none⟩=some (.slice (some ⟨g3,0,none⟩) n k3):=xob c3 (hk2 b xo);replace c4:w2.cell? ⟨b,4,none⟩=some (.slice (some ⟨g4,0,none⟩) lc k4):=xob c4 (hk2 b xo);replace c5:w2.cell? ⟨b,5,none⟩=some (.int .u64 laid):=xob c5 (hk2 b xo);replace d1:w2.cell? ⟨g1,qi,none⟩=some (.int .u64 x):=xob d1 (hk2 g1 xo);replace d2:w2.cell? ⟨g2,i,none⟩=some (.int .i64 kx):=xob d2 (hk2 g2 xo);replace d3:w2.cell? ⟨g3,i,none⟩=some (.int .i64 vx):=xob d3 (hk2 g3 xo);replace d4:w2.cell? ⟨g4,s,none⟩=some (.int .i64 nx):=xob d4 (hk2 g4 xo);replace f1:w2.frozen? ⟨g1,qi,none⟩=false:=(hf2 _).trans f1;replace f2:w2.frozen? ⟨g2,i,none⟩=false:=(hf2 _).trans f2;replace f3:w2.frozen? ⟨g3,i,none⟩=false:=(hf2 _).trans f3;replace f4:w2.frozen? ⟨g4,s,none⟩=false:=(hf2 _).trans f4;replace f5:w2.frozen? ⟨b,5,none⟩=false:=(hf2 _).trans f5;replace p0:=(hf2 _).trans p0;replace p1:=(hf2 _).trans p1;replace O1:=hid (owns_heap (W':=w2) O1.out fun j hj=>by cases hj;exact hk2 g1 xo);replace O2:=hid (owns_heap (W':=w2) O2.out fun j hj=>by cases hj;exact hk2 g2 xo);replace O3:=hid (owns_heap (W':=w2) O3.out fun j hj=>by cases hj;exact hk2 g3 xo);replace O4:=hid (owns_heap (W':=w2) O4.out fun j hj=>by cases hj;exact hk2 g4 xo);clear hk2 hf2 K1;refine (IS.out _ c1 d1).mono ?_;rintro e w' ⟨rfl,rfl⟩;have hqI2:(qi:Int)<lw:=xo;have hsI2:(s:Int)<lc:=xo;have hws:IntKind.i64.wrap (s:Int)=(s:Int):=IntWalk.i64_in _ xo;have hwq:IntKind.i64.wrap (qi:Int)=(qi:Int):=IntWalk.i64_in _ xo;have hwr:IntKind.i64.wrap (r:Int)=(r:Int):=IntWalk.i64_in _ xo;have hwn:IntKind.i64.wrap (nx-1)=nx-1:=IntWalk.i64_in _ xo;go_wp2
 go_still_tail 15,xk
 go_wp2
 have hk_w3:∀q,q≠g4→((w2.setCell ⟨g4,s,none⟩ (.int .i64 (nx-1))).drew).heap[q]? =w2.heap[q]? :=fun q hq=>heap_setCell_ne _ _ _ hq
 have hf_w3:∀a:Addr,((w2.setCell ⟨g4,s,none⟩ (.int .i64 (nx-1))).drew).frozen? a=w2.frozen? a:=fun a=>by rw [World.frozen?_drew,World.frozen?_setCell]
 have K3:Hid (KeptA g1 g2 g3 g4 w ((w2.setCell ⟨g4,s,none⟩ (.int .i64 (nx-1))).drew)):=hid (K2.out.step xsi rfl rfl rfl fun q hq h1 h2 h3 h4=>hk_w3 q xo);have hz_w3:((w2.setCell ⟨g4,s,none⟩ (.int .i64 (nx-1))).drew).heap.size=w2.heap.size:=by simp
 have nO4:Hid (((w2.setCell ⟨g4,s,none⟩ (.int .i64 (nx-1))).drew).ownsRow B 3 1 (.slice (some ⟨g4,0,none⟩) lc k4) lc ((cs.set s (nx-1)).map (Value.int .i64))):=hid (owns_drew (own_set O4.out s (nx-1)));generalize ((w2.setCell ⟨g4,s,none⟩ (.int .i64 (nx-1))).drew)=w3 at *;clear d4;replace c0:w3.cell? ⟨b,0,none⟩=some (.int .i64 seg):=xob c0 (hk_w3 b xo);replace c1:w3.cell? ⟨b,1,none⟩=some (.slice (some ⟨g1,0,none⟩) lw k1):=xob c1 (hk_w3 b xo);replace c2:w3.cell? ⟨b,2,none⟩=some (.slice (some ⟨g2,0,none⟩) n k2):=xob c2 (hk_w3 b xo);replace c3:w3.cell? ⟨b,3,none⟩=some (.slice (some ⟨g3,0,none⟩) n k3):=xob c3 (hk_w3 b xo);replace c4:w3.cell? ⟨b,4,none⟩=some (.slice (some ⟨g4,0,none⟩) lc k4):=xob c4 (hk_w3 b xo);replace c5:w3.cell? ⟨b,5,none⟩=some (.int .u64 laid):=xob c5 (hk_w3 b xo);replace d1:w3.cell? ⟨g1,qi,none⟩=some (.int .u64 x):=xob d1 (hk_w3 g1 xo);replace d2:w3.cell? ⟨g2,i,none⟩=some (.int .i64 kx):=xob d2 (hk_w3 g2 xo);replace d3:w3.cell? ⟨g3,i,none⟩=some (.int .i64 vx):=xob d3 (hk_w3 g3 xo);replace f1:w3.frozen? ⟨g1,qi,none⟩=false:=(hf_w3 _).trans f1;replace f2:w3.frozen? ⟨g2,i,none⟩=false:=(hf_w3 _).trans f2;replace f3:w3.frozen? ⟨g3,i,none⟩=false:=(hf_w3 _).trans f3;replace f4:w3.frozen? ⟨g4,s,none⟩=false:=(hf_w3 _).trans f4;replace f5:w3.frozen? ⟨b,5,none⟩=false:=(hf_w3 _).trans f5;replace r0:=xob r0 (hk_w3 w.heap.size xo);replace p0:=(hf_w3 _).trans p0;replace r1:=xob r1 (hk_w3 w.heap.size xo);replace p1:=(hf_w3 _).trans p1;replace O1:=hid (owns_heap (W':=w3) O1.out fun j hj=>by cases hj;exact hk_w3 g1 xo);replace O2:=hid (owns_heap (W':=w3) O2.out fun j hj=>by cases hj;exact hk_w3 g2 xo);replace O3:=hid (owns_heap (W':=w3) O3.out fun j hj=>by cases hj;exact hk_w3 g3 xo);replace O4:=nO4;clear nO4 hk_w3 hf_w3 K2;go_still_tail 13,xk
 go_wp2
 have hk_w4:∀q,q≠g1→((w3.setCell ⟨g1,qi,none⟩ (.int .u64 (bits BinOp.andNot IntKind.u64 x (IntKind.u64.wrap (2^r))))).drew).heap[q]? =w3.heap[q]? :=fun q hq=>heap_setCell_ne _ _ _ hq
 have hf_w4:∀a:Addr,((w3.setCell ⟨g1,qi,none⟩ (.int .u64 (bits BinOp.andNot IntKind.u64 x (IntKind.u64.wrap (2^r))))).drew).frozen? a=w3.frozen? a:=fun a=>by rw [World.frozen?_drew,World.frozen?_setCell]
 have K4:Hid (KeptA g1 g2 g3 g4 w ((w3.setCell ⟨g1,qi,none⟩ (.int .u64 (bits BinOp.andNot IntKind.u64 x (IntKind.u64.wrap (2^r))))).drew)):=hid (K3.out.step xsi rfl rfl rfl fun q hq h1 h2 h3 h4=>hk_w4 q xo);have hz_w4:((w3.setCell ⟨g1,qi,none⟩ (.int .u64 (bits BinOp.andNot IntKind.u64 x (IntKind.u64.wrap (2^r))))).drew).heap.size=w3.heap.size:=by simp
 have nO1:Hid (((w3.setCell ⟨g1,qi,none⟩ (.int .u64 (bits BinOp.andNot IntKind.u64 x (IntKind.u64.wrap (2^r))))).drew).ownsRow B 27 1 (.slice (some ⟨g1,0,none⟩) lw k1) lw ((ws.set qi (bits BinOp.andNot IntKind.u64 x (IntKind.u64.wrap (2^r)))).map (Value.int .u64))):=hid (owns_drew (own_set O1.out qi (bits BinOp.andNot IntKind.u64 x (IntKind.u64.wrap (2^r)))));generalize ((w3.setCell ⟨g1,qi,none⟩ (.int .u64 (bits BinOp.andNot IntKind.u64 x (IntKind.u64.wrap (2^r))))).drew)=w4 at *;clear d1;replace c0:w4.cell? ⟨b,0,none⟩=some (.int .i64 seg):=xob c0 (hk_w4 b xo);replace c1:w4.cell? ⟨b,1,none⟩=some (.slice (some ⟨g1,0,none⟩) lw k1):=xob c1 (hk_w4 b xo);replace c2:w4.cell? ⟨b,2,none⟩=some (.slice (some ⟨g2,0,none⟩) n k2):=xob c2 (hk_w4 b xo);replace c3:w4.cell? ⟨b,3,none⟩=some (.slice (some ⟨g3,0,none⟩) n k3):=xob c3 (hk_w4 b xo);replace c4:w4.cell? ⟨b,4,none⟩=some (.slice (some ⟨g4,0,none⟩) lc k4):=xob c4 (hk_w4 b xo);replace c5:w4.cell? ⟨b,5,none⟩=some (.int .u64 laid):=xob c5 (hk_w4 b xo);replace d2:w4.cell? ⟨g2,i,none⟩=some (.int .i64 kx):=xob d2 (hk_w4 g2 xo);replace d3:w4.cell? ⟨g3,i,none⟩=some (.int .i64 vx):=xob d3 (hk_w4 g3 xo);replace f1:w4.frozen? ⟨g1,qi,none⟩=false:=(hf_w4 _).trans f1;replace f2:w4.frozen? ⟨g2,i,none⟩=false:=(hf_w4 _).trans f2;replace f3:w4.frozen? ⟨g3,i,none⟩=false:=(hf_w4 _).trans f3;replace f4:w4.frozen? ⟨g4,s,none⟩=false:=(hf_w4 _).trans f4;replace f5:w4.frozen? ⟨b,5,none⟩=false:=(hf_w4 _).trans f5;replace r0:=xob r0 (hk_w4 w.heap.size xo);replace p0:=(hf_w4 _).trans p0;replace r1:=xob r1 (hk_w4 w.heap.size xo);replace p1:=(hf_w4 _).trans p1;replace O2:=hid (owns_heap (W':=w4) O2.out fun j hj=>by cases hj;exact hk_w4 g2 xo);replace O3:=hid (owns_heap (W':=w4) O3.out fun j hj=>by cases hj;exact hk_w4 g3 xo);replace O4:=hid (owns_heap (W':=w4) O4.out fun j hj=>by cases hj;exact hk_w4 g4 xo);replace O1:=nO1;clear nO1 hk_w4 hf_w4 K3;obtain ⟨OWo,hOo⟩:∃P:World→Prop,P=fun W=>W.ownsRow B 2 1 (.slice (some ⟨g2,0,none⟩) n k2) n ((ks).map (Value.int .i64)):=⟨_,rfl⟩
 obtain ⟨OWn,hOn⟩:∃P:World→Prop,P=fun W=>W.ownsRow B 2 1 (.slice (some ⟨g2,0,none⟩) n k2) n ((ks.set i 0).map (Value.int .i64)):=⟨_,rfl⟩
 have JIN:Hid (JB g2 w4.drew OWo OWn w4.drew):=hid ⟨fun _ _=>rfl,rfl,⟨rfl,rfl,rfl⟩,.inl (by rw [hOo];exact owns_drew O2.out)⟩;have hkl:ks.length=n:=own_len O2.out;have JST:Hid (∀w',JB g2 w4.drew OWo OWn w'→(∃y,w'.cell? ⟨g2,i,none⟩=some (.int .i64 y))∧w'.frozen? ⟨g2,i,none⟩=false∧JB g2 w4.drew OWo OWn (w'.setCell ⟨g2,i,none⟩ (.int .i64 0))∧OWn (w'.setCell ⟨g2,i,none⟩ (.int .i64 0))):=hid (by
  rintro w' ⟨j1,j2,j4,j3⟩;have key:(∃y,w'.cell? ⟨g2,i,none⟩=some (.int .i64 y))∧w'.frozen? ⟨g2,i,none⟩=false∧OWn (w'.setCell ⟨g2,i,none⟩ (.int .i64 0)):=by
   rcases j3 with j3|j3
   · rw [hOo] at j3;obtain ⟨y0,y1⟩:=own_cell j3 (j:=i) xo;have y2:=own_set j3 i 0;rw [hOn];exact ⟨⟨_,y0⟩,y1,y2⟩
   · rw [hOn] at j3;obtain ⟨y0,y1⟩:=own_cell j3 (j:=i) (by rw [List.length_set];omega);have y2:=own_set j3 i 0;rw [List.set_set] at y2;rw [hOn];exact ⟨⟨_,y0⟩,y1,y2⟩
  exact ⟨key.1,key.2.1,⟨fun q hq=>(heap_setCell_ne _ _ _ hq).trans (j1 q hq),by rw [World.size_setCell];exact j2,j4,.inr key.2.2⟩,key.2.2⟩)
 have HON:=hid hOn;clear hOo hOn d2 f2;refine wp_region_late 14 xk (N:=70) rfl xk xk xdd (fun w'=>JB g2 w4.drew OWo OWn w') (fun W W'=>OWn W→OWn W') (factRAt [.is (.pointer (some ⟨b,0,none⟩)),.is (.pointer (some ⟨b,0,none⟩)),.is (.pointer (some ⟨b,0,none⟩)),.is (.pointer (some ⟨b,2,none⟩)),.is (.slice (some ⟨g2,0,none⟩) n k2),.is (.int .i64 i),.is (.pointer (some ⟨b,0,none⟩)),.is (.pointer (some ⟨b,0,none⟩)),.is (.pointer (some ⟨b,0,none⟩)),.is (.pointer (some ⟨b,3,none⟩)),.is (.slice (some ⟨g3,0,none⟩) n k3),.is (.int .i64 i),.is (.pointer (some ⟨g2,i,none⟩)),.now OWn (fun _ _ h k=>h k)]) (factRAt_stays _) JIN.out ?steps ?fin
 case steps=>
  refine ⟨?o0,?o1,?o2,?o3,?o4,?o5,?o6,?o7,?o8,?o9,?o10,?o11,?o12,?o13,trivial⟩
  case o0=>
   intro u a w' ev hJ hd K hK;have e0:tg a 0= .pointer (some ⟨b,0,none⟩):=ev 0 xdd;have HK:=hid hK;clear hK ev hd;go_simp;exact HK.out _ _ xzc hJ rfl id
  case o1=>
   intro u a w' ev hJ hd K hK;have e55:tg a 55= .pointer (some ⟨b,0,none⟩):=(ev 55 xdd).trans (hd 0 _ xk rfl);have HK:=hid hK;clear hK ev hd;go_simp;exact HK.out _ _ xzc hJ rfl id
  case o2=>
   intro u a w' ev hJ hd K hK;have e56:tg a 56= .pointer (some ⟨b,0,none⟩):=(ev 56 xdd).trans (hd 1 _ xk rfl);have HK:=hid hK;clear hK ev hd;go_simp;exact HK.out _ _ xzc hJ rfl id
  case o3=>
   intro u a w' ev hJ hd K hK;have e57:tg a 57= .pointer (some ⟨b,0,none⟩):=(ev 57 xdd).trans (hd 2 _ xk rfl);have HK:=hid hK;clear hK ev hd;go_simp;exact HK.out _ _ xzc hJ rfl id
  case o4=>
   intro u a w' ev hJ hd K hK;have e58:tg a 58= .pointer (some ⟨b,2,none⟩):=(ev 58 xdd).trans (hd 3 _ xk rfl);have g0:=xob c2 (hJ.1 b xo);have HK:=hid hK;clear hK ev hd;go_simp;exact HK.out _ _ xzc hJ rfl id
  case o5=>
   intro u a w' ev hJ hd K hK;have e1:tg a 1= .int .i64 i:=ev 1 xdd;have HK:=hid hK;clear hK ev hd;go_simp;exact HK.out _ _ xzc hJ rfl id
  case o6=>
   intro u a w' ev hJ hd K hK;have e0:tg a 0= .pointer (some ⟨b,0,none⟩):=ev 0 xdd;have HK:=hid hK;clear hK ev hd;go_simp;exact HK.out _ _ xzc hJ rfl id
  case o7=>
   intro u a w' ev hJ hd K hK;have e61:tg a 61= .pointer (some ⟨b,0,none⟩):=(ev 61 xdd).trans (hd 6 _ xk rfl);have HK:=hid hK;clear hK ev hd;go_simp;exact HK.out _ _ xzc hJ rfl id
  case o8=>
   intro u a w' ev hJ hd K hK;have e62:tg a 62= .pointer (some ⟨b,0,none⟩):=(ev 62 xdd).trans (hd 7 _ xk rfl);have HK:=hid hK;clear hK ev hd;go_simp;exact HK.out _ _ xzc hJ rfl id
  case o9=>
   intro u a w' ev hJ hd K hK;have e63:tg a 63= .pointer (some ⟨b,0,none⟩):=(ev 63 xdd).trans (hd 8 _ xk rfl);have HK:=hid hK;clear hK ev hd;go_simp;exact HK.out _ _ xzc hJ rfl id
  case o10=>
   intro u a w' ev hJ hd K hK;have e64:tg a 64= .pointer (some ⟨b,3,none⟩):=(ev 64 xdd).trans (hd 9 _ xk rfl);have g0:=xob c3 (hJ.1 b xo);have HK:=hid hK;clear hK ev hd;go_simp;exact HK.out _ _ xzc hJ rfl id
  case o11=>
   intro u a w' ev hJ hd K hK;have e1:tg a 1= .int .i64 i:=ev 1 xdd;have HK:=hid hK;clear hK ev hd;go_simp;exact HK.out _ _ xzc hJ rfl id
  case o12=>
   intro u a w' ev hJ hd K hK;have e59:tg a 59= .slice (some ⟨g2,0,none⟩) n k2:=(ev 59 xdd).trans (hd 4 _ xk rfl);have e60:tg a 60= .int .i64 i:=(ev 60 xdd).trans (hd 5 _ xk rfl);have HK:=hid hK;clear hK ev hd;go_simp;exact HK.out _ _ xzc hJ rfl id
  case o13=>
   intro u a w' ev hJ hd K hK;have e67:tg a 67= .pointer (some ⟨g2,i,none⟩):=(ev 67 xdd).trans (hd 12 _ xk rfl);obtain ⟨⟨y,hy⟩,hf,hj⟩:=JST.out w' hJ;have HK:=hid hK;clear hK ev hd;go_simp;exact HK.out _ _ (fun h=>rfl) hj.1 hj.2 (fun _=>hj.2)
 case fin=>
  intro u w7 hJ hG;have h65:u 65= .slice (some ⟨g3,0,none⟩) n k3:=hG 10 _ rfl;have h66:u 66= .int .i64 i:=hG 11 _ rfl;have hnew:OWn w7:=hG 13 _ rfl;rw [HON.out] at hnew;have O27:=hid hnew;have hz7:w7.heap.size=w4.heap.size:=hJ.2.1;have hk7:∀q,q≠g2→w7.heap[q]? =w4.heap[q]? :=hJ.1;have K7:Hid (KeptA g1 g2 g3 g4 w w7):=hid (K4.out.step xo hJ.2.2.1.1 hJ.2.2.1.2.1 hJ.2.2.1.2.2 fun q hq h1 h2 h3 h4=>hk7 q xo);replace c0:w7.cell? ⟨b,0,none⟩=some (.int .i64 seg):=xob c0 (hk7 b xo);replace c1:w7.cell? ⟨b,1,none⟩=some (.slice (some ⟨g1,0,none⟩) lw k1):=xob c1 (hk7 b xo);replace c2:w7.cell? ⟨b,2,none⟩=some (.slice (some ⟨g2,0,none⟩) n k2):=xob c2 (hk7 b xo);replace c3:w7.cell? ⟨b,3,none⟩=some (.slice (some ⟨g3,0,none⟩) n k3):=xob c3 (hk7 b xo);replace c4:w7.cell? ⟨b,4,none⟩=some (.slice (some ⟨g4,0,none⟩) lc k4):=xob c4 (hk7 b xo);replace c5:w7.cell? ⟨b,5,none⟩=some (.int .u64 laid):=xob c5 (hk7 b xo);replace d3:w7.cell? ⟨g3,i,none⟩=some (.int .i64 vx):=xob d3 (hk7 g3 xo);replace f1:w7.frozen? ⟨g1,qi,none⟩=false:=(frozen_of_block (hk7 g1 xo) _).trans f1;replace f3:w7.frozen? ⟨g3,i,none⟩=false:=(frozen_of_block (hk7 g3 xo) _).trans f3;replace f4:w7.frozen? ⟨g4,s,none⟩=false:=(frozen_of_block (hk7 g4 xo) _).trans f4;replace f5:w7.frozen? ⟨b,5,none⟩=false:=(frozen_of_block (hk7 b xo) _).trans f5;replace r0:=xob r0 (hk7 w.heap.size xo);replace p0:=(frozen_of_block (hk7 w.heap.size xo) 0).trans p0;replace r1:=xob r1 (hk7 w.heap.size xo);replace p1:=(frozen_of_block (hk7 w.heap.size xo) 1).trans p1;replace O1:=hid (owns_heap (W':=w7) O1.out fun j hj=>by cases hj;exact hk7 g1 xo);replace O3:=hid (owns_heap (W':=w7) O3.out fun j hj=>by cases hj;exact hk7 g3 xo);replace O4:=hid (owns_heap (W':=w7) O4.out fun j hj=>by cases hj;exact hk7 g4 xo);clear hG hJ hnew hk7 JIN JST K4 O2 HON;simp only [mixFrame,mixL,dstsOf,List.take_succ_cons,List.take_zero,List.filterMap_cons,List.filterMap_nil,List.contains_cons,List.contains_nil,Nat.reduceBEq,Bool.or_false,Bool.false_or,Bool.or_true,Bool.true_or,if_true,if_false,Bool.false_eq_true,Nat.reduceAdd,Nat.zero_add,List.drop_succ_cons,List.drop_zero,h65,h66];go_wp2
  have hkE:∀q,q≠g3→q≠w.heap.size→(((w7.setCell ⟨g3,i,none⟩ (.int .i64 0)).setCell ⟨w.heap.size,0,none⟩ (.int .i64 kx)).setCell ⟨w.heap.size,1,none⟩ (.int .i64 vx)).heap[q]? =w7.heap[q]? :=fun q h1 h2=>by rw [heap_setCell_ne _ _ _ h2,heap_setCell_ne _ _ _ h2,heap_setCell_ne _ _ _ h1]
  have hkR:∀q,q≠w.heap.size→(((w7.setCell ⟨g3,i,none⟩ (.int .i64 0)).setCell ⟨w.heap.size,0,none⟩ (.int .i64 kx)).setCell ⟨w.heap.size,1,none⟩ (.int .i64 vx)).heap[q]? =(w7.setCell ⟨g3,i,none⟩ (.int .i64 0)).heap[q]? :=fun q h2=>by rw [heap_setCell_ne _ _ _ h2,heap_setCell_ne _ _ _ h2]
  refine bodyPost_ret (results_c rfl rfl (run_loadVar_two Tryz.underlying91 rfl xk (v:= .int .i64 kx) (u:= .int .i64 vx) (set_keep xsi (World.cell?_setCell_same _ _ _ (set_keep (by simp<;>omega) r0))) (World.cell?_setCell_same _ _ _ (set_keep xsi (set_keep (by simp<;>omega) r1))))) rfl ⟨rfl,?_,?_⟩
  · refine ⟨?_,?_,?_,?_,?_,?_,?_,?_,?_,?_,?_⟩
    · exact (World.cell?_of_block (a:=⟨b,0,none⟩) (hkE b xo xo)).trans c0
    · exact (World.cell?_of_block (a:=⟨b,1,none⟩) (hkE b xo xo)).trans c1
    · exact (World.cell?_of_block (a:=⟨b,2,none⟩) (hkE b xo xo)).trans c2
    · exact (World.cell?_of_block (a:=⟨b,3,none⟩) (hkE b xo xo)).trans c3
    · exact (World.cell?_of_block (a:=⟨b,4,none⟩) (hkE b xo xo)).trans c4
    · exact (World.cell?_of_block (a:=⟨b,5,none⟩) (hkE b xo xo)).trans c5
    · exact (frozen_of_block (hkE b xo xo) 5).trans f5
    · exact owns_heap O1.out fun j hj=>by cases hj;exact hkE g1 xo xo
    · exact owns_heap O27.out fun j hj=>by cases hj;exact hkE g2 xo xo
    · exact owns_heap (own_set O3.out i 0) fun j hj=>by cases hj;exact hkR g3 xo
    · exact owns_heap O4.out fun j hj=>by cases hj;exact hkE g4 xo xo
  · exact K7.out.step xsi rfl rfl rfl fun q hq h1 h2 h3 h4=>hkE q h3 xo
theorem slTake_clr (w:World) (B b g1 g2 g3 g4 k1 k2 k3 k4 lw n lc i qi r s:Nat) (seg x kx vx nx:Int) (laid:Int) (ws ks vs cs:List Int)
    (c0:w.cell? ⟨b,0,none⟩=some (.int .i64 seg)) (c1:w.cell? ⟨b,1,none⟩=some (.slice (some ⟨g1,0,none⟩) lw k1)) (c2:w.cell? ⟨b,2,none⟩=some (.slice (some ⟨g2,0,none⟩) n k2)) (c3:w.cell? ⟨b,3,none⟩=some (.slice (some ⟨g3,0,none⟩) n k3)) (c4:w.cell? ⟨b,4,none⟩=some (.slice (some ⟨g4,0,none⟩) lc k4)) (c5:w.cell? ⟨b,5,none⟩=some (.int .u64 laid)) (f5:w.frozen? ⟨b,5,none⟩=false)
    (O1:Hid (w.ownsRow B 27 1 (.slice (some ⟨g1,0,none⟩) lw k1) lw ((ws).map (Value.int .u64)))) (O2:Hid (w.ownsRow B 2 1 (.slice (some ⟨g2,0,none⟩) n k2) n ((ks).map (Value.int .i64)))) (O3:Hid (w.ownsRow B 2 1 (.slice (some ⟨g3,0,none⟩) n k3) n ((vs).map (Value.int .i64)))) (O4:Hid (w.ownsRow B 3 1 (.slice (some ⟨g4,0,none⟩) lc k4) lc ((cs).map (Value.int .i64))))
    (d1:w.cell? ⟨g1,qi,none⟩=some (.int .u64 x)) (d2:w.cell? ⟨g2,i,none⟩=some (.int .i64 kx)) (d3:w.cell? ⟨g3,i,none⟩=some (.int .i64 vx)) (d4:w.cell? ⟨g4,s,none⟩=some (.int .i64 nx))
    (f1:w.frozen? ⟨g1,qi,none⟩=false) (f2:w.frozen? ⟨g2,i,none⟩=false) (f3:w.frozen? ⟨g3,i,none⟩=false) (f4:w.frozen? ⟨g4,s,none⟩=false)
    (hin:i<n) (hn:n≤65536) (hqI:(i:Int)/64=qi) (hrI:(i:Int)%64=r) (hrT:(i:Int).tmod 64=r) (hr:r<64) (hqi:qi<lw) (hs:s<lc) (hsI:(i:Int)/seg=s) (hsg:(seg==0)=false) (hsg2:¬seg=0) (hsg3:4≤seg) (hlc:lc≤65536) (hlw:lw≤65536)
    (n1:g1≠b) (n2:g2≠b) (n3:g3≠b) (n4:g4≠b) (n12:g1≠g2) (n13:g1≠g3) (n14:g1≠g4) (n23:g2≠g3) (n24:g2≠g4) (n34:g3≠g4) (hnx:0≤nx) (hnx2:nx≤65536)
    (IS:Hid (∀W,W.cell? ⟨b,1,none⟩=some (.slice (some ⟨g1,0,none⟩) lw k1)→W.cell? ⟨g1,qi,none⟩=some (.int .u64 x)→Calls Tryz.prog 135 #[.pointer (some ⟨b,0,none⟩),.int .i64 i] W fun e w'=>e= .returned (.bool false)∧W=w')) (ne:True):
    Calls Tryz.prog 122 #[.pointer (some ⟨b,0,none⟩),.int .i64 i] w fun e W=>e= .returned (.agg #[.int .i64 kx,.int .i64 vx])∧ArrOn B W b g1 g2 g3 g4 k1 k2 k3 k4 lw n lc seg laid (ws.set qi (bits BinOp.andNot IntKind.u64 x (IntKind.u64.wrap (2^r)))) (ks.set i 0) (vs.set i 0) (cs)∧KeptA g1 g2 g3 g4 w W:=by
 have y0:=World.block_lt_of_cell? _ _ c0;have y1:=World.block_lt_of_cell? _ _ d1;have y2:=World.block_lt_of_cell? _ _ d2;have y3:=World.block_lt_of_cell? _ _ d3;have y4:=World.block_lt_of_cell? _ _ d4;dsimp only at y0 y1 y2 y3 y4;go_enter Tryz.func122,Tryz.ntmps122
 go_wp2
 have hba:Below w.heap.size w (w.alloc (.cells #[.int .i64 0,.int .i64 0] 91)):=br.alloc (Nat.le_refl _) _;have hz1:(w.alloc (.cells #[.int .i64 0,.int .i64 0] 91)).heap.size=w.heap.size+1:=by simp
 have r0:(w.alloc (.cells #[.int .i64 0,.int .i64 0] 91)).cell? ⟨w.heap.size,0,none⟩=some (.int .i64 0):=xcw;have r1:(w.alloc (.cells #[.int .i64 0,.int .i64 0] 91)).cell? ⟨w.heap.size,1,none⟩=some (.int .i64 0):=xcw;have p0:(w.alloc (.cells #[.int .i64 0,.int .i64 0] 91)).frozen? ⟨w.heap.size,0,none⟩=false:=xcw;have p1:(w.alloc (.cells #[.int .i64 0,.int .i64 0] 91)).frozen? ⟨w.heap.size,1,none⟩=false:=xcw;generalize (w.alloc (.cells #[.int .i64 0,.int .i64 0] 91))=w1 at *;replace c0:w1.cell? ⟨b,0,none⟩=some (.int .i64 seg):=xjc hba c0;replace c1:w1.cell? ⟨b,1,none⟩=some (.slice (some ⟨g1,0,none⟩) lw k1):=xjc hba c1;replace c2:w1.cell? ⟨b,2,none⟩=some (.slice (some ⟨g2,0,none⟩) n k2):=xjc hba c2;replace c3:w1.cell? ⟨b,3,none⟩=some (.slice (some ⟨g3,0,none⟩) n k3):=xjc hba c3;replace c4:w1.cell? ⟨b,4,none⟩=some (.slice (some ⟨g4,0,none⟩) lc k4):=xjc hba c4;replace c5:w1.cell? ⟨b,5,none⟩=some (.int .u64 laid):=xjc hba c5;replace d1:w1.cell? ⟨g1,qi,none⟩=some (.int .u64 x):=xjc hba d1;replace d2:w1.cell? ⟨g2,i,none⟩=some (.int .i64 kx):=xjc hba d2;replace d3:w1.cell? ⟨g3,i,none⟩=some (.int .i64 vx):=xjc hba d3;replace d4:w1.cell? ⟨g4,s,none⟩=some (.int .i64 nx):=xjc hba d4;replace f1:w1.frozen? ⟨g1,qi,none⟩=false:=xjf hba f1;replace f2:w1.frozen? ⟨g2,i,none⟩=false:=xjf hba f2;replace f3:w1.frozen? ⟨g3,i,none⟩=false:=xjf hba f3;replace f4:w1.frozen? ⟨g4,s,none⟩=false:=xjf hba f4;replace f5:w1.frozen? ⟨b,5,none⟩=false:=xjf hba f5;replace O1:=hid (owns_below O1.out hba);replace O2:=hid (owns_below O2.out hba);replace O3:=hid (owns_below O3.out hba);replace O4:=hid (owns_below O4.out hba);have K1:Hid (KeptA g1 g2 g3 g4 w w1):=hid (KeptA.below hba);clear hba;have hiI:(i:Int)<n:=xo;go_still_tail 17,xk
 go_wp2_with fail
 have hk2:∀q,q≠w.heap.size→(((w1.setCell ⟨w.heap.size,0,none⟩ (.int .i64 kx)).setCell ⟨w.heap.size,1,none⟩ (.int .i64 vx)).drew).heap[q]? =w1.heap[q]? :=fun q hq=>(heap_setCell_ne _ _ _ hq).trans (heap_setCell_ne _ _ _ hq)
 have hf2:∀a:Addr,(((w1.setCell ⟨w.heap.size,0,none⟩ (.int .i64 kx)).setCell ⟨w.heap.size,1,none⟩ (.int .i64 vx)).drew).frozen? a=w1.frozen? a:=fun a=>by rw [World.frozen?_drew,World.frozen?_setCell,World.frozen?_setCell]
 replace r0:(((w1.setCell ⟨w.heap.size,0,none⟩ (.int .i64 kx)).setCell ⟨w.heap.size,1,none⟩ (.int .i64 vx)).drew).cell? ⟨w.heap.size,0,none⟩=some (.int .i64 kx):=(set_keep xsi (World.cell?_setCell_same _ _ _ r0))
 replace r1:(((w1.setCell ⟨w.heap.size,0,none⟩ (.int .i64 kx)).setCell ⟨w.heap.size,1,none⟩ (.int .i64 vx)).drew).cell? ⟨w.heap.size,1,none⟩=some (.int .i64 vx):=(World.cell?_setCell_same _ _ _ (set_keep xsi r1))
 have K2:Hid (KeptA g1 g2 g3 g4 w (((w1.setCell ⟨w.heap.size,0,none⟩ (.int .i64 kx)).setCell ⟨w.heap.size,1,none⟩ (.int .i64 vx)).drew)):=hid (K1.out.step xsi rfl rfl rfl fun q hq _ _ _ _=>hk2 q xo);have hz2:(((w1.setCell ⟨w.heap.size,0,none⟩ (.int .i64 kx)).setCell ⟨w.heap.size,1,none⟩ (.int .i64 vx)).drew).heap.size=w1.heap.size:=by simp
 generalize (((w1.setCell ⟨w.heap.size,0,none⟩ (.int .i64 kx)).setCell ⟨w.heap.size,1,none⟩ (.int .i64 vx)).drew)=w2 at *;replace c0:w2.cell? ⟨b,0,none⟩=some (.int .i64 seg):=xob c0 (hk2 b xo);replace c1:w2.cell? ⟨b,1,none⟩=some (.slice (some ⟨g1,0,none⟩) lw k1):=xob c1 (hk2 b xo);replace c2:w2.cell? ⟨b,2,none⟩=some (.slice (some ⟨g2,0,none⟩) n k2):=xob c2 (hk2 b xo);replace c3:w2.cell? ⟨b,3,none⟩=some (.slice (some ⟨g3,0,none⟩) n k3):=xob c3 (hk2 b xo);replace c4:w2.cell? ⟨b,4,none⟩=some (.slice (some ⟨g4,0,none⟩) lc k4):=xob c4 (hk2 b xo);replace c5:w2.cell? ⟨b,5,none⟩=some (.int .u64 laid):=xob c5 (hk2 b xo);replace d1:w2.cell? ⟨g1,qi,none⟩=some (.int .u64 x):=xob d1 (hk2 g1 xo);replace d2:w2.cell? ⟨g2,i,none⟩=some (.int .i64 kx):=xob d2 (hk2 g2 xo);replace d3:w2.cell? ⟨g3,i,none⟩=some (.int .i64 vx):=xob d3 (hk2 g3 xo);replace d4:w2.cell? ⟨g4,s,none⟩=some (.int .i64 nx):=xob d4 (hk2 g4 xo);replace f1:w2.frozen? ⟨g1,qi,none⟩=false:=(hf2 _).trans f1;replace f2:w2.frozen? ⟨g2,i,none⟩=false:=(hf2 _).trans f2;replace f3:w2.frozen? ⟨g3,i,none⟩=false:=(hf2 _).trans f3;replace f4:w2.frozen? ⟨g4,s,none⟩=false:=(hf2 _).trans f4;replace f5:w2.frozen? ⟨b,5,none⟩=false:=(hf2 _).trans f5;replace p0:=(hf2 _).trans p0;replace p1:=(hf2 _).trans p1;replace O1:=hid (owns_heap (W':=w2) O1.out fun j hj=>by cases hj;exact hk2 g1 xo);replace O2:=hid (owns_heap (W':=w2) O2.out fun j hj=>by cases hj;exact hk2 g2 xo);replace O3:=hid (owns_heap (W':=w2) O3.out fun j hj=>by cases hj;exact hk2 g3 xo);replace O4:=hid (owns_heap (W':=w2) O4.out fun j hj=>by cases hj;exact hk2 g4 xo);clear hk2 hf2 K1;refine (IS.out _ c1 d1).mono ?_;rintro e w' ⟨rfl,rfl⟩;have hqI2:(qi:Int)<lw:=xo;have hsI2:(s:Int)<lc:=xo;have hws:IntKind.i64.wrap (s:Int)=(s:Int):=IntWalk.i64_in _ xo;have hwq:IntKind.i64.wrap (qi:Int)=(qi:Int):=IntWalk.i64_in _ xo;have hwr:IntKind.i64.wrap (r:Int)=(r:Int):=IntWalk.i64_in _ xo;have hwn:IntKind.i64.wrap (nx-1)=nx-1:=IntWalk.i64_in _ xo;go_wp2
 go_still_tail 13,xk
 go_wp2
 have hk_w4:∀q,q≠g1→((w2.setCell ⟨g1,qi,none⟩ (.int .u64 (bits BinOp.andNot IntKind.u64 x (IntKind.u64.wrap (2^r))))).drew).heap[q]? =w2.heap[q]? :=fun q hq=>heap_setCell_ne _ _ _ hq
 have hf_w4:∀a:Addr,((w2.setCell ⟨g1,qi,none⟩ (.int .u64 (bits BinOp.andNot IntKind.u64 x (IntKind.u64.wrap (2^r))))).drew).frozen? a=w2.frozen? a:=fun a=>by rw [World.frozen?_drew,World.frozen?_setCell]
 have K4:Hid (KeptA g1 g2 g3 g4 w ((w2.setCell ⟨g1,qi,none⟩ (.int .u64 (bits BinOp.andNot IntKind.u64 x (IntKind.u64.wrap (2^r))))).drew)):=hid (K2.out.step xsi rfl rfl rfl fun q hq h1 h2 h3 h4=>hk_w4 q xo);have hz_w4:((w2.setCell ⟨g1,qi,none⟩ (.int .u64 (bits BinOp.andNot IntKind.u64 x (IntKind.u64.wrap (2^r))))).drew).heap.size=w2.heap.size:=by simp
 have nO1:Hid (((w2.setCell ⟨g1,qi,none⟩ (.int .u64 (bits BinOp.andNot IntKind.u64 x (IntKind.u64.wrap (2^r))))).drew).ownsRow B 27 1 (.slice (some ⟨g1,0,none⟩) lw k1) lw ((ws.set qi (bits BinOp.andNot IntKind.u64 x (IntKind.u64.wrap (2^r)))).map (Value.int .u64))):=hid (owns_drew (own_set O1.out qi (bits BinOp.andNot IntKind.u64 x (IntKind.u64.wrap (2^r)))));generalize ((w2.setCell ⟨g1,qi,none⟩ (.int .u64 (bits BinOp.andNot IntKind.u64 x (IntKind.u64.wrap (2^r))))).drew)=w4 at *;clear d1;replace c0:w4.cell? ⟨b,0,none⟩=some (.int .i64 seg):=xob c0 (hk_w4 b xo);replace c1:w4.cell? ⟨b,1,none⟩=some (.slice (some ⟨g1,0,none⟩) lw k1):=xob c1 (hk_w4 b xo);replace c2:w4.cell? ⟨b,2,none⟩=some (.slice (some ⟨g2,0,none⟩) n k2):=xob c2 (hk_w4 b xo);replace c3:w4.cell? ⟨b,3,none⟩=some (.slice (some ⟨g3,0,none⟩) n k3):=xob c3 (hk_w4 b xo);replace c4:w4.cell? ⟨b,4,none⟩=some (.slice (some ⟨g4,0,none⟩) lc k4):=xob c4 (hk_w4 b xo);replace c5:w4.cell? ⟨b,5,none⟩=some (.int .u64 laid):=xob c5 (hk_w4 b xo);replace d2:w4.cell? ⟨g2,i,none⟩=some (.int .i64 kx):=xob d2 (hk_w4 g2 xo);replace d3:w4.cell? ⟨g3,i,none⟩=some (.int .i64 vx):=xob d3 (hk_w4 g3 xo);replace d4:w4.cell? ⟨g4,s,none⟩=some (.int .i64 nx):=xob d4 (hk_w4 g4 xo);replace f1:w4.frozen? ⟨g1,qi,none⟩=false:=(hf_w4 _).trans f1;replace f2:w4.frozen? ⟨g2,i,none⟩=false:=(hf_w4 _).trans f2;replace f3:w4.frozen? ⟨g3,i,none⟩=false:=(hf_w4 _).trans f3;replace f4:w4.frozen? ⟨g4,s,none⟩=false:=(hf_w4 _).trans f4;replace f5:w4.frozen? ⟨b,5,none⟩=false:=(hf_w4 _).trans f5;replace r0:=xob r0 (hk_w4 w.heap.size xo);replace p0:=(hf_w4 _).trans p0;replace r1:=xob r1 (hk_w4 w.heap.size xo);replace p1:=(hf_w4 _).trans p1;replace O2:=hid (owns_heap (W':=w4) O2.out fun j hj=>by cases hj;exact hk_w4 g2 xo);replace O3:=hid (owns_heap (W':=w4) O3.out fun j hj=>by cases hj;exact hk_w4 g3 xo);replace O4:=hid (owns_heap (W':=w4) O4.out fun j hj=>by cases hj;exact hk_w4 g4 xo);replace O1:=nO1;clear nO1 hk_w4 hf_w4 K2;obtain ⟨OWo,hOo⟩:∃P:World→Prop,P=fun W=>W.ownsRow B 2 1 (.slice (some ⟨g2,0,none⟩) n k2) n ((ks).map (Value.int .i64)):=⟨_,rfl⟩
 obtain ⟨OWn,hOn⟩:∃P:World→Prop,P=fun W=>W.ownsRow B 2 1 (.slice (some ⟨g2,0,none⟩) n k2) n ((ks.set i 0).map (Value.int .i64)):=⟨_,rfl⟩
 have JIN:Hid (JB g2 w4.drew OWo OWn w4.drew):=hid ⟨fun _ _=>rfl,rfl,⟨rfl,rfl,rfl⟩,.inl (by rw [hOo];exact owns_drew O2.out)⟩;have hkl:ks.length=n:=own_len O2.out;have JST:Hid (∀w',JB g2 w4.drew OWo OWn w'→(∃y,w'.cell? ⟨g2,i,none⟩=some (.int .i64 y))∧w'.frozen? ⟨g2,i,none⟩=false∧JB g2 w4.drew OWo OWn (w'.setCell ⟨g2,i,none⟩ (.int .i64 0))∧OWn (w'.setCell ⟨g2,i,none⟩ (.int .i64 0))):=hid (by
  rintro w' ⟨j1,j2,j4,j3⟩;have key:(∃y,w'.cell? ⟨g2,i,none⟩=some (.int .i64 y))∧w'.frozen? ⟨g2,i,none⟩=false∧OWn (w'.setCell ⟨g2,i,none⟩ (.int .i64 0)):=by
   rcases j3 with j3|j3
   · rw [hOo] at j3;obtain ⟨y0,y1⟩:=own_cell j3 (j:=i) xo;have y2:=own_set j3 i 0;rw [hOn];exact ⟨⟨_,y0⟩,y1,y2⟩
   · rw [hOn] at j3;obtain ⟨y0,y1⟩:=own_cell j3 (j:=i) (by rw [List.length_set];omega);have y2:=own_set j3 i 0;rw [List.set_set] at y2;rw [hOn];exact ⟨⟨_,y0⟩,y1,y2⟩
  exact ⟨key.1,key.2.1,⟨fun q hq=>(heap_setCell_ne _ _ _ hq).trans (j1 q hq),by rw [World.size_setCell];exact j2,j4,.inr key.2.2⟩,key.2.2⟩)
 have HON:=hid hOn;clear hOo hOn d2 f2;refine wp_region_late 14 xk (N:=70) rfl xk xk xdd (fun w'=>JB g2 w4.drew OWo OWn w') (fun W W'=>OWn W→OWn W') (factRAt [.is (.pointer (some ⟨b,0,none⟩)),.is (.pointer (some ⟨b,0,none⟩)),.is (.pointer (some ⟨b,0,none⟩)),.is (.pointer (some ⟨b,2,none⟩)),.is (.slice (some ⟨g2,0,none⟩) n k2),.is (.int .i64 i),.is (.pointer (some ⟨b,0,none⟩)),.is (.pointer (some ⟨b,0,none⟩)),.is (.pointer (some ⟨b,0,none⟩)),.is (.pointer (some ⟨b,3,none⟩)),.is (.slice (some ⟨g3,0,none⟩) n k3),.is (.int .i64 i),.is (.pointer (some ⟨g2,i,none⟩)),.now OWn (fun _ _ h k=>h k)]) (factRAt_stays _) JIN.out ?steps ?fin
 case steps=>
  refine ⟨?o0,?o1,?o2,?o3,?o4,?o5,?o6,?o7,?o8,?o9,?o10,?o11,?o12,?o13,trivial⟩
  case o0=>
   intro u a w' ev hJ hd K hK;have e0:tg a 0= .pointer (some ⟨b,0,none⟩):=ev 0 xdd;have HK:=hid hK;clear hK ev hd;go_simp;exact HK.out _ _ xzc hJ rfl id
  case o1=>
   intro u a w' ev hJ hd K hK;have e55:tg a 55= .pointer (some ⟨b,0,none⟩):=(ev 55 xdd).trans (hd 0 _ xk rfl);have HK:=hid hK;clear hK ev hd;go_simp;exact HK.out _ _ xzc hJ rfl id
  case o2=>
   intro u a w' ev hJ hd K hK;have e56:tg a 56= .pointer (some ⟨b,0,none⟩):=(ev 56 xdd).trans (hd 1 _ xk rfl);have HK:=hid hK;clear hK ev hd;go_simp;exact HK.out _ _ xzc hJ rfl id
  case o3=>
   intro u a w' ev hJ hd K hK;have e57:tg a 57= .pointer (some ⟨b,0,none⟩):=(ev 57 xdd).trans (hd 2 _ xk rfl);have HK:=hid hK;clear hK ev hd;go_simp;exact HK.out _ _ xzc hJ rfl id
  case o4=>
   intro u a w' ev hJ hd K hK;have e58:tg a 58= .pointer (some ⟨b,2,none⟩):=(ev 58 xdd).trans (hd 3 _ xk rfl);have g0:=xob c2 (hJ.1 b xo);have HK:=hid hK;clear hK ev hd;go_simp;exact HK.out _ _ xzc hJ rfl id
  case o5=>
   intro u a w' ev hJ hd K hK;have e1:tg a 1= .int .i64 i:=ev 1 xdd;have HK:=hid hK;clear hK ev hd;go_simp;exact HK.out _ _ xzc hJ rfl id
  case o6=>
   intro u a w' ev hJ hd K hK;have e0:tg a 0= .pointer (some ⟨b,0,none⟩):=ev 0 xdd;have HK:=hid hK;clear hK ev hd;go_simp;exact HK.out _ _ xzc hJ rfl id
  case o7=>
   intro u a w' ev hJ hd K hK;have e61:tg a 61= .pointer (some ⟨b,0,none⟩):=(ev 61 xdd).trans (hd 6 _ xk rfl);have HK:=hid hK;clear hK ev hd;go_simp;exact HK.out _ _ xzc hJ rfl id
  case o8=>
   intro u a w' ev hJ hd K hK;have e62:tg a 62= .pointer (some ⟨b,0,none⟩):=(ev 62 xdd).trans (hd 7 _ xk rfl);have HK:=hid hK;clear hK ev hd;go_simp;exact HK.out _ _ xzc hJ rfl id
  case o9=>
   intro u a w' ev hJ hd K hK;have e63:tg a 63= .pointer (some ⟨b,0,none⟩):=(ev 63 xdd).trans (hd 8 _ xk rfl);have HK:=hid hK;clear hK ev hd;go_simp;exact HK.out _ _ xzc hJ rfl id
  case o10=>
   intro u a w' ev hJ hd K hK;have e64:tg a 64= .pointer (some ⟨b,3,none⟩):=(ev 64 xdd).trans (hd 9 _ xk rfl);have g0:=xob c3 (hJ.1 b xo);have HK:=hid hK;clear hK ev hd;go_simp;exact HK.out _ _ xzc hJ rfl id
  case o11=>
   intro u a w' ev hJ hd K hK;have e1:tg a 1= .int .i64 i:=ev 1 xdd;have HK:=hid hK;clear hK ev hd;go_simp;exact HK.out _ _ xzc hJ rfl id
  case o12=>
   intro u a w' ev hJ hd K hK;have e59:tg a 59= .slice (some ⟨g2,0,none⟩) n k2:=(ev 59 xdd).trans (hd 4 _ xk rfl);have e60:tg a 60= .int .i64 i:=(ev 60 xdd).trans (hd 5 _ xk rfl);have HK:=hid hK;clear hK ev hd;go_simp;exact HK.out _ _ xzc hJ rfl id
  case o13=>
   intro u a w' ev hJ hd K hK;have e67:tg a 67= .pointer (some ⟨g2,i,none⟩):=(ev 67 xdd).trans (hd 12 _ xk rfl);obtain ⟨⟨y,hy⟩,hf,hj⟩:=JST.out w' hJ;have HK:=hid hK;clear hK ev hd;go_simp;exact HK.out _ _ (fun h=>rfl) hj.1 hj.2 (fun _=>hj.2)
 case fin=>
  intro u w7 hJ hG;have h65:u 65= .slice (some ⟨g3,0,none⟩) n k3:=hG 10 _ rfl;have h66:u 66= .int .i64 i:=hG 11 _ rfl;have hnew:OWn w7:=hG 13 _ rfl;rw [HON.out] at hnew;have O27:=hid hnew;have hz7:w7.heap.size=w4.heap.size:=hJ.2.1;have hk7:∀q,q≠g2→w7.heap[q]? =w4.heap[q]? :=hJ.1;have K7:Hid (KeptA g1 g2 g3 g4 w w7):=hid (K4.out.step xo hJ.2.2.1.1 hJ.2.2.1.2.1 hJ.2.2.1.2.2 fun q hq h1 h2 h3 h4=>hk7 q xo);replace c0:w7.cell? ⟨b,0,none⟩=some (.int .i64 seg):=xob c0 (hk7 b xo);replace c1:w7.cell? ⟨b,1,none⟩=some (.slice (some ⟨g1,0,none⟩) lw k1):=xob c1 (hk7 b xo);replace c2:w7.cell? ⟨b,2,none⟩=some (.slice (some ⟨g2,0,none⟩) n k2):=xob c2 (hk7 b xo);replace c3:w7.cell? ⟨b,3,none⟩=some (.slice (some ⟨g3,0,none⟩) n k3):=xob c3 (hk7 b xo);replace c4:w7.cell? ⟨b,4,none⟩=some (.slice (some ⟨g4,0,none⟩) lc k4):=xob c4 (hk7 b xo);replace c5:w7.cell? ⟨b,5,none⟩=some (.int .u64 laid):=xob c5 (hk7 b xo);replace d3:w7.cell? ⟨g3,i,none⟩=some (.int .i64 vx):=xob d3 (hk7 g3 xo);replace d4:w7.cell? ⟨g4,s,none⟩=some (.int .i64 nx):=xob d4 (hk7 g4 xo);replace f1:w7.frozen? ⟨g1,qi,none⟩=false:=(frozen_of_block (hk7 g1 xo) _).trans f1;replace f3:w7.frozen? ⟨g3,i,none⟩=false:=(frozen_of_block (hk7 g3 xo) _).trans f3;replace f4:w7.frozen? ⟨g4,s,none⟩=false:=(frozen_of_block (hk7 g4 xo) _).trans f4;replace f5:w7.frozen? ⟨b,5,none⟩=false:=(frozen_of_block (hk7 b xo) _).trans f5;replace r0:=xob r0 (hk7 w.heap.size xo);replace p0:=(frozen_of_block (hk7 w.heap.size xo) 0).trans p0;replace r1:=xob r1 (hk7 w.heap.size xo);replace p1:=(frozen_of_block (hk7 w.heap.size xo) 1).trans p1;replace O1:=hid (owns_heap (W':=w7) O1.out fun j hj=>by cases hj;exact hk7 g1 xo);replace O3:=hid (owns_heap (W':=w7) O3.out fun j hj=>by cases hj;exact hk7 g3 xo);replace O4:=hid (owns_heap (W':=w7) O4.out fun j hj=>by cases hj;exact hk7 g4 xo);clear hG hJ hnew hk7 JIN JST K4 O2 HON;simp only [mixFrame,mixL,dstsOf,List.take_succ_cons,List.take_zero,List.filterMap_cons,List.filterMap_nil,List.contains_cons,List.contains_nil,Nat.reduceBEq,Bool.or_false,Bool.false_or,Bool.or_true,Bool.true_or,if_true,if_false,Bool.false_eq_true,Nat.reduceAdd,Nat.zero_add,List.drop_succ_cons,List.drop_zero,h65,h66];go_wp2
  have hkE:∀q,q≠g3→q≠w.heap.size→(((w7.setCell ⟨g3,i,none⟩ (.int .i64 0)).setCell ⟨w.heap.size,0,none⟩ (.int .i64 kx)).setCell ⟨w.heap.size,1,none⟩ (.int .i64 vx)).heap[q]? =w7.heap[q]? :=fun q h1 h2=>by rw [heap_setCell_ne _ _ _ h2,heap_setCell_ne _ _ _ h2,heap_setCell_ne _ _ _ h1]
  have hkR:∀q,q≠w.heap.size→(((w7.setCell ⟨g3,i,none⟩ (.int .i64 0)).setCell ⟨w.heap.size,0,none⟩ (.int .i64 kx)).setCell ⟨w.heap.size,1,none⟩ (.int .i64 vx)).heap[q]? =(w7.setCell ⟨g3,i,none⟩ (.int .i64 0)).heap[q]? :=fun q h2=>by rw [heap_setCell_ne _ _ _ h2,heap_setCell_ne _ _ _ h2]
  refine bodyPost_ret (results_c rfl rfl (run_loadVar_two Tryz.underlying91 rfl xk (v:= .int .i64 kx) (u:= .int .i64 vx) (set_keep xsi (World.cell?_setCell_same _ _ _ (set_keep (by simp<;>omega) r0))) (World.cell?_setCell_same _ _ _ (set_keep xsi (set_keep (by simp<;>omega) r1))))) rfl ⟨rfl,?_,?_⟩
  · refine ⟨?_,?_,?_,?_,?_,?_,?_,?_,?_,?_,?_⟩
    · exact (World.cell?_of_block (a:=⟨b,0,none⟩) (hkE b xo xo)).trans c0
    · exact (World.cell?_of_block (a:=⟨b,1,none⟩) (hkE b xo xo)).trans c1
    · exact (World.cell?_of_block (a:=⟨b,2,none⟩) (hkE b xo xo)).trans c2
    · exact (World.cell?_of_block (a:=⟨b,3,none⟩) (hkE b xo xo)).trans c3
    · exact (World.cell?_of_block (a:=⟨b,4,none⟩) (hkE b xo xo)).trans c4
    · exact (World.cell?_of_block (a:=⟨b,5,none⟩) (hkE b xo xo)).trans c5
    · exact (frozen_of_block (hkE b xo xo) 5).trans f5
    · exact owns_heap O1.out fun j hj=>by cases hj;exact hkE g1 xo xo
    · exact owns_heap O27.out fun j hj=>by cases hj;exact hkE g2 xo xo
    · exact owns_heap (own_set O3.out i 0) fun j hj=>by cases hj;exact hkR g3 xo
    · exact owns_heap O4.out fun j hj=>by cases hj;exact hkE g4 xo xo
  · exact K7.out.step xsi rfl rfl rfl fun q hq h1 h2 h3 h4=>hkE q h3 xo
end
section
open Go.RowKit
theorem is_cell (b g1 lw k1 i q r:Nat) (x:Int) (hx0:0≤x) (hx1:x<18446744073709551616) (hqI:(i:Int)/64=q) (hrI:(i:Int)%64=r) (hr64:r<64) (hi:q<lw) (hlw:lw≤65536) (hi2:i≤65536) (bt:Bool) (hbt:bitI x r=bt) (w:World) (c1:w.cell? ⟨b,1,none⟩=some (.slice (some ⟨g1,0,none⟩) lw k1)) (hc:w.cell? ⟨g1,q,none⟩=some (.int .u64 x)):
    Calls Tryz.prog 135 #[.pointer (some ⟨b,0,none⟩),.int .i64 i] w fun e w'=>e= .returned (.bool bt)∧w=w':=by
 have hand:=bitI_and hx0 hx1 r;rw [hbt] at hand;clear hbt;cases bt with
 | true=>
  rw [if_pos rfl] at hand;go_enter Tryz.func135,Tryz.ntmps135
  go_wp2
  go_ret
  exact ⟨rfl,rfl⟩
 | false=>
  rw [if_neg xdd] at hand;go_enter Tryz.func135,Tryz.ntmps135
  go_wp2
  go_ret
  exact ⟨rfl,rfl⟩
def clrX (x:Int) (r:Nat):Int:=bits BinOp.andNot IntKind.u64 x (IntKind.u64.wrap (2^r))
def setX (x:Int) (r:Nat):Int:=bits BinOp.or IntKind.u64 x (IntKind.u64.wrap (2^r))
def clrL (ws:List Int) (i:Nat):List Int:=ws.set (i/64) (clrX (ws.getD (i/64) 0) (i%64))
def setL (ws:List Int) (i:Nat):List Int:=ws.set (i/64) (setX (ws.getD (i/64) 0) (i%64))
structure ArrNe (b g1 g2 g3 g4:Nat):Prop where
 n1:g1≠b
 n2:g2≠b
 n3:g3≠b
 n4:g4≠b
 n12:g1≠g2
 n13:g1≠g3
 n14:g1≠g4
 n23:g2≠g3
 n24:g2≠g4
 n34:g3≠g4
theorem slTake_ok (w:World) (B b g1 g2 g3 g4 k1 k2 k3 k4 lw n lc i S:Nat) (seg laid:Int) (ws ks vs cs:List Int) (h:ArrOn B w b g1 g2 g3 g4 k1 k2 k3 k4 lw n lc seg laid ws ks vs cs) (hne:ArrNe b g1 g2 g3 g4) (hu:U64s ws) (hin:i<n) (hn:n≤65536) (hq:i/64<lw) (hlw:lw≤65536) (hS:seg=S) (hS4:4≤S) (hs:i/S<lc) (hlc:lc≤65536) (hcs:∀k,0≤cs.getD k 0∧cs.getD k 0≤65536):
    Calls Tryz.prog 122 #[.pointer (some ⟨b,0,none⟩),.int .i64 i] w fun e W=>e= .returned (.agg #[.int .i64 (ks.getD i 0),.int .i64 (vs.getD i 0)])∧
      ArrOn B W b g1 g2 g3 g4 k1 k2 k3 k4 lw n lc seg laid (clrL ws i) (ks.set i 0) (vs.set i 0) (if bitW ws i=true then cs.set (i/S) (cs.getD (i/S) 0-1) else cs)∧KeptA g1 g2 g3 g4 w W:=by
 have hl1:=own_len h.o1;have hl2:=own_len h.o2;have hl3:=own_len h.o3;have hl4:=own_len h.o4;obtain ⟨d1,f1⟩:=own_cell h.o1 (j:=i/64) xo;obtain ⟨d2,f2⟩:=own_cell h.o2 (j:=i) xo;obtain ⟨d3,f3⟩:=own_cell h.o3 (j:=i) xo;obtain ⟨d4,f4⟩:=own_cell h.o4 (j:=i/S) xo;have hx:=hu.get (i/64);have hy:=hcs (i/S);have hsI:(i:Int)/seg=(i/S:Nat):=by rw [hS];push_cast;rfl
 have hrT:(i:Int).tmod 64=(i%64:Nat):=by rw [Int.tmod_eq_emod_of_nonneg xo];omega
 by_cases hb:bitW ws i=true
 · rw [if_pos hb];exact slTake_set w B b g1 g2 g3 g4 k1 k2 k3 k4 lw n lc i (i/64) (i%64) (i/S) seg _ _ _ _ laid ws ks vs cs h.c0 h.c1 h.c2 h.c3 h.c4 h.c5 h.f5 (hid h.o1) (hid h.o2) (hid h.o3) (hid h.o4) d1 d2 d3 d4 f1 f2 f3 f4 hin hn xo xo hrT xo hq hs hsI (by simp;omega) xo xo hlc hlw hne.n1 hne.n2 hne.n3 hne.n4 hne.n12 hne.n13 hne.n14 hne.n23 hne.n24 hne.n34 hy.1 hy.2
     (hid fun W c1 hc=>is_cell b g1 lw k1 i (i/64) (i%64) _ hx.1 hx.2 xo xo xo hq hlw xo true hb W c1 hc) trivial
 · have hb':bitW ws i=false:=by simpa using hb
   rw [if_neg hb];exact slTake_clr w B b g1 g2 g3 g4 k1 k2 k3 k4 lw n lc i (i/64) (i%64) (i/S) seg _ _ _ _ laid ws ks vs cs h.c0 h.c1 h.c2 h.c3 h.c4 h.c5 h.f5 (hid h.o1) (hid h.o2) (hid h.o3) (hid h.o4) d1 d2 d3 d4 f1 f2 f3 f4 hin hn xo xo hrT xo hq hs hsI (by simp;omega) xo xo hlc hlw hne.n1 hne.n2 hne.n3 hne.n4 hne.n12 hne.n13 hne.n14 hne.n23 hne.n24 hne.n34 hy.1 hy.2
     (hid fun W c1 hc=>is_cell b g1 lw k1 i (i/64) (i%64) _ hx.1 hx.2 xo xo xo hq hlw xo false hb' W c1 hc) trivial
end
section
open Go.RowKit Go.Shelf
attribute [local go_sem] Oper.semAt_some
structure Kept5 (b g1 g2 g3 g4:Nat) (w W:World):Prop where
 os:W.os=w.os
 tape:W.tape=w.tape
 output:W.output=w.output
 size:w.heap.size≤W.heap.size
 block:∀q,q<w.heap.size→q≠b→q≠g1→q≠g2→q≠g3→q≠g4→W.heap[q]? =w.heap[q]?
theorem Kept5.of {b g1 g2 g3 g4:Nat} {w W W':World} (h:Below w.heap.size w W) (k:KeptA g1 g2 g3 g4 W W'):Kept5 b g1 g2 g3 g4 w W':=
  ⟨k.os.trans h.os,k.tape.trans h.tape,k.output.trans h.output,Nat.le_trans h.size k.size,fun q hq _ h1 h2 h3 h4=>(k.block q (Nat.lt_of_lt_of_le hq h.size) h1 h2 h3 h4).trans (h.block q hq)⟩
theorem Kept5.step {b g1 g2 g3 g4:Nat} {w W W':World} (h:Kept5 b g1 g2 g3 g4 w W) (h0:W'.heap.size=W.heap.size) (h1:W'.os=W.os) (h2:W'.tape=W.tape) (h3:W'.output=W.output) (hb:∀q,q<w.heap.size→q≠b→q≠g1→q≠g2→q≠g3→q≠g4→W'.heap[q]? =W.heap[q]?):Kept5 b g1 g2 g3 g4 w W':=
  ⟨h1.trans h.os,h2.trans h.tape,h3.trans h.output,by rw [h0];exact h.size,fun q hq z a b c d=>(hb q hq z a b c d).trans (h.block q hq z a b c d)⟩
theorem slLay_core (w:World) (B b g1 g2 g3 g4 k1 k2 k3 k4 lw n lc i qi r s:Nat) (seg x nx:Int) (laid key val:Int) (ws ks vs cs:List Int) (y0:b<w.heap.size) (y1:g1<w.heap.size) (y2:g2<w.heap.size) (y3:g3<w.heap.size) (y4:g4<w.heap.size)
    (hin:i<n) (hn:n≤65536) (hqI:(i:Int)/64=qi) (hrI:(i:Int)%64=r) (hrT:(i:Int).tmod 64=r) (hr:r<64) (hqi:qi<lw) (hs:s<lc) (hsI:(i:Int)/seg=s) (hsg:(seg==0)=false) (hsg2:¬seg=0) (hsg3:4≤seg) (hlc:lc≤65536) (hlw:lw≤65536)
    (n1:g1≠b) (n2:g2≠b) (n3:g3≠b) (n4:g4≠b) (n12:g1≠g2) (n13:g1≠g3) (n14:g1≠g4) (n23:g2≠g3) (n24:g2≠g4) (n34:g3≠g4) (hx:ws.getD qi 0=x) (hnxx:cs.getD s 0=nx) (hnx: -1≤nx) (hnx2:nx≤65536)
    (TK:Hid (∀W,Below w.heap.size w W→Calls Tryz.prog 122 #[.pointer (some ⟨b,0,none⟩),.int .i64 i] W fun e W'=>(∃v,e= .returned v)∧ArrOn B W' b g1 g2 g3 g4 k1 k2 k3 k4 lw n lc seg laid ws ks vs cs∧KeptA g1 g2 g3 g4 W W')):
    Calls Tryz.prog 178 #[.pointer (some ⟨b,0,none⟩),.int .i64 i,.agg #[.int .i64 key,.int .i64 val]] w fun e W=>e= .returned (.tuple #[])∧ArrOn B W b g1 g2 g3 g4 k1 k2 k3 k4 lw n lc seg (IntKind.u64.wrap (laid+1)) (ws.set qi (bits BinOp.or IntKind.u64 x (IntKind.u64.wrap (2^r)))) (ks.set i key) (vs.set i val) (cs.set s (nx+1))∧Kept5 b g1 g2 g3 g4 w W:=by
 go_enter Tryz.func178,Tryz.ntmps178
 go_wp2_with fail
 have hba:Below w.heap.size w (w.alloc (.cells #[.int .i64 key,.int .i64 val] 91)):=br.alloc (Nat.le_refl _) _;have hz1:(w.alloc (.cells #[.int .i64 key,.int .i64 val] 91)).heap.size=w.heap.size+1:=by simp
 have r0:(w.alloc (.cells #[.int .i64 key,.int .i64 val] 91)).cell? ⟨w.heap.size,0,none⟩=some (.int .i64 key):=xcw;have r1:(w.alloc (.cells #[.int .i64 key,.int .i64 val] 91)).cell? ⟨w.heap.size,1,none⟩=some (.int .i64 val):=xcw;generalize (w.alloc (.cells #[.int .i64 key,.int .i64 val] 91))=w1 at *;refine (TK.out w1 hba).mono ?_;rintro e w2 ⟨⟨rv,rfl⟩,⟨c0,c1,c2,c3,c4,c5,f5,o1,o2,o3,o4⟩,KA⟩;have hz2:=KA.size;have K2:Hid (Kept5 b g1 g2 g3 g4 w w2):=hid (Kept5.of hba KA);replace r0:=xob r0 (KA.block w.heap.size xo xo xo xo xo);replace r1:=xob r1 (KA.block w.heap.size xo xo xo xo xo);obtain ⟨d1,f1⟩:=own_cell o1 (j:=qi) (by have:=own_len o1;omega);obtain ⟨d2,f2⟩:=own_cell o2 (j:=i) (by have:=own_len o2;omega);obtain ⟨d3,f3⟩:=own_cell o3 (j:=i) (by have:=own_len o3;omega);obtain ⟨d4,f4⟩:=own_cell o4 (j:=s) (by have:=own_len o4;omega);rw [hx] at d1;rw [hnxx] at d4;generalize ks.getD i 0=kx at d2;generalize vs.getD i 0=vx at d3;have O1:=hid o1;have O2:=hid o2;have O3:=hid o3;have O4:=hid o4;have HX:=hid hx;have HNX:=hid hnxx;clear o1 o2 o3 o4 KA hba hx hnxx;have hiI:(i:Int)<n:=xo;have hqI2:(qi:Int)<lw:=xo;have hsI2:(s:Int)<lc:=xo;have hws:IntKind.i64.wrap (s:Int)=(s:Int):=IntWalk.i64_in _ xo;have hwq:IntKind.i64.wrap (qi:Int)=(qi:Int):=IntWalk.i64_in _ xo;have hwr:IntKind.i64.wrap (r:Int)=(r:Int):=IntWalk.i64_in _ xo;have hwn:IntKind.i64.wrap (nx+1)=nx+1:=IntWalk.i64_in _ xo;go_wp2
 go_still_tail 15,xk
 go_wp2
 have hk_w3:∀q,q≠g4→((w2.setCell ⟨g4,s,none⟩ (.int .i64 (nx+1))).drew).heap[q]? =w2.heap[q]? :=fun q hq=>heap_setCell_ne _ _ _ hq
 have hf_w3:∀a:Addr,((w2.setCell ⟨g4,s,none⟩ (.int .i64 (nx+1))).drew).frozen? a=w2.frozen? a:=fun a=>by rw [World.frozen?_drew,World.frozen?_setCell]
 have K3:Hid (Kept5 b g1 g2 g3 g4 w ((w2.setCell ⟨g4,s,none⟩ (.int .i64 (nx+1))).drew)):=hid (K2.out.step xsi rfl rfl rfl fun q hq h0 h1 h2 h3 h4=>hk_w3 q xo);have hz_w3:((w2.setCell ⟨g4,s,none⟩ (.int .i64 (nx+1))).drew).heap.size=w2.heap.size:=by simp
 have nO4:Hid (((w2.setCell ⟨g4,s,none⟩ (.int .i64 (nx+1))).drew).ownsRow B 3 1 (.slice (some ⟨g4,0,none⟩) lc k4) lc ((cs.set s (nx+1)).map (Value.int .i64))):=hid (owns_drew (own_set O4.out s (nx+1)));generalize ((w2.setCell ⟨g4,s,none⟩ (.int .i64 (nx+1))).drew)=w3 at *;clear d4;replace c0:w3.cell? ⟨b,0,none⟩=some (.int .i64 seg):=xob c0 (hk_w3 b xo);replace c1:w3.cell? ⟨b,1,none⟩=some (.slice (some ⟨g1,0,none⟩) lw k1):=xob c1 (hk_w3 b xo);replace c2:w3.cell? ⟨b,2,none⟩=some (.slice (some ⟨g2,0,none⟩) n k2):=xob c2 (hk_w3 b xo);replace c3:w3.cell? ⟨b,3,none⟩=some (.slice (some ⟨g3,0,none⟩) n k3):=xob c3 (hk_w3 b xo);replace c4:w3.cell? ⟨b,4,none⟩=some (.slice (some ⟨g4,0,none⟩) lc k4):=xob c4 (hk_w3 b xo);replace c5:w3.cell? ⟨b,5,none⟩=some (.int .u64 laid):=xob c5 (hk_w3 b xo);replace d1:w3.cell? ⟨g1,qi,none⟩=some (.int .u64 x):=xob d1 (hk_w3 g1 xo);replace d2:w3.cell? ⟨g2,i,none⟩=some (.int .i64 kx):=xob d2 (hk_w3 g2 xo);replace d3:w3.cell? ⟨g3,i,none⟩=some (.int .i64 vx):=xob d3 (hk_w3 g3 xo);replace f1:w3.frozen? ⟨g1,qi,none⟩=false:=(hf_w3 _).trans f1;replace f2:w3.frozen? ⟨g2,i,none⟩=false:=(hf_w3 _).trans f2;replace f3:w3.frozen? ⟨g3,i,none⟩=false:=(hf_w3 _).trans f3;replace f4:w3.frozen? ⟨g4,s,none⟩=false:=(hf_w3 _).trans f4;replace f5:w3.frozen? ⟨b,5,none⟩=false:=(hf_w3 _).trans f5;replace r0:=xob r0 (hk_w3 w.heap.size xo);replace r1:=xob r1 (hk_w3 w.heap.size xo);replace O1:=hid (owns_heap (W':=w3) O1.out fun j hj=>by cases hj;exact hk_w3 g1 xo);replace O2:=hid (owns_heap (W':=w3) O2.out fun j hj=>by cases hj;exact hk_w3 g2 xo);replace O3:=hid (owns_heap (W':=w3) O3.out fun j hj=>by cases hj;exact hk_w3 g3 xo);replace O4:=nO4;clear nO4 hk_w3 hf_w3 K2;go_still_tail 13,xk
 go_wp2
 have hk_w4:∀q,q≠g1→((w3.setCell ⟨g1,qi,none⟩ (.int .u64 (bits BinOp.or IntKind.u64 x (IntKind.u64.wrap (2^r))))).drew).heap[q]? =w3.heap[q]? :=fun q hq=>heap_setCell_ne _ _ _ hq
 have hf_w4:∀a:Addr,((w3.setCell ⟨g1,qi,none⟩ (.int .u64 (bits BinOp.or IntKind.u64 x (IntKind.u64.wrap (2^r))))).drew).frozen? a=w3.frozen? a:=fun a=>by rw [World.frozen?_drew,World.frozen?_setCell]
 have K4:Hid (Kept5 b g1 g2 g3 g4 w ((w3.setCell ⟨g1,qi,none⟩ (.int .u64 (bits BinOp.or IntKind.u64 x (IntKind.u64.wrap (2^r))))).drew)):=hid (K3.out.step xsi rfl rfl rfl fun q hq h0 h1 h2 h3 h4=>hk_w4 q xo);have hz_w4:((w3.setCell ⟨g1,qi,none⟩ (.int .u64 (bits BinOp.or IntKind.u64 x (IntKind.u64.wrap (2^r))))).drew).heap.size=w3.heap.size:=by simp
 have nO1:Hid (((w3.setCell ⟨g1,qi,none⟩ (.int .u64 (bits BinOp.or IntKind.u64 x (IntKind.u64.wrap (2^r))))).drew).ownsRow B 27 1 (.slice (some ⟨g1,0,none⟩) lw k1) lw ((ws.set qi (bits BinOp.or IntKind.u64 x (IntKind.u64.wrap (2^r)))).map (Value.int .u64))):=hid (owns_drew (own_set O1.out qi (bits BinOp.or IntKind.u64 x (IntKind.u64.wrap (2^r)))));generalize ((w3.setCell ⟨g1,qi,none⟩ (.int .u64 (bits BinOp.or IntKind.u64 x (IntKind.u64.wrap (2^r))))).drew)=w4 at *;clear d1;replace c0:w4.cell? ⟨b,0,none⟩=some (.int .i64 seg):=xob c0 (hk_w4 b xo);replace c1:w4.cell? ⟨b,1,none⟩=some (.slice (some ⟨g1,0,none⟩) lw k1):=xob c1 (hk_w4 b xo);replace c2:w4.cell? ⟨b,2,none⟩=some (.slice (some ⟨g2,0,none⟩) n k2):=xob c2 (hk_w4 b xo);replace c3:w4.cell? ⟨b,3,none⟩=some (.slice (some ⟨g3,0,none⟩) n k3):=xob c3 (hk_w4 b xo);replace c4:w4.cell? ⟨b,4,none⟩=some (.slice (some ⟨g4,0,none⟩) lc k4):=xob c4 (hk_w4 b xo);replace c5:w4.cell? ⟨b,5,none⟩=some (.int .u64 laid):=xob c5 (hk_w4 b xo);replace d2:w4.cell? ⟨g2,i,none⟩=some (.int .i64 kx):=xob d2 (hk_w4 g2 xo);replace d3:w4.cell? ⟨g3,i,none⟩=some (.int .i64 vx):=xob d3 (hk_w4 g3 xo);replace f1:w4.frozen? ⟨g1,qi,none⟩=false:=(hf_w4 _).trans f1;replace f2:w4.frozen? ⟨g2,i,none⟩=false:=(hf_w4 _).trans f2;replace f3:w4.frozen? ⟨g3,i,none⟩=false:=(hf_w4 _).trans f3;replace f4:w4.frozen? ⟨g4,s,none⟩=false:=(hf_w4 _).trans f4;replace f5:w4.frozen? ⟨b,5,none⟩=false:=(hf_w4 _).trans f5;replace r0:=xob r0 (hk_w4 w.heap.size xo);replace r1:=xob r1 (hk_w4 w.heap.size xo);replace O2:=hid (owns_heap (W':=w4) O2.out fun j hj=>by cases hj;exact hk_w4 g2 xo);replace O3:=hid (owns_heap (W':=w4) O3.out fun j hj=>by cases hj;exact hk_w4 g3 xo);replace O4:=hid (owns_heap (W':=w4) O4.out fun j hj=>by cases hj;exact hk_w4 g4 xo);replace O1:=nO1;clear nO1 hk_w4 hf_w4 K3;obtain ⟨OWo,hOo⟩:∃P:World→Prop,P=fun W=>W.ownsRow B 2 1 (.slice (some ⟨g2,0,none⟩) n k2) n ((ks).map (Value.int .i64)):=⟨_,rfl⟩
 obtain ⟨OWn,hOn⟩:∃P:World→Prop,P=fun W=>W.ownsRow B 2 1 (.slice (some ⟨g2,0,none⟩) n k2) n ((ks.set i key).map (Value.int .i64)):=⟨_,rfl⟩
 have JIN:Hid (JB g2 w4.drew OWo OWn w4.drew):=hid ⟨fun _ _=>rfl,rfl,⟨rfl,rfl,rfl⟩,.inl (by rw [hOo];exact owns_drew O2.out)⟩;have hkl:ks.length=n:=own_len O2.out;have JST:Hid (∀w',JB g2 w4.drew OWo OWn w'→(∃y,w'.cell? ⟨g2,i,none⟩=some (.int .i64 y))∧w'.frozen? ⟨g2,i,none⟩=false∧JB g2 w4.drew OWo OWn (w'.setCell ⟨g2,i,none⟩ (.int .i64 key))∧OWn (w'.setCell ⟨g2,i,none⟩ (.int .i64 key))):=hid (by
  rintro w' ⟨j1,j2,j4,j3⟩;have keyy:(∃y,w'.cell? ⟨g2,i,none⟩=some (.int .i64 y))∧w'.frozen? ⟨g2,i,none⟩=false∧OWn (w'.setCell ⟨g2,i,none⟩ (.int .i64 key)):=by
   rcases j3 with j3|j3
   · rw [hOo] at j3;obtain ⟨y0,y1⟩:=own_cell j3 (j:=i) xo;have y2:=own_set j3 i key;rw [hOn];exact ⟨⟨_,y0⟩,y1,y2⟩
   · rw [hOn] at j3;obtain ⟨y0,y1⟩:=own_cell j3 (j:=i) (by rw [List.length_set];omega);have y2:=own_set j3 i key;rw [List.set_set] at y2;rw [hOn];exact ⟨⟨_,y0⟩,y1,y2⟩
  exact ⟨keyy.1,keyy.2.1,⟨fun q hq=>(heap_setCell_ne _ _ _ hq).trans (j1 q hq),by rw [World.size_setCell];exact j2,j4,.inr keyy.2.2⟩,keyy.2.2⟩)
 have HON:=hid hOn;clear hOo hOn d2 f2;refine wp_region_late 18 xk (N:=66) rfl xk xk xdd (fun w'=>JB g2 w4.drew OWo OWn w') (fun W W'=>OWn W→OWn W') (factRAt [.is (.pointer (some ⟨b,0,none⟩)),.is (.pointer (some ⟨b,0,none⟩)),.is (.pointer (some ⟨b,0,none⟩)),.is (.pointer (some ⟨b,2,none⟩)),.is (.slice (some ⟨g2,0,none⟩) n k2),.is (.int .i64 i),.is (.pointer (some ⟨b,0,none⟩)),.is (.pointer (some ⟨b,0,none⟩)),.is (.pointer (some ⟨b,0,none⟩)),.is (.pointer (some ⟨b,3,none⟩)),.is (.slice (some ⟨g3,0,none⟩) n k3),.is (.int .i64 i),.is (.pointer (some ⟨w.heap.size,0,none⟩)),.is (.int .i64 key),.is (.pointer (some ⟨w.heap.size,1,none⟩)),.is (.int .i64 val),.is (.pointer (some ⟨g2,i,none⟩)),.now OWn (fun _ _ h k=>h k)]) (factRAt_stays _) JIN.out ?steps ?fin
 case steps=>
  refine ⟨?o0,?o1,?o2,?o3,?o4,?o5,?o6,?o7,?o8,?o9,?o10,?o11,?o12,?o13,?o14,?o15,?o16,?o17,trivial⟩
  case o0=>
   intro u a w' ev hJ hd K hK;have e0:tg a 0= .pointer (some ⟨b,0,none⟩):=ev 0 xdd;have HK:=hid hK;clear hK ev hd;go_simp;exact HK.out _ _ xzc hJ rfl id
  case o1=>
   intro u a w' ev hJ hd K hK;have e39:tg a 39= .pointer (some ⟨b,0,none⟩):=(ev 39 xdd).trans (hd 0 _ xk rfl);have HK:=hid hK;clear hK ev hd;go_simp;exact HK.out _ _ xzc hJ rfl id
  case o2=>
   intro u a w' ev hJ hd K hK;have e40:tg a 40= .pointer (some ⟨b,0,none⟩):=(ev 40 xdd).trans (hd 1 _ xk rfl);have HK:=hid hK;clear hK ev hd;go_simp;exact HK.out _ _ xzc hJ rfl id
  case o3=>
   intro u a w' ev hJ hd K hK;have e41:tg a 41= .pointer (some ⟨b,0,none⟩):=(ev 41 xdd).trans (hd 2 _ xk rfl);have HK:=hid hK;clear hK ev hd;go_simp;exact HK.out _ _ xzc hJ rfl id
  case o4=>
   intro u a w' ev hJ hd K hK;have e42:tg a 42= .pointer (some ⟨b,2,none⟩):=(ev 42 xdd).trans (hd 3 _ xk rfl);have g0:=xob c2 (hJ.1 b xo);have HK:=hid hK;clear hK ev hd;go_simp;exact HK.out _ _ xzc hJ rfl id
  case o5=>
   intro u a w' ev hJ hd K hK;have e1:tg a 1= .int .i64 i:=ev 1 xdd;have HK:=hid hK;clear hK ev hd;go_simp;exact HK.out _ _ xzc hJ rfl id
  case o6=>
   intro u a w' ev hJ hd K hK;have e0:tg a 0= .pointer (some ⟨b,0,none⟩):=ev 0 xdd;have HK:=hid hK;clear hK ev hd;go_simp;exact HK.out _ _ xzc hJ rfl id
  case o7=>
   intro u a w' ev hJ hd K hK;have e45:tg a 45= .pointer (some ⟨b,0,none⟩):=(ev 45 xdd).trans (hd 6 _ xk rfl);have HK:=hid hK;clear hK ev hd;go_simp;exact HK.out _ _ xzc hJ rfl id
  case o8=>
   intro u a w' ev hJ hd K hK;have e46:tg a 46= .pointer (some ⟨b,0,none⟩):=(ev 46 xdd).trans (hd 7 _ xk rfl);have HK:=hid hK;clear hK ev hd;go_simp;exact HK.out _ _ xzc hJ rfl id
  case o9=>
   intro u a w' ev hJ hd K hK;have e47:tg a 47= .pointer (some ⟨b,0,none⟩):=(ev 47 xdd).trans (hd 8 _ xk rfl);have HK:=hid hK;clear hK ev hd;go_simp;exact HK.out _ _ xzc hJ rfl id
  case o10=>
   intro u a w' ev hJ hd K hK;have e48:tg a 48= .pointer (some ⟨b,3,none⟩):=(ev 48 xdd).trans (hd 9 _ xk rfl);have g0:=xob c3 (hJ.1 b xo);have HK:=hid hK;clear hK ev hd;go_simp;exact HK.out _ _ xzc hJ rfl id
  case o11=>
   intro u a w' ev hJ hd K hK;have e1:tg a 1= .int .i64 i:=ev 1 xdd;have HK:=hid hK;clear hK ev hd;go_simp;exact HK.out _ _ xzc hJ rfl id
  case o12=>
   intro u a w' ev hJ hd K hK;have e5:tg a 5= .pointer (some ⟨w.heap.size,0,none⟩):=ev 5 xdd;have HK:=hid hK;clear hK ev hd;go_simp;exact HK.out _ _ xzc hJ rfl id
  case o13=>
   intro u a w' ev hJ hd K hK;have e51:tg a 51= .pointer (some ⟨w.heap.size,0,none⟩):=(ev 51 xdd).trans (hd 12 _ xk rfl);have g0:=xob r0 (hJ.1 w.heap.size xo);have HK:=hid hK;clear hK ev hd;go_simp;exact HK.out _ _ xzc hJ rfl id
  case o14=>
   intro u a w' ev hJ hd K hK;have e5:tg a 5= .pointer (some ⟨w.heap.size,0,none⟩):=ev 5 xdd;have HK:=hid hK;clear hK ev hd;go_simp;exact HK.out _ _ xzc hJ rfl id
  case o15=>
   intro u a w' ev hJ hd K hK;have e53:tg a 53= .pointer (some ⟨w.heap.size,1,none⟩):=(ev 53 xdd).trans (hd 14 _ xk rfl);have g0:=xob r1 (hJ.1 w.heap.size xo);have HK:=hid hK;clear hK ev hd;go_simp;exact HK.out _ _ xzc hJ rfl id
  case o16=>
   intro u a w' ev hJ hd K hK;have e43:tg a 43= .slice (some ⟨g2,0,none⟩) n k2:=(ev 43 xdd).trans (hd 4 _ xk rfl);have e44:tg a 44= .int .i64 i:=(ev 44 xdd).trans (hd 5 _ xk rfl);have HK:=hid hK;clear hK ev hd;go_simp;exact HK.out _ _ xzc hJ rfl id
  case o17=>
   intro u a w' ev hJ hd K hK;have e55:tg a 55= .pointer (some ⟨g2,i,none⟩):=(ev 55 xdd).trans (hd 16 _ xk rfl);have e52:tg a 52= .int .i64 key:=(ev 52 xdd).trans (hd 13 _ xk rfl);obtain ⟨⟨y,hy⟩,hf,hj⟩:=JST.out w' hJ;have HK:=hid hK;clear hK ev hd;go_simp;exact HK.out _ _ (fun h=>rfl) hj.1 hj.2 (fun _=>hj.2)
 case fin=>
  intro u w7 hJ hG;have h49:u 49= .slice (some ⟨g3,0,none⟩) n k3:=hG 10 _ rfl;have h50:u 50= .int .i64 i:=hG 11 _ rfl;have h54:u 54= .int .i64 val:=hG 15 _ rfl;have hnew:OWn w7:=hG 17 _ rfl;rw [HON.out] at hnew;have O27:=hid hnew;have hz7:w7.heap.size=w4.heap.size:=hJ.2.1;have hk7:∀q,q≠g2→w7.heap[q]? =w4.heap[q]? :=hJ.1;have K7:Hid (Kept5 b g1 g2 g3 g4 w w7):=hid (K4.out.step xo hJ.2.2.1.1 hJ.2.2.1.2.1 hJ.2.2.1.2.2 fun q hq h0 h1 h2 h3 h4=>hk7 q xo);replace c0:w7.cell? ⟨b,0,none⟩=some (.int .i64 seg):=xob c0 (hk7 b xo);replace c1:w7.cell? ⟨b,1,none⟩=some (.slice (some ⟨g1,0,none⟩) lw k1):=xob c1 (hk7 b xo);replace c2:w7.cell? ⟨b,2,none⟩=some (.slice (some ⟨g2,0,none⟩) n k2):=xob c2 (hk7 b xo);replace c3:w7.cell? ⟨b,3,none⟩=some (.slice (some ⟨g3,0,none⟩) n k3):=xob c3 (hk7 b xo);replace c4:w7.cell? ⟨b,4,none⟩=some (.slice (some ⟨g4,0,none⟩) lc k4):=xob c4 (hk7 b xo);replace c5:w7.cell? ⟨b,5,none⟩=some (.int .u64 laid):=xob c5 (hk7 b xo);replace d3:w7.cell? ⟨g3,i,none⟩=some (.int .i64 vx):=xob d3 (hk7 g3 xo);replace f1:w7.frozen? ⟨g1,qi,none⟩=false:=(frozen_of_block (hk7 g1 xo) _).trans f1;replace f3:w7.frozen? ⟨g3,i,none⟩=false:=(frozen_of_block (hk7 g3 xo) _).trans f3;replace f4:w7.frozen? ⟨g4,s,none⟩=false:=(frozen_of_block (hk7 g4 xo) _).trans f4;replace f5:w7.frozen? ⟨b,5,none⟩=false:=(frozen_of_block (hk7 b xo) _).trans f5;replace O1:=hid (owns_heap (W':=w7) O1.out fun j hj=>by cases hj;exact hk7 g1 xo);replace O3:=hid (owns_heap (W':=w7) O3.out fun j hj=>by cases hj;exact hk7 g3 xo);replace O4:=hid (owns_heap (W':=w7) O4.out fun j hj=>by cases hj;exact hk7 g4 xo);clear hG hJ hnew hk7 JIN JST K4 O2 HON;simp only [mixFrame,mixL,dstsOf,List.take_succ_cons,List.take_zero,List.filterMap_cons,List.filterMap_nil,List.contains_cons,List.contains_nil,Nat.reduceBEq,Bool.or_false,Bool.false_or,Bool.or_true,Bool.true_or,if_true,if_false,Bool.false_eq_true,Nat.reduceAdd,Nat.zero_add,List.drop_succ_cons,List.drop_zero,h49,h50,h54];have b5:(w7.setCell ⟨g3,i,none⟩ (.int .i64 val)).cell? ⟨b,5,none⟩=some (.int .u64 laid):=set_keep (by simp<;>omega) c5;go_wp2
  have hkE:∀q,q≠g3→q≠b→((w7.setCell ⟨g3,i,none⟩ (.int .i64 val)).setCell ⟨b,5,none⟩ (.int .u64 (IntKind.u64.wrap (laid+1)))).heap[q]? =w7.heap[q]? :=fun q h1 h2=>by rw [heap_setCell_ne _ _ _ h2,heap_setCell_ne _ _ _ h1]
  have hkB:∀q,q≠b→((w7.setCell ⟨g3,i,none⟩ (.int .i64 val)).setCell ⟨b,5,none⟩ (.int .u64 (IntKind.u64.wrap (laid+1)))).heap[q]? =(w7.setCell ⟨g3,i,none⟩ (.int .i64 val)).heap[q]? :=fun q h2=>by rw [heap_setCell_ne _ _ _ h2]
  refine bodyPost_end (results_none rfl _ _ _) rfl ⟨rfl,?_,?_⟩
  · refine ⟨?_,?_,?_,?_,?_,?_,?_,?_,?_,?_,?_⟩
    · exact set_keep xsi (set_keep (by simp<;>omega) c0)
    · exact set_keep xsi (set_keep (by simp<;>omega) c1)
    · exact set_keep xsi (set_keep (by simp<;>omega) c2)
    · exact set_keep xsi (set_keep (by simp<;>omega) c3)
    · exact set_keep xsi (set_keep (by simp<;>omega) c4)
    · exact World.cell?_setCell_same _ _ _ b5
    · rw [World.frozen?_setCell,World.frozen?_setCell];exact f5
    · exact owns_heap O1.out fun j hj=>by cases hj;exact hkE g1 xo xo
    · exact owns_heap O27.out fun j hj=>by cases hj;exact hkE g2 xo xo
    · exact owns_heap (own_set O3.out i val) fun j hj=>by cases hj;exact hkB g3 xo
    · exact owns_heap O4.out fun j hj=>by cases hj;exact hkE g4 xo xo
  · exact K7.out.step xsi rfl rfl rfl fun q hq h0 h1 h2 h3 h4=>hkE q h3 h0
end
end Go.Proofs.YtjhpblejlchhjaaGreatDoor

/- Merged: FilS, Filled. -/
import Derived.Test.YtookgoidlnlckaaGreatDoorGapTellsP18
import Derived.Test.YtookgoidlnlckaaGreatDoorGapTellsP21
import Derived.Test.YtookgoidlnlckaaGreatDoorGapTellsP5
import Derived.Test.YtookgoidlnlckaaGreatDoorGapTellsP11
import Derived.Test.YtookgoidlnlckaaGreatDoorGapTellsP2
import Derived.Deep.CutRange
namespace Go.Proofs.YtookgoidlnlckaaGreatDoor
set_option maxRecDepth 100000
set_option maxHeartbeats 40000000
set_option linter.unusedVariables false
set_option linter.unusedSimpArgs false
section
open Go.RowKit
structure FilS (B:Nat) (W:World) (b g1 g2 g3 g4 k1 k2 k3 k4 lw n lc:Nat) (c:SlC):Prop where
 c0:W.cell? ⟨b,0,none⟩=some (.int .i64 c.seg)
 c1:W.cell? ⟨b,1,none⟩=some (.slice (some ⟨g1,0,none⟩) lw k1)
 c2:W.cell? ⟨b,2,none⟩=some (.slice (some ⟨g2,0,none⟩) n k2)
 c3:W.cell? ⟨b,3,none⟩=some (.slice (some ⟨g3,0,none⟩) n k3)
 c4:W.cell? ⟨b,4,none⟩=some (.slice (some ⟨g4,0,none⟩) lc k4)
 c5:W.cell? ⟨b,5,none⟩=some (.int .u64 c.laid)
 f1:W.frozen? ⟨b,1,none⟩=false
 f5:W.frozen? ⟨b,5,none⟩=false
 o1:W.ownsRow B 27 1 (.slice (some ⟨g1,0,none⟩) lw k1) lw (c.ws.map (Value.int .u64))
 o2:W.ownsRow B 2 1 (.slice (some ⟨g2,0,none⟩) n k2) n (c.ks.map (Value.int .i64))
 o3:W.ownsRow B 2 1 (.slice (some ⟨g3,0,none⟩) n k3) n (c.vs.map (Value.int .i64))
 o4:W.ownsRow B 3 1 (.slice (some ⟨g4,0,none⟩) lc k4) lc (c.cs.map (Value.int .i64))
 bB:b<B
 n23:g2≠g3
theorem owns_ne {w:World} {B g g' n n' k k':Nat} {e e':TypeId} {xs xs':List Value} (ha:w.ownsRow B e 1 (.slice (some ⟨g,0,none⟩) n k) n xs) (hb:w.ownsRow B e' 1 (.slice (some ⟨g',0,none⟩) n' k') n' xs') (hc:e≠e'):g≠g':=by
 rcases owns_apart ha hb hc with h|h
 · cases h
 · intro hgg;exact h (by subst hgg;rfl)
theorem own_cells {k:IntKind} {w:World} {B g n cap:Nat} {e:TypeId} {xs:List Int} (h:w.ownsRow B e 1 (.slice (some ⟨g,0,none⟩) n cap) n (xs.map (Value.int k))) {j:Nat} (hj:j<n):
    w.cell? ⟨g,j,none⟩=some (.int k (xs.getD j 0))∧w.frozen? ⟨g,j,none⟩=false:=by
 have hl:=own_len h;subst hl;obtain ⟨⟨x,hx,hc⟩,hf,-⟩:=row_cell h hj;rw [hx.out];exact ⟨hc,hf⟩
section
variable {B b g1 g2 g3 g4 k1 k2 k3 k4 lw n lc:Nat} {W W':World} {c:SlC}
theorem FilS.nums (h:FilS B W b g1 g2 g3 g4 k1 k2 k3 k4 lw n lc c):B≤g1∧B≤g2∧B≤g3∧B≤g4∧g1<W.heap.size∧g2<W.heap.size∧g3<W.heap.size∧g4<W.heap.size∧g1≠g2∧g1≠g3∧g1≠g4∧g2≠g4∧g3≠g4∧b<W.heap.size:=
  ⟨(h.o1.lt g1 rfl).1,(h.o2.lt g2 rfl).1,(h.o3.lt g3 rfl).1,(h.o4.lt g4 rfl).1,(h.o1.lt g1 rfl).2,(h.o2.lt g2 rfl).2,(h.o3.lt g3 rfl).2,(h.o4.lt g4 rfl).2,owns_ne h.o1 h.o2 (by decide),owns_ne h.o1 h.o3 (by decide),owns_ne h.o1 h.o4 (by decide),owns_ne h.o2 h.o4 (by decide),owns_ne h.o3 h.o4 (by decide),World.block_lt_of_cell? _ _ h.c0⟩
theorem FilS.heap (h:FilS B W b g1 g2 g3 g4 k1 k2 k3 k4 lw n lc c) (hb:W'.heap[b]? =W.heap[b]?) (h1:W'.heap[g1]? =W.heap[g1]?) (h2:W'.heap[g2]? =W.heap[g2]?) (h3:W'.heap[g3]? =W.heap[g3]?) (h4:W'.heap[g4]? =W.heap[g4]?):FilS B W' b g1 g2 g3 g4 k1 k2 k3 k4 lw n lc c:=
  ⟨(World.cell?_of_block (a:=⟨b,0,none⟩) hb).trans h.c0,(World.cell?_of_block (a:=⟨b,1,none⟩) hb).trans h.c1,(World.cell?_of_block (a:=⟨b,2,none⟩) hb).trans h.c2,(World.cell?_of_block (a:=⟨b,3,none⟩) hb).trans h.c3,(World.cell?_of_block (a:=⟨b,4,none⟩) hb).trans h.c4,(World.cell?_of_block (a:=⟨b,5,none⟩) hb).trans h.c5,
    (World.frozen?_of_block (a:=⟨b,1,none⟩) hb).trans h.f1,(World.frozen?_of_block (a:=⟨b,5,none⟩) hb).trans h.f5,
    owns_heap h.o1 fun j hj=>by cases hj;exact h1,owns_heap h.o2 fun j hj=>by cases hj;exact h2,owns_heap h.o3 fun j hj=>by cases hj;exact h3,owns_heap h.o4 fun j hj=>by cases hj;exact h4,h.bB,h.n23⟩
theorem FilS.below (h:FilS B W b g1 g2 g3 g4 k1 k2 k3 k4 lw n lc c) (hb:Below W.heap.size W W'):FilS B W' b g1 g2 g3 g4 k1 k2 k3 k4 lw n lc c:=by
 have q:=h.nums;exact h.heap (hb.block _ xo) (hb.block _ xo) (hb.block _ xo) (hb.block _ xo) (hb.block _ xo)
theorem FilS.drew (h:FilS B W b g1 g2 g3 g4 k1 k2 k3 k4 lw n lc c):FilS B W.drew b g1 g2 g3 g4 k1 k2 k3 k4 lw n lc c:=h.heap rfl rfl rfl rfl rfl
theorem FilS.setN (h:FilS B W b g1 g2 g3 g4 k1 k2 k3 k4 lw n lc c) (s:Nat) (y:Int):FilS B (W.setCell ⟨g4,s,none⟩ (.int .i64 y)) b g1 g2 g3 g4 k1 k2 k3 k4 lw n lc ⟨c.seg,c.ws,c.ks,c.vs,c.cs.set s y,c.laid⟩:=by
 have q:=h.nums;have hbB:=h.bB;have hk:∀z,z≠g4→(W.setCell ⟨g4,s,none⟩ (.int .i64 y)).heap[z]? =W.heap[z]? :=fun z hz=>heap_setCell_ne _ _ _ hz
 have hb:=hk b xo;exact ⟨(World.cell?_of_block (a:=⟨b,0,none⟩) hb).trans h.c0,(World.cell?_of_block (a:=⟨b,1,none⟩) hb).trans h.c1,(World.cell?_of_block (a:=⟨b,2,none⟩) hb).trans h.c2,(World.cell?_of_block (a:=⟨b,3,none⟩) hb).trans h.c3,(World.cell?_of_block (a:=⟨b,4,none⟩) hb).trans h.c4,(World.cell?_of_block (a:=⟨b,5,none⟩) hb).trans h.c5,
   (World.frozen?_of_block (a:=⟨b,1,none⟩) hb).trans h.f1,(World.frozen?_of_block (a:=⟨b,5,none⟩) hb).trans h.f5,
   owns_heap h.o1 fun j hj=>by cases hj;exact hk _ xdo,owns_heap h.o2 fun j hj=>by cases hj;exact hk _ xdo,owns_heap h.o3 fun j hj=>by cases hj;exact hk _ xdo,own_set h.o4 s y,h.bB,h.n23⟩
theorem FilS.setK (h:FilS B W b g1 g2 g3 g4 k1 k2 k3 k4 lw n lc c) (s:Nat) (y:Int):FilS B (W.setCell ⟨g2,s,none⟩ (.int .i64 y)) b g1 g2 g3 g4 k1 k2 k3 k4 lw n lc ⟨c.seg,c.ws,c.ks.set s y,c.vs,c.cs,c.laid⟩:=by
 have q:=h.nums;have hbB:=h.bB;have h23:=h.n23;have hk:∀z,z≠g2→(W.setCell ⟨g2,s,none⟩ (.int .i64 y)).heap[z]? =W.heap[z]? :=fun z hz=>heap_setCell_ne _ _ _ hz
 have hb:=hk b xo;exact ⟨(World.cell?_of_block (a:=⟨b,0,none⟩) hb).trans h.c0,(World.cell?_of_block (a:=⟨b,1,none⟩) hb).trans h.c1,(World.cell?_of_block (a:=⟨b,2,none⟩) hb).trans h.c2,(World.cell?_of_block (a:=⟨b,3,none⟩) hb).trans h.c3,(World.cell?_of_block (a:=⟨b,4,none⟩) hb).trans h.c4,(World.cell?_of_block (a:=⟨b,5,none⟩) hb).trans h.c5,
   (World.frozen?_of_block (a:=⟨b,1,none⟩) hb).trans h.f1,(World.frozen?_of_block (a:=⟨b,5,none⟩) hb).trans h.f5,
   owns_heap h.o1 fun j hj=>by cases hj;exact hk _ xdo,own_set h.o2 s y,owns_heap h.o3 fun j hj=>by cases hj;exact hk _ xdo,owns_heap h.o4 fun j hj=>by cases hj;exact hk _ xdo,h.bB,h.n23⟩
theorem FilS.setV (h:FilS B W b g1 g2 g3 g4 k1 k2 k3 k4 lw n lc c) (s:Nat) (y:Int):FilS B (W.setCell ⟨g3,s,none⟩ (.int .i64 y)) b g1 g2 g3 g4 k1 k2 k3 k4 lw n lc ⟨c.seg,c.ws,c.ks,c.vs.set s y,c.cs,c.laid⟩:=by
 have q:=h.nums;have hbB:=h.bB;have h23:=h.n23;have hk:∀z,z≠g3→(W.setCell ⟨g3,s,none⟩ (.int .i64 y)).heap[z]? =W.heap[z]? :=fun z hz=>heap_setCell_ne _ _ _ hz
 have hb:=hk b xo;exact ⟨(World.cell?_of_block (a:=⟨b,0,none⟩) hb).trans h.c0,(World.cell?_of_block (a:=⟨b,1,none⟩) hb).trans h.c1,(World.cell?_of_block (a:=⟨b,2,none⟩) hb).trans h.c2,(World.cell?_of_block (a:=⟨b,3,none⟩) hb).trans h.c3,(World.cell?_of_block (a:=⟨b,4,none⟩) hb).trans h.c4,(World.cell?_of_block (a:=⟨b,5,none⟩) hb).trans h.c5,
   (World.frozen?_of_block (a:=⟨b,1,none⟩) hb).trans h.f1,(World.frozen?_of_block (a:=⟨b,5,none⟩) hb).trans h.f5,
   owns_heap h.o1 fun j hj=>by cases hj;exact hk _ xdo,owns_heap h.o2 fun j hj=>by cases hj;exact hk _ xdo,own_set h.o3 s y,owns_heap h.o4 fun j hj=>by cases hj;exact hk _ xdo,h.bB,h.n23⟩
theorem FilS.setW (h:FilS B W b g1 g2 g3 g4 k1 k2 k3 k4 lw n lc c) (hw:Below W.heap.size W W') {g k:Nat} {ws':List Int} (ho:W'.ownsRow W.heap.size 27 1 (.slice (some ⟨g,0,none⟩) lw k) lw (ws'.map (Value.int .u64))) (hB:B≤W.heap.size):
    FilS B (W'.setCell ⟨b,1,none⟩ (.slice (some ⟨g,0,none⟩) lw k)) b g g2 g3 g4 k k2 k3 k4 lw n lc ⟨c.seg,ws',c.ks,c.vs,c.cs,c.laid⟩:=by
 have h:=h.below hw;have q:=h.nums;have hbB:=h.bB;have hg:=ho.lt g rfl;have hk:∀z,z≠b→(W'.setCell ⟨b,1,none⟩ (.slice (some ⟨g,0,none⟩) lw k)).heap[z]? =W'.heap[z]? :=fun z hz=>heap_setCell_ne _ _ _ hz
 exact ⟨set_keep (by simp) h.c0,World.cell?_setCell_same _ _ _ h.c1,set_keep (by simp) h.c2,set_keep (by simp) h.c3,set_keep (by simp) h.c4,set_keep (by simp) h.c5,
   by rw [World.frozen?_setCell];exact h.f1,by rw [World.frozen?_setCell];exact h.f5,
   owns_heap (owns_base ho hB) fun j hj=>by cases hj;exact hk _ xdo,owns_heap h.o2 fun j hj=>by cases hj;exact hk _ xdo,owns_heap h.o3 fun j hj=>by cases hj;exact hk _ xdo,owns_heap h.o4 fun j hj=>by cases hj;exact hk _ xdo,h.bB,h.n23⟩
theorem FilS.setL (h:FilS B W b g1 g2 g3 g4 k1 k2 k3 k4 lw n lc c) (y:Int):FilS B (W.setCell ⟨b,5,none⟩ (.int .u64 y)) b g1 g2 g3 g4 k1 k2 k3 k4 lw n lc ⟨c.seg,c.ws,c.ks,c.vs,c.cs,y⟩:=by
 have q:=h.nums;have hbB:=h.bB;have hk:∀z,z≠b→(W.setCell ⟨b,5,none⟩ (.int .u64 y)).heap[z]? =W.heap[z]? :=fun z hz=>heap_setCell_ne _ _ _ hz
 exact ⟨set_keep (by simp) h.c0,set_keep (by simp) h.c1,set_keep (by simp) h.c2,set_keep (by simp) h.c3,set_keep (by simp) h.c4,World.cell?_setCell_same _ _ _ h.c5,
   by rw [World.frozen?_setCell];exact h.f1,by rw [World.frozen?_setCell];exact h.f5,
   owns_heap h.o1 fun j hj=>by cases hj;exact hk _ xdo,owns_heap h.o2 fun j hj=>by cases hj;exact hk _ xdo,owns_heap h.o3 fun j hj=>by cases hj;exact hk _ xdo,owns_heap h.o4 fun j hj=>by cases hj;exact hk _ xdo,h.bB,h.n23⟩
end
theorem Is04_ok (seg:Int) (wa ka va ca:Option Addr) (wc kc vc cc lw n lv lc:Nat) (laid:Int) (ws:List Int) (hlw:ws.length=lw) (hu:U64s ws) (i:Nat) (hi:i/64<lw) (hi2:i≤100000) (w:World) (hw:IsRow .u64 w wa ws):
    Calls Tryz.prog 108 #[.agg #[.int .i64 seg,.slice wa lw wc,.slice ka n kc,.slice va lv vc,.slice ca lc cc,.int .u64 laid],.int .i64 i] w (AnsB w (.bool (bitW ws i))):=by
 subst hlw;have IS:=hid (Is02_ok wa wc ws hu i hi xo (w.alloc (.cells #[.int .i64 seg,.slice wa ws.length wc,.slice ka n kc,.slice va lv vc,.slice ca lc cc,.int .u64 laid] 29)) (hw.alloc _));generalize bitW ws i=bt at *;clear hw hu;generalize ws.length=lw at *;go_enter Tryz.func108,Tryz.ntmps108
 go_wp2_with fail
 refine IS.out.mono ?_;rintro e w' ⟨rfl,rfl⟩;go_wp2
 go_ret
 exact ⟨rfl,(Below.refl _ _).alloc (Nat.le_refl _) _⟩
end
section
open Go.RowKit Go.Shelf
attribute [local go_sem] Oper.semAt_some
structure FilK (w w2 W:World):Prop where
 bel:Below w.heap.size w W
 keep:∀q,q<w.heap.size+2→q≠w.heap.size→W.heap[q]? =w2.heap[q]?
 size:w.heap.size+2≤W.heap.size
theorem FilK.below {w w2 W W':World} (h:FilK w w2 W) (hb:Below W.heap.size W W'):FilK w w2 W':=
  ⟨below_via hb h.bel (by have:=h.size;omega),fun q hq hne=>(hb.block q (by have:=h.size;omega)).trans (h.keep q hq hne),Nat.le_trans h.size hb.size⟩
theorem FilK.drew {w w2 W:World} (h:FilK w w2 W):FilK w w2 W.drew:=⟨h.bel.drew,h.keep,h.size⟩
theorem FilK.setCell {w w2 W:World} (h:FilK w w2 W) {a:Addr} (ha:a.block=w.heap.size∨w.heap.size+2≤a.block) (v:Value):FilK w w2 (W.setCell a v):=
  ⟨h.bel.setCell xo v,fun q hq hne=>(heap_setCell_ne _ _ _ xo).trans (h.keep q hq hne),by rw [World.size_setCell];exact h.size⟩
theorem trnL_length (ws:List Int) (i:Nat) (b:Bool):(trnL ws i b).length=ws.length:=by rw [trnL_set,List.length_set]
theorem Filled_core (w:World) (seg:Int) (wa ka va ca:Option Addr) (wc kc vc cc lw n lc:Nat) (laid:Int) (c:SlC) (lo hi m S:Nat) (ps:List Nat) (L:List (Int×Int)) (pa la:Option Addr) (pc pl:Nat)
    (hgd:SlGd c S lw n lc) (hlw:0<lw) (hlc:0<lc) (hlw2:lw≤2000) (hlo:lo≤hi) (hhi:hi≤n) (hps:ps.length=m) (hL:L.length=m) (hm:m≤65536)
    (hp:∀k,ps.getD k 0<n) (hfree:∀k,k<m→bitW (lys (tks c lo (hi-lo)) ps L k).ws (ps.getD k 0)=false)
    (HP:Hid (IsRow .i64 w pa (ints ps))) (HL:Hid (IsRow .i64 w la (prI L)))
    (TW:Hid (∀W,Below w.heap.size w W→Calls Tryz.prog 5 #[.agg #[.int .i64 seg,.slice wa lw wc,.slice ka n kc,.slice va n vc,.slice ca lc cc,.int .u64 laid]] W (FreshSlN W c))):
    Calls Tryz.prog 100 #[.agg #[.int .i64 seg,.slice wa lw wc,.slice ka n kc,.slice va n vc,.slice ca lc cc,.int .u64 laid],.int .i64 lo,.int .i64 hi,.slice pa m pc,.slice la m pl] w (FreshSl w (lys (tks c lo (hi-lo)) ps L m)):=by
 have HGD:=hid hgd;have HPN:=hid hp;have HFR:=hid hfree;have HPS:=hid hps;have HLL:=hid hL;have hn6:=hgd.nm;have hn1:=hgd.n1;have hS4:=hgd.s4;have hcn:=hgd.cn;have hwn:=hgd.wn;have hS64:=hgd.s64;have hLc:lc≤65536:=by
  have h9:1*lc≤S*lc:=Nat.mul_le_mul_right _ xo;omega
 have HCN:=hid hcn;clear hgd hp hfree hps hL hcn;go_enter Tryz.func100,Tryz.ntmps100
 go_wp2_with fail
 refine (TW.out _ xbel).mono ?_;rintro e w1 ⟨v1,v2,v3,v4,rfl,o1,o2,o3,o4,hb1,hne⟩;have hz_w1:=hb1.size;try simp only [World.size_alloc,World.size_setCell] at hz_w1
 have hh:=bc6 hb1 (au6 (al6 (b:=w.heap.size) (by simp)));obtain ⟨c_t0,c_t1,c_t2,c_t3,c_t4,c_t5⟩:=hh;have hh:=bf6 hb1 (auz (alz (b:=w.heap.size) (by simp))) (auf6 (alz (b:=w.heap.size) (by simp)) (alf6 (b:=w.heap.size) (by simp)));obtain ⟨f_t0,f_t1,f_t2,f_t3,f_t4,f_t5⟩:=hh;have z_t:=blt hb1 (auz (alz (b:=w.heap.size) (by simp)));have hh:=bc6 hb1 (al6 (b:=w.heap.size+1) (by simp));obtain ⟨c_r0,c_r1,c_r2,c_r3,c_r4,c_r5⟩:=hh;have hh:=bf6 hb1 (alz (b:=w.heap.size+1) (by simp)) (alf6 (b:=w.heap.size+1) (by simp));obtain ⟨f_r0,f_r1,f_r2,f_r3,f_r4,f_r5⟩:=hh;have z_r:=blt hb1 (alz (b:=w.heap.size+1) (by simp));have hB1:Below w.heap.size w w1:=xbel;have hz1:w.heap.size+2≤w1.heap.size:=xo;obtain ⟨g1,k1,rfl,hg1,-⟩:=owns_at o1 (by rw [HGD.out.elw];exact hlw);obtain ⟨g2,k2,rfl,hg2,-⟩:=owns_at o2 (by rw [HGD.out.elk];omega);obtain ⟨g3,k3,rfl,hg3,-⟩:=owns_at o3 (by rw [HGD.out.elv];omega);obtain ⟨g4,k4,rfl,hg4,-⟩:=owns_at o4 (by rw [HGD.out.elc];exact hlc);rw [HGD.out.elw] at o1;rw [HGD.out.elk] at o2;rw [HGD.out.elv] at o3;rw [HGD.out.elc] at o4;have n23:g2≠g3:=hne g2 g3 rfl rfl;rw [HGD.out.elw,HGD.out.elk,HGD.out.elv,HGD.out.elc];go_upto_region 2 with (fail)
 have hsx:=six_set (x:= .int .i64 c.seg) (y:= .slice (some ⟨g1,0,none⟩) lw k1) (z:= .slice (some ⟨g2,0,none⟩) n k2) (p:= .slice (some ⟨g3,0,none⟩) n k3) (q:= .slice (some ⟨g4,0,none⟩) lc k4) (r:= .int .u64 c.laid) c_t0 c_t1 c_t2 c_t3 c_t4 c_t5;have hfz:∀a:Addr,((((((w1.setCell ⟨w.heap.size,0,none⟩ (.int .i64 c.seg)).setCell ⟨w.heap.size,1,none⟩ (.slice (some ⟨g1,0,none⟩) lw k1)).setCell ⟨w.heap.size,2,none⟩ (.slice (some ⟨g2,0,none⟩) n k2)).setCell ⟨w.heap.size,3,none⟩ (.slice (some ⟨g3,0,none⟩) n k3)).setCell ⟨w.heap.size,4,none⟩ (.slice (some ⟨g4,0,none⟩) lc k4)).setCell ⟨w.heap.size,5,none⟩ (.int .u64 c.laid)).frozen? a=w1.frozen? a:=fun a=>by
  rw [World.frozen?_setCell,World.frozen?_setCell,World.frozen?_setCell,World.frozen?_setCell,World.frozen?_setCell,World.frozen?_setCell]
 clear c_t0 c_t1 c_t2 c_t3 c_t4 c_t5;generalize hw2:(((((w1.setCell ⟨w.heap.size,0,none⟩ (.int .i64 c.seg)).setCell ⟨w.heap.size,1,none⟩ (.slice (some ⟨g1,0,none⟩) lw k1)).setCell ⟨w.heap.size,2,none⟩ (.slice (some ⟨g2,0,none⟩) n k2)).setCell ⟨w.heap.size,3,none⟩ (.slice (some ⟨g3,0,none⟩) n k3)).setCell ⟨w.heap.size,4,none⟩ (.slice (some ⟨g4,0,none⟩) lc k4)).setCell ⟨w.heap.size,5,none⟩ (.int .u64 c.laid)=w2 at *;have c_t0:=hsx 0 _ rfl;have c_t1:=hsx 1 _ rfl;have c_t2:=hsx 2 _ rfl;have c_t3:=hsx 3 _ rfl;have c_t4:=hsx 4 _ rfl;have c_t5:=hsx 5 _ rfl;replace f_t1:=(hfz _).trans f_t1;replace f_t5:=(hfz _).trans f_t5;clear hsx;have hne2:∀q,q≠w.heap.size→w2.heap[q]? =w1.heap[q]? :=fun q hq=>by
  rw [←hw2,heap_setCell_ne _ _ _ hq,heap_setCell_ne _ _ _ hq,heap_setCell_ne _ _ _ hq,heap_setCell_ne _ _ _ hq,heap_setCell_ne _ _ _ hq,heap_setCell_ne _ _ _ hq]
 have hz2:w2.heap.size=w1.heap.size:=by rw [←hw2];simp
 have HK2:Hid (FilK w w2 w2):=hid ⟨by rw [←hw2];exact (((((hB1.setCell (Nat.le_refl _) _).setCell (Nat.le_refl _) _).setCell (Nat.le_refl _) _).setCell (Nat.le_refl _) _).setCell (Nat.le_refl _) _).setCell (Nat.le_refl _) _,fun _ _ _=>rfl,by omega⟩;have HF2:Hid (FilS (w.heap.size+2) w2 w.heap.size g1 g2 g3 g4 k1 k2 k3 k4 lw n lc c):=hid ⟨c_t0,c_t1,c_t2,c_t3,c_t4,c_t5,f_t1,f_t5,
   owns_heap (owns_base o1 (by simp)) fun j hj=>by cases hj;exact hne2 _ (by dsimp only;simp at hg1;omega),
   owns_heap (owns_base o2 (by simp)) fun j hj=>by cases hj;exact hne2 _ (by dsimp only;simp at hg2;omega),
   owns_heap (owns_base o3 (by simp)) fun j hj=>by cases hj;exact hne2 _ (by dsimp only;simp at hg3;omega),
   owns_heap (owns_base o4 (by simp)) fun j hj=>by cases hj;exact hne2 _ (by dsimp only;simp at hg4;omega),by omega,n23⟩
 have hrb:w2.heap[w.heap.size+1]? =w1.heap[w.heap.size+1]? :=hne2 _ xo;have rc:∀k,w2.cell? ⟨w.heap.size+1,k,none⟩=w1.cell? ⟨w.heap.size+1,k,none⟩:=fun k=>World.cell?_of_block (a:=⟨w.heap.size+1,k,none⟩) hrb
 have HR2:=hid (And.intro ((rc 0).trans c_r0) (And.intro ((rc 1).trans c_r1) (And.intro ((rc 2).trans c_r2) (And.intro ((rc 3).trans c_r3) (And.intro ((rc 4).trans c_r4) (And.intro ((rc 5).trans c_r5) (And.intro ((hfz _).trans f_r0) (And.intro ((hfz _).trans f_r1) (And.intro ((hfz _).trans f_r2) (And.intro ((hfz _).trans f_r3) (And.intro ((hfz _).trans f_r4) ((hfz _).trans f_r5))))))))))));replace hg2:w.heap.size+2≤g2:=by simpa using hg2
 replace hg3:w.heap.size+2≤g3:=by simpa using hg3
 replace hg4:w.heap.size+2≤g4:=by simpa using hg4
 clear hw2 hfz hrb rc hne2 o1 o2 o3 o4 hne hb1 hB1 hg1 c_t0 c_t1 c_t2 c_t3 c_t4 c_t5 f_t0 f_t1 f_t2 f_t3 f_t4 f_t5 c_r0 c_r1 c_r2 c_r3 c_r4 c_r5 f_r0 f_r1 f_r2 f_r3 f_r4 f_r5 TW;go_wp2
 go_loopg [11] (hi-lo) (fun gk iv wr=>∃i g1 k1:Nat,i+gk=hi∧lo≤i∧iv= .int .i64 i∧Hid (FilS (w.heap.size+2) wr w.heap.size g1 g2 g3 g4 k1 k2 k3 k4 lw n lc (tks c lo (i-lo)))∧Hid (FilK w w2 wr))
 case atStart=>exact ⟨lo,g1,k1,by omega,Nat.le_refl _,rfl,by rw [Nat.sub_self];exact HF2,HK2⟩
 case round=>
  clear HF2 HK2;obtain ⟨i,g1,k1,hi',hli,rfl,HF,HK⟩:=hrel;by_cases hlt:i<hi
  · have GD:SlGd (tks c lo (i-lo)) S lw n lc:=SlGd.tks HGD.out (i-lo) xo;have hnx:tks c lo (i+1-lo)=rtC (tks c lo (i-lo)) i:=by
     rw [rtC_eq GD.u,show i+1-lo=(i-lo)+1 by omega,tks,show lo+(i-lo)=i by omega]
    have HNX:=hid hnx;have hu:=GD.u;have hel:=GD.elw;have hcs:=GD.cnt;have hsg:=GD.seg;generalize tks c lo (i-lo)=d at *;clear GD hnx;obtain ⟨dseg,dws,dks,dvs,dcs,dlaid⟩:=d;dsimp only at hu hel hcs hsg;subst hsg;have HI:=hid hi';clear hi';obtain ⟨s,hs⟩:∃s,i/S=s:=⟨_,rfl⟩
    have hsl:s<lc:=by rw [←hs];exact Nat.div_lt_of_lt_mul (by rw [←HCN.out];omega)
    have hsT:(i:Int).tdiv (S:Int)=s:=by rw [Int.tdiv_eq_ediv_of_nonneg xo,←Int.natCast_ediv,hs]
    have hsw:IntKind.i64.wrap (s:Int)=s:=IntWalk.i64_in _ xo;have hs0:((S:Int)==0)=false:=by simp;omega
    have hs1:¬(S:Int)=0:=xo;have hs2:¬S=0:=xo;have hxn:i<n:=xo;have hcn:=hcs s hsl;have hcl:=cntW_le dws (s*S) ((s+1)*S);rw [win_wd] at hcl;obtain ⟨nx,hnx⟩:∃nx,dcs.getD s 0=nx:=⟨_,rfl⟩
    rw [hnx] at hcn;have hnw:IntKind.i64.wrap (nx-1)=nx-1:=IntWalk.i64_in _ xo;have HST:=hid (And.intro hs hnx);have hib:i/64<lw:=xo;clear hs hcs hcn hcl;obtain ⟨c0,c1,c2,c3,c4,c5,f1,f5,o1,o2,o3,o4,-,-⟩:=HF.out;dsimp only at c0 c1 c2 c3 c4 c5 o1 o2 o3 o4;obtain ⟨d4,e4⟩:=own_cells o4 (j:=s) hsl;obtain ⟨d2,e2⟩:=own_cells o2 (j:=i) hxn;obtain ⟨d3,e3⟩:=own_cells o3 (j:=i) hxn;clear o2 o3 o4;obtain ⟨_,_,he,R0,-⟩:=row_of_owns o1;cases he;have IS:=hid (fun W hb=>Is04_ok (S:Int) (some ⟨g1,0,none⟩) (some ⟨g2,0,none⟩) (some ⟨g3,0,none⟩) (some ⟨g4,0,none⟩) k1 k2 k3 k4 lw n n lc dlaid dws hel hu i hib xo W (R0.below hb));have PUT:=hid (fun bt hbt W hw=>Put02_ok (some ⟨g1,0,none⟩) k1 dws hu i (by rw [hel];exact hib) xo bt hbt W hw);rw [hel] at PUT;clear R0;go_wp2_with fail
    refine (IS.out _ (Below.refl _ _)).mono ?_;rintro e w3 ⟨rfl,hb3⟩;have HF3:=hid (HF.out.below hb3);have HK3:=hid (HK.out.below hb3);clear hb3 IS;clear c0 c1 c2 c3 c4 c5 f1 f5 o1 d2 d3 d4 e2 e3 e4;cases hbt:bitW dws i with
    | true=>
     obtain ⟨c0,c1,c2,c3,c4,c5,f1,f5,o1,o2,o3,o4,-,-⟩:=HF3.out;dsimp only at c0 c1 c2 c3 c4 c5 o1 o2 o3 o4;obtain ⟨d4,e4⟩:=own_cells o4 (j:=s) hsl;obtain ⟨d2,e2⟩:=own_cells o2 (j:=i) hxn;obtain ⟨d3,e3⟩:=own_cells o3 (j:=i) hxn;clear o2 o3 o4;rw [hnx] at d4;go_upto_region 6 with (fail)
     go_still_tail 10,xk
     go_upto_region 7 with (fail)
     have HF4:=hid ((HF3.out.setN s (nx-1)).drew);have HK4:=hid ((HK3.out.setCell (a:=⟨g4,s,none⟩) (.inr hg4) (.int .i64 (nx-1))).drew);generalize (w3.setCell ⟨g4,s,none⟩ (.int .i64 (nx-1))).drew=w4 at *;clear HF3 HK3;clear c0 c1 c2 c3 c4 c5 f1 f5 o1 d2 d3 d4 e2 e3 e4;obtain ⟨c0,c1,c2,c3,c4,c5,f1,f5,o1,o2,o3,o4,-,-⟩:=HF4.out;dsimp only at c0 c1 c2 c3 c4 c5 o1 o2 o3 o4;obtain ⟨d4,e4⟩:=own_cells o4 (j:=s) hsl;obtain ⟨d2,e2⟩:=own_cells o2 (j:=i) hxn;obtain ⟨d3,e3⟩:=own_cells o3 (j:=i) hxn;clear o2 o3 o4;obtain ⟨_,_,he,R4,-⟩:=row_of_owns o1;cases he;have P4:=hid (PUT.out false (by rw [hbt];rfl) w4 R4);clear R4 PUT;go_wp2_with fail
     refine P4.out.mono ?_;rintro e w5 ⟨v,rfl,ho,hb5⟩;rw [trnL_length,hel] at ho;obtain ⟨g,kk,rfl,hg,-⟩:=owns_at ho hlw;have HF6:=hid (HF4.out.setW hb5 ho HK4.out.size);have HK6:=hid ((HK4.out.below hb5).setCell (a:=⟨w.heap.size,1,none⟩) (.inl rfl) (.slice (some ⟨g,0,none⟩) lw kk));have HF5:=hid (HF4.out.below hb5);clear ho hg hb5 P4;clear c0 c1 c2 c3 c4 c5 f1 f5 o1 d2 d3 d4 e2 e3 e4;obtain ⟨c0,c1,c2,c3,c4,c5,f1,f5,o1,o2,o3,o4,-,-⟩:=HF5.out;dsimp only at c0 c1 c2 c3 c4 c5 o1 o2 o3 o4;obtain ⟨d4,e4⟩:=own_cells o4 (j:=s) hsl;obtain ⟨d2,e2⟩:=own_cells o2 (j:=i) hxn;obtain ⟨d3,e3⟩:=own_cells o3 (j:=i) hxn;clear o2 o3 o4;go_upto_region 8 with (fail)
     generalize w5.setCell ⟨w.heap.size,1,none⟩ (.slice (some ⟨g,0,none⟩) lw kk)=w6 at *;clear HF5;clear c0 c1 c2 c3 c4 c5 f1 f5 o1 d2 d3 d4 e2 e3 e4;obtain ⟨c0,c1,c2,c3,c4,c5,f1,f5,o1,o2,o3,o4,-,-⟩:=HF6.out;dsimp only at c0 c1 c2 c3 c4 c5 o1 o2 o3 o4;obtain ⟨d4,e4⟩:=own_cells o4 (j:=s) hsl;obtain ⟨d2,e2⟩:=own_cells o2 (j:=i) hxn;obtain ⟨d3,e3⟩:=own_cells o3 (j:=i) hxn;clear o2 o3 o4;go_upto_region 9 with (fail)
     have YF7:=hid (HF6.out.setK i 0);have YK7:=hid (HK6.out.setCell (a:=⟨g2,i,none⟩) (.inr hg2) (.int .i64 0));generalize w6.setCell ⟨g2,i,none⟩ (.int .i64 0)=w7 at *;clear c0 c1 c2 c3 c4 c5 f1 f5 o1 d2 d3 d4 e2 e3 e4;obtain ⟨c0,c1,c2,c3,c4,c5,f1,f5,o1,o2,o3,o4,-,-⟩:=YF7.out;dsimp only at c0 c1 c2 c3 c4 c5 o1 o2 o3 o4;obtain ⟨d4,e4⟩:=own_cells o4 (j:=s) hsl;obtain ⟨d2,e2⟩:=own_cells o2 (j:=i) hxn;obtain ⟨d3,e3⟩:=own_cells o3 (j:=i) hxn;clear o2 o3 o4;go_wp2
     have YF8:=hid (YF7.out.setV i 0);have YK8:=hid (YK7.out.setCell (a:=⟨g3,i,none⟩) (.inr hg3) (.int .i64 0));go_roundg (gk-1)
     case measure=>have:=HI.out;omega
     case rel=>
      refine ⟨i+1,g,kk,by have:=HI.out;omega,by omega,by go_num,hid ?_,YK8⟩;rw [HNX.out,rtC,if_pos hbt];dsimp only;rw [Int.toNat_natCast,HST.out.1,HST.out.2];exact YF8.out
    | false=>
     go_upto_region 8 with (fail)
     obtain ⟨c0,c1,c2,c3,c4,c5,f1,f5,o1,o2,o3,o4,-,-⟩:=HF3.out;dsimp only at c0 c1 c2 c3 c4 c5 o1 o2 o3 o4;obtain ⟨d4,e4⟩:=own_cells o4 (j:=s) hsl;obtain ⟨d2,e2⟩:=own_cells o2 (j:=i) hxn;obtain ⟨d3,e3⟩:=own_cells o3 (j:=i) hxn;clear o2 o3 o4;go_upto_region 9 with (fail)
     have XF7:=hid (HF3.out.setK i 0);have XK7:=hid (HK3.out.setCell (a:=⟨g2,i,none⟩) (.inr hg2) (.int .i64 0));generalize w3.setCell ⟨g2,i,none⟩ (.int .i64 0)=w7 at *;clear c0 c1 c2 c3 c4 c5 f1 f5 o1 d2 d3 d4 e2 e3 e4;obtain ⟨c0,c1,c2,c3,c4,c5,f1,f5,o1,o2,o3,o4,-,-⟩:=XF7.out;dsimp only at c0 c1 c2 c3 c4 c5 o1 o2 o3 o4;obtain ⟨d4,e4⟩:=own_cells o4 (j:=s) hsl;obtain ⟨d2,e2⟩:=own_cells o2 (j:=i) hxn;obtain ⟨d3,e3⟩:=own_cells o3 (j:=i) hxn;clear o2 o3 o4;go_wp2
     have XF8:=hid (XF7.out.setV i 0);have XK8:=hid (XK7.out.setCell (a:=⟨g3,i,none⟩) (.inr hg3) (.int .i64 0));go_roundg (gk-1)
     case measure=>have:=HI.out;omega
     case rel=>
      refine ⟨i+1,g1,k1,by have:=HI.out;omega,by omega,by go_num,hid ?_,XK8⟩;rw [HNX.out,rtC,if_neg (by simp [hbt])];exact XF8.out
  · have hih:i=hi:=xo;subst hih;have HDL:=hid (show lo+(i-lo)≤n by omega);generalize i-lo=dl at *;clear hi' hli hlt hlo hhi;go_wp2
    go_loopg [12] m (fun gk iv wr2=>∃k g1 k1:Nat,k+gk=m∧iv= .int .i64 k∧Hid (FilS (w.heap.size+2) wr2 w.heap.size g1 g2 g3 g4 k1 k2 k3 k4 lw n lc (lys (tks c lo dl) ps L k))∧Hid (FilK w w2 wr2))
    case atStart=>exact ⟨0,g1,k1,by omega,rfl,HF,HK⟩
    case round=>
     clear HF HK;obtain ⟨k,g1,k1,hk,rfl,HF,HK⟩:=hrel;by_cases hlt:k<m
     · obtain ⟨bp,op,x',rfl,hx',cl0,zl⟩:=HP.out.get (i:=k) (by rw [ints_length,HPS.out];exact hlt);obtain ⟨bl,ol,rfl,q00,q10,zq⟩:=pr_get HL.out (i:=k) (by rw [HLL.out];exact hlt);obtain ⟨x,hx⟩:∃x,ps.getD k 0=x:=⟨_,rfl⟩
       have hxx:x'=(x:Int):=by rw [←hx'.out,getD_ints,hx]
       subst hxx;have hxn:x<n:=by rw [←hx];exact HPN.out k
       have GD:SlGd (lys (tks c lo dl) ps L k) S lw n lc:=SlGd.lys (HGD.out.tks dl HDL.out) HPN.out L k;have hfr:=HFR.out k hlt;rw [hx] at hfr;have hnx:lys (tks c lo dl) ps L (k+1)=rlC (lys (tks c lo dl) ps L k) x (L.getD k (0,0)).1 (L.getD k (0,0)).2:=by
        rw [rlC_eq GD.u hfr,lys,hx]
       have HNX:=hid hnx;have hu:=GD.u;have hel:=GD.elw;have hcs:=GD.cnt;have hsg:=GD.seg;generalize (L.getD k (0,0)).1=kx at *;generalize (L.getD k (0,0)).2=vx at *;generalize lys (tks c lo dl) ps L k=d at *;clear GD hnx hx hx';obtain ⟨dseg,dws,dks,dvs,dcs,dlaid⟩:=d;dsimp only at hu hel hcs hsg hfr;subst hsg;have HI:=hid hk;clear hk;obtain ⟨s,hs⟩:∃s,x/S=s:=⟨_,rfl⟩
       have hsl:s<lc:=by rw [←hs];exact Nat.div_lt_of_lt_mul (by rw [←HCN.out];omega)
       have hsT:(x:Int).tdiv (S:Int)=s:=by rw [Int.tdiv_eq_ediv_of_nonneg xo,←Int.natCast_ediv,hs]
       have hsw:IntKind.i64.wrap (s:Int)=s:=IntWalk.i64_in _ xo;have hs0:((S:Int)==0)=false:=by simp;omega
       have hs1:¬(S:Int)=0:=xo;have hs2:¬S=0:=xo;have hcn:=hcs s hsl;have hcl:=cntW_le dws (s*S) ((s+1)*S);rw [win_wd] at hcl;obtain ⟨nx,hnx⟩:∃nx,dcs.getD s 0=nx:=⟨_,rfl⟩
       rw [hnx] at hcn;have hnw:IntKind.i64.wrap (nx+1)=nx+1:=IntWalk.i64_in _ xo;have HST:=hid (And.intro hs hnx);have hib:x/64<lw:=xo;have PUT:=hid (fun W hw=>Put02_ok (some ⟨g1,0,none⟩) k1 dws hu x (by rw [hel];exact hib) xo true (by rw [hfr];rfl) W hw);have HTL:=hid ((trnL_length dws x true).trans hel);rw [hel] at PUT;clear hs hcs hcn hcl hfr hu hel;obtain ⟨c0,c1,c2,c3,c4,c5,f1,f5,o1,o2,o3,o4,-,-⟩:=HF.out;dsimp only at c0 c1 c2 c3 c4 c5 o1 o2 o3 o4;obtain ⟨d4,e4⟩:=own_cells o4 (j:=s) hsl;obtain ⟨d2,e2⟩:=own_cells o2 (j:=x) hxn;obtain ⟨d3,e3⟩:=own_cells o3 (j:=x) hxn;clear o2 o3 o4;have cl:=(HK.out.bel.cell (p:=⟨bp,op+k,none⟩) zl).trans cl0;have q0:=(HK.out.bel.cell (p:=⟨bl,ol+k*2,none⟩) zq).trans q00;have q1:=(HK.out.bel.cell (p:=⟨bl,ol+k*2+1,none⟩) zq).trans q10;rw [hnx] at d4;go_upto_region 13 with (fail)
       go_still_tail 13,xk
       go_upto_region 14 with (fail)
       have HF4:=hid ((HF.out.setN s (nx+1)).drew);have HK4:=hid ((HK.out.setCell (a:=⟨g4,s,none⟩) (.inr hg4) (.int .i64 (nx+1))).drew);generalize (wr.setCell ⟨g4,s,none⟩ (.int .i64 (nx+1))).drew=w4 at *;clear HF HK cl q0 q1;clear c0 c1 c2 c3 c4 c5 f1 f5 o1 d2 d3 d4 e2 e3 e4;obtain ⟨c0,c1,c2,c3,c4,c5,f1,f5,o1,o2,o3,o4,-,-⟩:=HF4.out;dsimp only at c0 c1 c2 c3 c4 c5 o1 o2 o3 o4;obtain ⟨d4,e4⟩:=own_cells o4 (j:=s) hsl;obtain ⟨d2,e2⟩:=own_cells o2 (j:=x) hxn;obtain ⟨d3,e3⟩:=own_cells o3 (j:=x) hxn;clear o2 o3 o4;have cl:=(HK4.out.bel.cell (p:=⟨bp,op+k,none⟩) zl).trans cl0;have q0:=(HK4.out.bel.cell (p:=⟨bl,ol+k*2,none⟩) zq).trans q00;have q1:=(HK4.out.bel.cell (p:=⟨bl,ol+k*2+1,none⟩) zq).trans q10;obtain ⟨_,_,he,R4',-⟩:=row_of_owns o1;cases he;have R4:=hid R4';have hz4:=HK4.out.size;have cl4:=cl;have zl4:bp<w4.heap.size:=xo;clear R4';refine wp_region_facts 7 xk (N:=103) rfl xk xk (by decide) (fun w'=>Below w4.heap.size w4 w') (Ext 29) (factAt [.is (.pointer (some ⟨w.heap.size,1,none⟩)),.is (.slice (some ⟨g1,0,none⟩) lw k1),.is (.slice (some ⟨bp,op,none⟩) m pc),.is (.int .i64 k),.is (.pointer (some ⟨bp,op+k,none⟩)),.is (.int .i64 x),.row w4.heap.size 27 (by decide) 1 lw ((trnL dws x true).map (Value.int .u64))]) (factAt_stays _) (Below.refl _ _).drew ?steps ?fin
       case steps=>
        refine ⟨?o0,?o1,?o2,?o3,?o4,?o5,?o6,trivial⟩
        case o0=>
         intro u a w' ev hJ hd K hK;have e5:a.tmps.getD 5 undef= .pointer (some ⟨w.heap.size,0,none⟩):=ev 5 (by decide);have HK:=hid hK;clear hK ev hd;go_simp;exact HK.out _ _ xzc hJ rfl (Ext.refl _ _)
        case o1=>
         intro u a w' ev hJ hd K hK;have e66:a.tmps.getD 66 undef= .pointer (some ⟨w.heap.size,1,none⟩):=(ev 66 (by decide)).trans (hd 0 _ xk rfl);have g0:=(hJ.cell (p:=⟨w.heap.size,1,none⟩) (by have:=hz4;dsimp only;omega)).trans c1;have HK:=hid hK;clear hK ev hd;go_simp;exact HK.out _ _ xzc hJ rfl (Ext.refl _ _)
        case o2=>
         intro u a w' ev hJ hd K hK;have e3:a.tmps.getD 3 undef= .slice (some ⟨bp,op,none⟩) m pc:=ev 3 (by decide);have HK:=hid hK;clear hK ev hd;go_simp;exact HK.out _ _ xzc hJ rfl (Ext.refl _ _)
        case o3=>
         intro u a w' ev hJ hd K hK;have e12:a.tmps.getD 12 undef= .int .i64 k:=ev 12 (by decide);have HK:=hid hK;clear hK ev hd;go_simp;exact HK.out _ _ xzc hJ rfl (Ext.refl _ _)
        case o4=>
         intro u a w' ev hJ hd K hK;have e68:a.tmps.getD 68 undef= .slice (some ⟨bp,op,none⟩) m pc:=(ev 68 (by decide)).trans (hd 2 _ xk rfl);have e69:a.tmps.getD 69 undef= .int .i64 k:=(ev 69 (by decide)).trans (hd 3 _ xk rfl);have HK:=hid hK;clear hK ev hd;go_simp;exact HK.out _ _ xzc hJ rfl (Ext.refl _ _)
        case o5=>
         intro u a w' ev hJ hd K hK;have e70:a.tmps.getD 70 undef= .pointer (some ⟨bp,op+k,none⟩):=(ev 70 (by decide)).trans (hd 4 _ xk rfl);have g0:=(hJ.cell (p:=⟨bp,op+k,none⟩) xdo).trans cl4;have HK:=hid hK;clear hK ev hd;go_simp;exact HK.out _ _ xzc hJ rfl (Ext.refl _ _)
        case o6=>
         intro u a w' ev hJ hd K hK;have e67:a.tmps.getD 67 undef= .slice (some ⟨g1,0,none⟩) lw k1:=(ev 67 (by decide)).trans (hd 1 _ xk rfl);have e71:a.tmps.getD 71 undef= .int .i64 x:=(ev 71 (by decide)).trans (hd 5 _ xk rfl);have HK':=hid hK;have PT:=hid (PUT.out w' (R4.out.below hJ));have hzJ:=hJ.size;have HJ:=hid hJ;clear hK ev hd hJ;go_simp;refine PT.out.mono ?_;rintro e w'' ⟨v,rfl,ho,hb⟩;rw [HTL.out] at ho;exact HK'.out _ _ xzc (HJ.out.trans (hb.mono hzJ)) (owns_base ho hzJ) (Ext.below hb)
       case fin=>
        intro u w5 hJ hG;have ho:w5.ownsRow w4.heap.size 27 1 (u 72) lw ((trnL dws x true).map (Value.int .u64)):=hG 6 _ rfl;obtain ⟨g,kk,h72,hg,-⟩:=owns_at ho hlw;have h66:u 66= .pointer (some ⟨w.heap.size,1,none⟩):=hG 0 _ rfl;rw [h72] at ho;have HF6:=hid (HF4.out.setW hJ ho HK4.out.size);have HK6:=hid ((HK4.out.below hJ).setCell (a:=⟨w.heap.size,1,none⟩) (.inl rfl) (.slice (some ⟨g,0,none⟩) lw kk));have HF5:=hid (HF4.out.below hJ);clear ho hg hJ hG PUT R4 cl4 cl q0 q1;clear c0 c1 c2 c3 c4 c5 f1 f5 o1 d2 d3 d4 e2 e3 e4;obtain ⟨c0,c1,c2,c3,c4,c5,f1,f5,o1,o2,o3,o4,-,-⟩:=HF5.out;dsimp only at c0 c1 c2 c3 c4 c5 o1 o2 o3 o4;obtain ⟨d4,e4⟩:=own_cells o4 (j:=s) hsl;obtain ⟨d2,e2⟩:=own_cells o2 (j:=x) hxn;obtain ⟨d3,e3⟩:=own_cells o3 (j:=x) hxn;clear o2 o3 o4;simp only [mixFrame,mixL,dstsOf,List.take_succ_cons,List.take_zero,List.filterMap_cons,List.filterMap_nil,List.contains_cons,List.contains_nil,Nat.reduceBEq,Bool.or_false,Bool.false_or,Bool.or_true,Bool.true_or,if_true,if_false,Bool.false_eq_true,Nat.reduceAdd,Nat.zero_add,List.drop_succ_cons,List.drop_zero,h72];go_upto_region 15 with (fail)
        generalize w5.setCell ⟨w.heap.size,1,none⟩ (.slice (some ⟨g,0,none⟩) lw kk)=w6 at *;clear HF5;clear c0 c1 c2 c3 c4 c5 f1 f5 o1 d2 d3 d4 e2 e3 e4;obtain ⟨c0,c1,c2,c3,c4,c5,f1,f5,o1,o2,o3,o4,-,-⟩:=HF6.out;dsimp only at c0 c1 c2 c3 c4 c5 o1 o2 o3 o4;obtain ⟨d4,e4⟩:=own_cells o4 (j:=s) hsl;obtain ⟨d2,e2⟩:=own_cells o2 (j:=x) hxn;obtain ⟨d3,e3⟩:=own_cells o3 (j:=x) hxn;clear o2 o3 o4;have cl:=(HK6.out.bel.cell (p:=⟨bp,op+k,none⟩) zl).trans cl0;have q0:=(HK6.out.bel.cell (p:=⟨bl,ol+k*2,none⟩) zq).trans q00;have q1:=(HK6.out.bel.cell (p:=⟨bl,ol+k*2+1,none⟩) zq).trans q10;go_still_tail 12,xk
        go_upto_region 16 with (fail)
        have HF7:=hid ((HF6.out.setK x kx).drew);have HK7:=hid ((HK6.out.setCell (a:=⟨g2,x,none⟩) (.inr hg2) (.int .i64 kx)).drew);generalize (w6.setCell ⟨g2,x,none⟩ (.int .i64 kx)).drew=w7 at *;clear cl q0 q1 HF6 HK6;clear c0 c1 c2 c3 c4 c5 f1 f5 o1 d2 d3 d4 e2 e3 e4;obtain ⟨c0,c1,c2,c3,c4,c5,f1,f5,o1,o2,o3,o4,-,-⟩:=HF7.out;dsimp only at c0 c1 c2 c3 c4 c5 o1 o2 o3 o4;obtain ⟨d4,e4⟩:=own_cells o4 (j:=s) hsl;obtain ⟨d2,e2⟩:=own_cells o2 (j:=x) hxn;obtain ⟨d3,e3⟩:=own_cells o3 (j:=x) hxn;clear o2 o3 o4;have cl:=(HK7.out.bel.cell (p:=⟨bp,op+k,none⟩) zl).trans cl0;have q0:=(HK7.out.bel.cell (p:=⟨bl,ol+k*2,none⟩) zq).trans q00;have q1:=(HK7.out.bel.cell (p:=⟨bl,ol+k*2+1,none⟩) zq).trans q10;go_still_tail 12,xk
        go_upto_region 17 with (fail)
        have HF8:=hid ((HF7.out.setV x vx).drew);have HK8:=hid ((HK7.out.setCell (a:=⟨g3,x,none⟩) (.inr hg3) (.int .i64 vx)).drew);generalize (w7.setCell ⟨g3,x,none⟩ (.int .i64 vx)).drew=w8 at *;clear cl q0 q1 HF7 HK7;clear c0 c1 c2 c3 c4 c5 f1 f5 o1 d2 d3 d4 e2 e3 e4;obtain ⟨c0,c1,c2,c3,c4,c5,f1,f5,o1,o2,o3,o4,-,-⟩:=HF8.out;dsimp only at c0 c1 c2 c3 c4 c5 o1 o2 o3 o4;obtain ⟨d4,e4⟩:=own_cells o4 (j:=s) hsl;obtain ⟨d2,e2⟩:=own_cells o2 (j:=x) hxn;obtain ⟨d3,e3⟩:=own_cells o3 (j:=x) hxn;clear o2 o3 o4;go_wp2
        have HF9:=hid (HF8.out.setL (IntKind.u64.wrap (dlaid+1)));have HK9:=hid (HK8.out.setCell (a:=⟨w.heap.size,5,none⟩) (.inl rfl) (.int .u64 (IntKind.u64.wrap (dlaid+1))));go_roundg (gk-1)
        case measure=>have:=HI.out;omega
        case rel=>
         refine ⟨k+1,g,kk,by have:=HI.out;omega,by go_num,hid ?_,HK9⟩;rw [HNX.out,rlC];dsimp only;rw [Int.toNat_natCast,HST.out.1,HST.out.2];exact HF9.out
     · have hkm:m=k:=xo;subst hkm;generalize lys (tks c lo dl) ps L m=d at *;obtain ⟨c0,c1,c2,c3,c4,c5,f1,f5,p1,p2,p3,p4,-,-⟩:=HF.out;have l1:=own_len p1;have l2:=own_len p2;have l3:=own_len p3;have l4:=own_len p4;obtain ⟨r0,r1,r2,r3,r4,r5,t0,t1,t2,t3,t4,t5⟩:=HR2.out;have hrb:=HK.out.keep (w.heap.size+1) xo xo;have rc:∀k,wr.cell? ⟨w.heap.size+1,k,none⟩=w2.cell? ⟨w.heap.size+1,k,none⟩:=fun k=>World.cell?_of_block (a:=⟨w.heap.size+1,k,none⟩) hrb
       have rf:∀k,wr.frozen? ⟨w.heap.size+1,k,none⟩=w2.frozen? ⟨w.heap.size+1,k,none⟩:=fun k=>World.frozen?_of_block (a:=⟨w.heap.size+1,k,none⟩) hrb
       replace r0:=(rc 0).trans r0;replace r1:=(rc 1).trans r1;replace r2:=(rc 2).trans r2;replace r3:=(rc 3).trans r3;replace r4:=(rc 4).trans r4;replace r5:=(rc 5).trans r5;replace t0:=(rf 0).trans t0;replace t1:=(rf 1).trans t1;replace t2:=(rf 2).trans t2;replace t3:=(rf 3).trans t3;replace t4:=(rf 4).trans t4;replace t5:=(rf 5).trans t5;have hzr:=HK.out.size;have HP1:=hid (owns_base p1 (by omega:w.heap.size≤w.heap.size+2));have HP2:=hid (owns_base p2 (by omega:w.heap.size≤w.heap.size+2));have HP3:=hid (owns_base p3 (by omega:w.heap.size≤w.heap.size+2));have HP4:=hid (owns_base p4 (by omega:w.heap.size≤w.heap.size+2));have HN1:=hid (And.intro (p1.lt g1 rfl).1 (And.intro (p2.lt g2 rfl).1 (And.intro (p3.lt g3 rfl).1 (p4.lt g4 rfl).1)));have HLN:=hid (And.intro l1 (And.intro l2 (And.intro l3 l4)));have HB:=hid HK.out.bel;clear rc rf hrb p1 p2 p3 p4 l1 l2 l3 l4;go_wp2
       have HQ:Hid (∀q,q≠w.heap.size+1→((((((wr.setCell ⟨w.heap.size+1,0,none⟩ (.int .i64 d.seg)).setCell ⟨w.heap.size+1,1,none⟩ (.slice (some ⟨g1,0,none⟩) lw k1)).setCell ⟨w.heap.size+1,2,none⟩ (.slice (some ⟨g2,0,none⟩) n k2)).setCell ⟨w.heap.size+1,3,none⟩ (.slice (some ⟨g3,0,none⟩) n k3)).setCell ⟨w.heap.size+1,4,none⟩ (.slice (some ⟨g4,0,none⟩) lc k4)).setCell ⟨w.heap.size+1,5,none⟩ (.int .u64 d.laid)).heap[q]? =wr.heap[q]?):=hid fun q hq=>by
        rw [heap_setCell_ne _ _ _ hq,heap_setCell_ne _ _ _ hq,heap_setCell_ne _ _ _ hq,heap_setCell_ne _ _ _ hq,heap_setCell_ne _ _ _ hq,heap_setCell_ne _ _ _ hq]
       refine bodyPost_ret (results_c rfl rfl (run_loadVar_many _ Tryz.underlying29 rfl xk (six_set r0 r1 r2 r3 r4 r5))) rfl ⟨_,_,_,_,rfl,?_,?_,?_,?_,?_⟩
       · rw [HLN.out.1];exact owns_heap HP1.out fun j hj=>by cases hj;exact HQ.out _ (by have:=HN1.out.1;dsimp only;omega)
       · rw [HLN.out.2.1];exact owns_heap HP2.out fun j hj=>by cases hj;exact HQ.out _ (by have:=HN1.out.2.1;dsimp only;omega)
       · rw [HLN.out.2.2.1];exact owns_heap HP3.out fun j hj=>by cases hj;exact HQ.out _ (by have:=HN1.out.2.2.1;dsimp only;omega)
       · rw [HLN.out.2.2.2];exact owns_heap HP4.out fun j hj=>by cases hj;exact HQ.out _ (by have:=HN1.out.2.2.2;dsimp only;omega)
       · exact (((((HB.out.setCell xdo _).setCell xdo _).setCell xdo _).setCell xdo _).setCell xdo _).setCell xdo _
end
end Go.Proofs.YtookgoidlnlckaaGreatDoor

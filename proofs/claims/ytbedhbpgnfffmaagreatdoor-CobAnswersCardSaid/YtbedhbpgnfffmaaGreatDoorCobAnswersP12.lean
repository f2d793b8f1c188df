/- Merged: Under, Keys, IdxCheck, IdxAt, Window, WindowOk, MendTu. -/
import Derived.Test.YtbedhbpgnfffmaaGreatDoorCobAnswersP11
import Derived.Maps.RangeWalk
import Derived.Maps.OwnSet
import Derived.Maps.OwnOps
import Derived.Maps.Views
import Derived.Test.YtbedhbpgnfffmaaGreatDoorCobAnswersP4
import Derived.BigRegion
import Derived.Deep.RegionHeld3
import Derived.Deep.CutRange
import Derived.Deep.CutBlock
import Derived.Laws.StructEq
import Derived.Test.YtbedhbpgnfffmaaGreatDoorCobAnswersP8
import Derived.Test.YtbedhbpgnfffmaaGreatDoorCobAnswersP3
namespace Go.Proofs.YtbedhbpgnfffmaaGreatDoor
set_option maxRecDepth 100000
set_option maxHeartbeats 40000000
set_option linter.unusedVariables false
set_option linter.unusedSimpArgs false
section
open Go.RowKit Go.Shelf
attribute [local go_sem] Oper.semAt_some
structure Tn (S:Nat->Prop) (W W':World):Prop where
 os:W'.os=W.os
 tape:W'.tape=W.tape
 output:W'.output=W.output
 size:W.heap.size<=W'.heap.size
 keep:∀q,q<W.heap.size->¬S q->W'.heap[q]? =W.heap[q]?
theorem Tn.refl (S:Nat->Prop) (W:World):Tn S W W:=⟨rfl,rfl,rfl,Nat.le_refl _,fun _ _ _=>rfl⟩
theorem Tn.trans {S:Nat->Prop} {X Y Z:World} (h:Tn S X Y) (k:Tn S Y Z):Tn S X Z:=
  ⟨k.os.trans h.os,k.tape.trans h.tape,k.output.trans h.output,Nat.le_trans h.size k.size,fun q hq hs=>(k.keep q (Nat.lt_of_lt_of_le hq h.size) hs).trans (h.keep q hq hs)⟩
theorem Tn.of_below {S:Nat->Prop} {W W':World} (h:Below W.heap.size W W'):Tn S W W':=⟨h.os,h.tape,h.output,h.size,fun q hq _=>h.block q hq⟩
theorem Tn.iT {S:Nat->Prop} {W W':World} {b:Nat} (h:W.grownBy W' (some b)) (hb:S b):Tn S W W':=⟨h.os,h.tape,h.output,h.size,fun q hq hs=>h.block q hq (fun e=>hs (by cases e;exact hb))⟩
theorem Tn.Oa {S:Nat->Prop} {W W':World} (h:W.grownBy W' none):Tn S W W':=⟨h.os,h.tape,h.output,h.size,fun q hq _=>h.block q hq ax⟩
theorem Tn.wide {S T:Nat->Prop} {W W':World} (h:Tn S W W') (hst:∀q,S q->T q):Tn T W W':=⟨h.os,h.tape,h.output,h.size,fun q hq hs=>h.keep q hq (fun e=>hs (hst q e))⟩
theorem Tn.setCell {S:Nat->Prop} {W W':World} (h:Tn S W W') {a:Addr} (ha:S a.block) (v:Value):Tn S W (W'.setCell a v):=
  ⟨h.os,h.tape,h.output,by simp only [World.size_setCell];exact h.size,fun q hq hs=>(Below.heap_setCell _ _ _ _ (fun e=>hs (by rw [e];exact ha))).trans (h.keep q hq hs)⟩
theorem Tn.drewN {S:Nat->Prop} {W W':World} (h:Tn S W W') (n:Nat):Tn S W (W'.drewN n):=⟨h.os,h.tape,h.output,h.size,h.keep⟩
theorem Tn.drew {S:Nat->Prop} {W W':World} (h:Tn S W W'):Tn S W W'.drew:=⟨h.os,h.tape,h.output,h.size,h.keep⟩
theorem Tn.cell {S:Nat->Prop} {W W':World} (h:Tn S W W') {a:Addr} {v:Value} (hs:¬S a.block) (hc:W.cell? a=some v):W'.cell? a=some v:=by
 rw [World.cell?_of_block (w:=W) (h.keep _ (World.block_lt_of_cell? _ _ hc) hs)];exact hc
theorem Tn.frozen {S:Nat->Prop} {W W':World} (h:Tn S W W') {a:Addr} {x:Bool} (hl:a.block<W.heap.size) (hs:¬S a.block) (hf:W.frozen? a=x):W'.frozen? a=x:=by
 rw [World.frozen?_of_block (w:=W) (h.keep _ hl hs)];exact hf
theorem Tn.below {S:Nat->Prop} {W W':World} (h:Tn S W W') {B:Nat} (hS:∀q,S q->B<=q) {w:World} (hb:Below B w W) (hB:B<=W.heap.size):Below B w W':=
  ⟨h.os.trans hb.os,h.tape.trans hb.tape,h.output.trans hb.output,Nat.le_trans hb.size h.size,fun q hq=>(h.keep q xo (fun e=>by have:=hS q e;omega)).trans (hb.block q hq)⟩
theorem Tn.owns {S:Nat->Prop} {W W':World} (h:Tn S W W') {B:Nat} {e:TypeId} {s:Nat} {v:Value} {n:Nat} {xs:List Value} (ho:W.ownsRow B e s v n xs) (hs:∀k,v.ownBlock=some k->¬S k):W'.ownsRow B e s v n xs:=
  af ho fun k hk=>h.keep k (ho.lt k hk).2 (hs k hk)
structure vg (B:Nat) (W:World) (U g1 g2 N k1 k2 L:Nat) (f g:Nat->Int):Prop where
 c0:W.cell? ⟨U,0,none⟩=some (.int .i64 L)
 c1:W.cell? ⟨U,1,none⟩=some (.slice (some ⟨g1,0,none⟩) N k1)
 c2:W.cell? ⟨U,2,none⟩=some (.slice (some ⟨g2,0,none⟩) N k2)
 o1:W.ownsRow B 2 1 (.slice (some ⟨g1,0,none⟩) N k1) N (((lay L 1).map f).map (Value.int .i64))
 o2:W.ownsRow B 3 1 (.slice (some ⟨g2,0,none⟩) N k2) N (((lay L 1).map g).map (Value.int .i64))
 n1:U≠g1
 n2:U≠g2
 n3:g1≠g2
theorem vg.tn {B:Nat} {W W':World} {U g1 g2 N k1 k2 L:Nat} {f g:Nat->Int} (h:vg B W U g1 g2 N k1 k2 L f g) {S:Nat->Prop} (t:Tn S W W') (hU:¬S U) (h1:¬S g1) (h2:¬S g2):vg B W' U g1 g2 N k1 k2 L f g:=
  ⟨t.cell hU h.c0,t.cell hU h.c1,t.cell hU h.c2,t.owns h.o1 (fun k hk=>by cases hk;exact h1),t.owns h.o2 (fun k hk=>by cases hk;exact h2),h.n1,h.n2,h.n3⟩
theorem vg.Qi {B:Nat} {W:World} {U g1 g2 N k1 k2 L:Nat} {f g f' g':Nat->Int} (h:vg B W U g1 g2 N k1 k2 L f g) (hL:1<=L) (e1:∀n,n≠0->f' n=f n) (e2:∀n,n≠0->g' n=g n):vg B W U g1 g2 N k1 k2 L f' g':=by
 have hm:∀n ∈ lay L 1,n≠0:=fun n hn=>by have:=G5 L L 1 (Nat.le_refl _) hL n hn;omega
 refine ⟨h.c0,h.c1,h.c2,?_,?_,h.n1,h.n2,h.n3⟩
 . rw [List.map_congr_left (fun n hn=>e1 n (hm n hn))];exact h.o1
 . rw [List.map_congr_left (fun n hn=>e2 n (hm n hn))];exact h.o2
def RN (B g N c:Nat) (e:TypeId) (xs:List Int) (w:World):Prop:=w.ownsRow B e 1 (.slice (some ⟨g,0,none⟩) N c) N (xs.map (Value.int .i64))
def JT (B g1 g2 N k1 k2:Nat) (X:World) (xs ys:List Int) (p:Nat) (m k:Int) (w:World):Prop:=
  Tn (fun q=>q=g1\/q=g2) X w/\(RN B g1 N k1 2 xs w\/RN B g1 N k1 2 (xs.set p m) w)/\(RN B g2 N k2 3 ys w\/RN B g2 N k2 3 (ys.set p k) w)
theorem RN.other {B g N c:Nat} {e:TypeId} {xs:List Int} {w:World} (h:RN B g N c e xs w) {a:Addr} (hne:g≠a.block) (v:Value):RN B g N c e xs (w.setCell a v):=
  af h fun q hq=>Below.heap_setCell _ _ _ _ (by cases hq;exact hne)
theorem yN {B g N c:Nat} {e:TypeId} {xs:List Int} {w:World} {p:Nat} {m:Int} (h:RN B g N c e xs w\/RN B g N c e (xs.set p m) w):RN B g N c e (xs.set p m) (w.setCell ⟨g,p,none⟩ (.int .i64 m)):=by
 rcases h with h|h
 . exact dX h p m
 . have:=dX h p m;rw [List.set_set] at this;exact this
theorem Pj {B g N c:Nat} {e:TypeId} {xs:List Int} {w:World} {p:Nat} {m:Int} (h:RN B g N c e xs w\/RN B g N c e (xs.set p m) w) (hp:p<xs.length):∃y,w.cell? ⟨g,p,none⟩=some (.int .i64 y)/\w.frozen? ⟨g,p,none⟩=false:=by
 rcases h with h|h
 . exact ⟨_,bM h hp⟩
 . exact ⟨_,bM h (by rw [List.length_set];exact hp)⟩
theorem abx {B g1 g2 N k1 k2:Nat} {X:World} {xs ys:List Int} {p:Nat} {m k:Int} {w:World} (h:JT B g1 g2 N k1 k2 X xs ys p m k w) (hp:p<xs.length) (hne:g1≠g2):
    ∃ y,w.cell? ⟨g1,p,none⟩=some (.int .i64 y)/\w.frozen? ⟨g1,p,none⟩=false/\JT B g1 g2 N k1 k2 X xs ys p m k (w.setCell ⟨g1,p,none⟩ (.int .i64 m))/\RN B g1 N k1 2 (xs.set p m) (w.setCell ⟨g1,p,none⟩ (.int .i64 m))/\
      ((RN B g1 N k1 2 (xs.set p m) w->RN B g1 N k1 2 (xs.set p m) (w.setCell ⟨g1,p,none⟩ (.int .i64 m)))/\(RN B g2 N k2 3 (ys.set p k) w->RN B g2 N k2 3 (ys.set p k) (w.setCell ⟨g1,p,none⟩ (.int .i64 m)))):=by
 obtain ⟨h1,h2,h3⟩:=h;obtain ⟨y,c,f⟩:=Pj h2 hp;exact ⟨y,c,f,⟨h1.setCell (.inl rfl) _,.inr (yN h2),h3.imp (fun h=>h.other (fun e=>hne e.symm) _) (fun h=>h.other (fun e=>hne e.symm) _)⟩,yN h2,fun _=>yN h2,fun h=>h.other (fun e=>hne e.symm) _⟩
theorem abw {B g1 g2 N k1 k2:Nat} {X:World} {xs ys:List Int} {p:Nat} {m k:Int} {w:World} (h:JT B g1 g2 N k1 k2 X xs ys p m k w) (hp:p<ys.length) (hne:g1≠g2):
    ∃ y,w.cell? ⟨g2,p,none⟩=some (.int .i64 y)/\w.frozen? ⟨g2,p,none⟩=false/\JT B g1 g2 N k1 k2 X xs ys p m k (w.setCell ⟨g2,p,none⟩ (.int .i64 k))/\RN B g2 N k2 3 (ys.set p k) (w.setCell ⟨g2,p,none⟩ (.int .i64 k))/\
      ((RN B g1 N k1 2 (xs.set p m) w->RN B g1 N k1 2 (xs.set p m) (w.setCell ⟨g2,p,none⟩ (.int .i64 k)))/\(RN B g2 N k2 3 (ys.set p k) w->RN B g2 N k2 3 (ys.set p k) (w.setCell ⟨g2,p,none⟩ (.int .i64 k)))):=by
 obtain ⟨h1,h2,h3⟩:=h;obtain ⟨y,c,f⟩:=Pj h3 hp;exact ⟨y,c,f,⟨h1.setCell (.inr rfl) _,h2.imp (fun h=>h.other hne _) (fun h=>h.other hne _),.inr (yN h3)⟩,yN h3,fun h=>h.other hne _,fun _=>yN h3⟩
theorem OZ {B:Nat} {W:World} {U g1 g2 N k1 k2 L:Nat} {f g:Nat->Int} (h:vg B W U g1 g2 N k1 k2 L f g) (hL1:1<=L) (hL2:L<=14) (hN:N+1=2^L) (n:Nat) (n1:1<=n) (n2:n<2^L):
    Calls Tryz.prog 221 #[.pointer (some ⟨U,0,none⟩),.int .i64 n] W fun e w'=>e= .returned (.tuple #[.int .i64 (f n),.int .i64 (g n)])/\Below W.heap.size W w':=by
 have hnd:yE (L:Int) (n:Int)=0:=by
  have:(2:Int)^((L:Int)).toNat=((2^L:Nat):Int):=by rw [Int.toNat_natCast];push_cast;rfl
  exact if_pos ⟨by omega,by omega,by rw [this];omega⟩
 obtain ⟨p,hp⟩:∃p:Nat,oJ L n=p:=⟨_,rfl⟩
 have hpN:p<N:=by have:=(kK hL1 n1 n2).1;omega
 have hvp:QR (L:Int) (n:Int)=(p:Int):=by rw [QR,if_pos hnd,Int.toNat_natCast,Int.toNat_natCast,hp]
 have PL:=hid (fun w=>qf (L:Int) (n:Int) w);rw [hvp,hnd] at PL;have hl:=fG 1 hL1;have d1:=(bM h.o1 (j:=p) (by simp;omega)).1;have d2:=(bM h.o2 (j:=p) (by simp;omega)).1;rw [<-hp,P7 hL1 f n1 n2] at d1;rw [<-hp,P7 hL1 g n1 n2] at d2;rw [hp] at d1 d2;have c0:=h.c0;have c1:=h.c1;have c2:=h.c2;generalize f n=X at *;generalize g n=Y at *;clear hnd hp hvp hl h hN n2;go_enter Tryz.func221,Tryz.ntmps221
 go_wp2_with fail
 refine (PL.out W).mono ?_;rintro e w1 ⟨rfl,hb1⟩;replace c0:=(hb1.cell (World.block_lt_of_cell? _ _ c0)).trans c0;replace c1:=(hb1.cell (World.block_lt_of_cell? _ _ c1)).trans c1;replace c2:=(hb1.cell (World.block_lt_of_cell? _ _ c2)).trans c2;replace d1:=(hb1.cell (World.block_lt_of_cell? _ _ d1)).trans d1;replace d2:=(hb1.cell (World.block_lt_of_cell? _ _ d2)).trans d2;have HB:=hid hb1;clear hb1;go_wp2
 go_big_quiet (fail)
 go_wp2
 go_ret2
 exact ⟨rfl,below_drewN HB.out _⟩
theorem Gf {B:Nat} {W:World} {U g1 g2 N k1 k2 L:Nat} {f g:Nat->Int} (h:vg B W U g1 g2 N k1 k2 L f g) (hL1:1<=L) (hL2:L<=14) (hN:N+1=2^L) (n:Nat) (n1:1<=n) (n2:n<2^L) (m k:Int):
    Calls Tryz.prog 188 #[.pointer (some ⟨U,0,none⟩),.int .i64 n,.int .i64 m,.int .i64 k] W fun e w'=>(∃v,e= .returned v)/\Tn (fun q=>q=g1\/q=g2) W w'/\vg B w' U g1 g2 N k1 k2 L (upd f n m) (upd g n k):=by
 have hnd:yE (L:Int) (n:Int)=0:=by
  have:(2:Int)^((L:Int)).toNat=((2^L:Nat):Int):=by rw [Int.toNat_natCast];push_cast;rfl
  exact if_pos ⟨by omega,by omega,by rw [this];omega⟩
 obtain ⟨p,hp⟩:∃p:Nat,oJ L n=p:=⟨_,rfl⟩
 have hpN:p<N:=by have:=(kK hL1 n1 n2).1;omega
 have hvp:QR (L:Int) (n:Int)=(p:Int):=by rw [QR,if_pos hnd,Int.toNat_natCast,Int.toNat_natCast,hp]
 have PL:=hid (fun w=>qf (L:Int) (n:Int) w);rw [hvp,hnd] at PL;have hl:=fG 1 hL1;have S1:=hid (P6 hL1 f n1 n2 m);have S2:=hid (P6 hL1 g n1 n2 k);rw [hp] at S1 S2;have HU:=hid h;have hpl:p<((lay L 1).map f).length:=by rw [List.length_map];omega
 have hpl':p<((lay L 1).map g).length:=by rw [List.length_map];omega
 have aja:p<N:=hpN;clear hnd hp hvp hN n2 hpN;go_enter Tryz.func188,Tryz.ntmps188
 have c0:=HU.out.c0;go_wp2_with fail
 refine (PL.out W).mono ?_;rintro e w1 ⟨rfl,hb1⟩;have h1:vg B w1 U g1 g2 N k1 k2 L f g:=HU.out.tn (Tn.of_below (S:=fun _=>False) hb1) (fun h=>h) (fun h=>h) (fun h=>h);replace c0:=h1.c0;have c1:=h1.c1;have c2:=h1.c2;have n3:=h1.n3;have HT:=hid (Tn.of_below (S:=fun q=>q=g1\/q=g2) hb1);have H1:=hid h1;clear hb1 h1 HU PL;have hu:Hid (¬(U=g1\/U=g2)):=hid fun h=>h.elim H1.out.n1 H1.out.n2
 have ST1:Hid (∀w',JT B g1 g2 N k1 k2 w1 ((lay L 1).map f) ((lay L 1).map g) p m k w'->∃y,w'.cell? ⟨g1,p,none⟩=some (.int .i64 y)/\w'.frozen? ⟨g1,p,none⟩=false/\JT B g1 g2 N k1 k2 w1 ((lay L 1).map f) ((lay L 1).map g) p m k (w'.setCell ⟨g1,p,none⟩ (.int .i64 m))/\RN B g1 N k1 2 (((lay L 1).map f).set p m) (w'.setCell ⟨g1,p,none⟩ (.int .i64 m))/\((RN B g1 N k1 2 (((lay L 1).map f).set p m) w'->RN B g1 N k1 2 (((lay L 1).map f).set p m) (w'.setCell ⟨g1,p,none⟩ (.int .i64 m)))/\(RN B g2 N k2 3 (((lay L 1).map g).set p k) w'->RN B g2 N k2 3 (((lay L 1).map g).set p k) (w'.setCell ⟨g1,p,none⟩ (.int .i64 m))))):=hid fun w' h=>abx h hpl n3
 have ST2:Hid (∀w',JT B g1 g2 N k1 k2 w1 ((lay L 1).map f) ((lay L 1).map g) p m k w'->∃y,w'.cell? ⟨g2,p,none⟩=some (.int .i64 y)/\w'.frozen? ⟨g2,p,none⟩=false/\JT B g1 g2 N k1 k2 w1 ((lay L 1).map f) ((lay L 1).map g) p m k (w'.setCell ⟨g2,p,none⟩ (.int .i64 k))/\RN B g2 N k2 3 (((lay L 1).map g).set p k) (w'.setCell ⟨g2,p,none⟩ (.int .i64 k))/\((RN B g1 N k1 2 (((lay L 1).map f).set p m) w'->RN B g1 N k1 2 (((lay L 1).map f).set p m) (w'.setCell ⟨g2,p,none⟩ (.int .i64 k)))/\(RN B g2 N k2 3 (((lay L 1).map g).set p k) w'->RN B g2 N k2 3 (((lay L 1).map g).set p k) (w'.setCell ⟨g2,p,none⟩ (.int .i64 k))))):=hid fun w' h=>abw h hpl' n3
 go_wp2
 refine di 18 xk (N:=36) rfl xk xk au (fun w'=>JT B g1 g2 N k1 k2 w1 ((lay L 1).map f) ((lay L 1).map g) p m k w') (fun w w'=>(RN B g1 N k1 2 (((lay L 1).map f).set p m) w->RN B g1 N k1 2 (((lay L 1).map f).set p m) w')/\(RN B g2 N k2 3 (((lay L 1).map g).set p k) w->RN B g2 N k2 3 (((lay L 1).map g).set p k) w')) (gU [.is (.pointer (some ⟨U,0,none⟩)),.is (.pointer (some ⟨U,0,none⟩)),.is (.pointer (some ⟨U,0,none⟩)),.is (.pointer (some ⟨U,1,none⟩)),.is (.slice (some ⟨g1,0,none⟩) N k1),.is (.int .i64 (p:Nat)),.is (.pointer (some ⟨U,0,none⟩)),.is (.pointer (some ⟨U,0,none⟩)),.is (.pointer (some ⟨U,0,none⟩)),.is (.pointer (some ⟨U,2,none⟩)),.is (.slice (some ⟨g2,0,none⟩) N k2),.is (.int .i64 (p:Nat)),.is (.int .i64 m),.is (.int .i64 k),.is (.pointer (some ⟨g1,p,none⟩)),.now (RN B g1 N k1 2 (((lay L 1).map f).set p m)) (fun _ _ h=>h.1),.is (.pointer (some ⟨g2,p,none⟩)),.now (RN B g2 N k2 3 (((lay L 1).map g).set p k)) (fun _ _ h=>h.2)]) (dA _) ⟨(Tn.refl _ _).drew,.inl H1.out.o1,.inl H1.out.o2⟩ ?steps ?fin
 case steps=>
  refine ⟨?o0,?o1,?o2,?o3,?o4,?o5,?o6,?o7,?o8,?o9,?o10,?o11,?o12,?o13,?o14,?PX,?o16,?Uj,trivial⟩<;>intro u a w' ev hJ hd K hK
  case o0=>
   have e0:tg a 0= .pointer (some ⟨U,0,none⟩):=ev 0 au;have HK:=hid hK;clear hK ev hd;go_simp;exact HK.out _ _ aS hJ rfl ⟨fun h=>h,fun h=>h⟩
  case o1=>
   have e20:tg a 20= .pointer (some ⟨U,0,none⟩):=(ev 20 au).trans (hd 0 _ xk rfl);have HK:=hid hK;clear hK ev hd;go_simp;exact HK.out _ _ aS hJ rfl ⟨fun h=>h,fun h=>h⟩
  case o2=>
   have e21:tg a 21= .pointer (some ⟨U,0,none⟩):=(ev 21 au).trans (hd 1 _ xk rfl);have HK:=hid hK;clear hK ev hd;go_simp;exact HK.out _ _ aS hJ rfl ⟨fun h=>h,fun h=>h⟩
  case o3=>
   have e22:tg a 22= .pointer (some ⟨U,0,none⟩):=(ev 22 au).trans (hd 2 _ xk rfl);have HK:=hid hK;clear hK ev hd;go_simp;exact HK.out _ _ aS hJ rfl ⟨fun h=>h,fun h=>h⟩
  case o4=>
   have e23:tg a 23= .pointer (some ⟨U,1,none⟩):=(ev 23 au).trans (hd 3 _ xk rfl);have g0:=hJ.1.cell (a:=⟨U,1,none⟩) hu.out c1;have HK:=hid hK;clear hK ev hd;go_simp;exact HK.out _ _ aS hJ rfl ⟨fun h=>h,fun h=>h⟩
  case o5=>
   have e8:tg a 8= .int .i64 (p:Nat):=ev 8 au;have HK:=hid hK;clear hK ev hd;go_simp;exact HK.out _ _ aS hJ rfl ⟨fun h=>h,fun h=>h⟩
  case o6=>
   have e0:tg a 0= .pointer (some ⟨U,0,none⟩):=ev 0 au;have HK:=hid hK;clear hK ev hd;go_simp;exact HK.out _ _ aS hJ rfl ⟨fun h=>h,fun h=>h⟩
  case o7=>
   have e26:tg a 26= .pointer (some ⟨U,0,none⟩):=(ev 26 au).trans (hd 6 _ xk rfl);have HK:=hid hK;clear hK ev hd;go_simp;exact HK.out _ _ aS hJ rfl ⟨fun h=>h,fun h=>h⟩
  case o8=>
   have e27:tg a 27= .pointer (some ⟨U,0,none⟩):=(ev 27 au).trans (hd 7 _ xk rfl);have HK:=hid hK;clear hK ev hd;go_simp;exact HK.out _ _ aS hJ rfl ⟨fun h=>h,fun h=>h⟩
  case o9=>
   have e28:tg a 28= .pointer (some ⟨U,0,none⟩):=(ev 28 au).trans (hd 8 _ xk rfl);have HK:=hid hK;clear hK ev hd;go_simp;exact HK.out _ _ aS hJ rfl ⟨fun h=>h,fun h=>h⟩
  case o10=>
   have e29:tg a 29= .pointer (some ⟨U,2,none⟩):=(ev 29 au).trans (hd 9 _ xk rfl);have g0:=hJ.1.cell (a:=⟨U,2,none⟩) hu.out c2;have HK:=hid hK;clear hK ev hd;go_simp;exact HK.out _ _ aS hJ rfl ⟨fun h=>h,fun h=>h⟩
  case o11=>
   have e8:tg a 8= .int .i64 (p:Nat):=ev 8 au;have HK:=hid hK;clear hK ev hd;go_simp;exact HK.out _ _ aS hJ rfl ⟨fun h=>h,fun h=>h⟩
  case o12=>
   have e2:tg a 2= .int .i64 m:=ev 2 au;have HK:=hid hK;clear hK ev hd;go_simp;exact HK.out _ _ aS hJ rfl ⟨fun h=>h,fun h=>h⟩
  case o13=>
   have e3:tg a 3= .int .i64 k:=ev 3 au;have HK:=hid hK;clear hK ev hd;go_simp;exact HK.out _ _ aS hJ rfl ⟨fun h=>h,fun h=>h⟩
  case o14=>
   have e24:tg a 24= .slice (some ⟨g1,0,none⟩) N k1:=(ev 24 au).trans (hd 4 _ xk rfl);have e25:tg a 25= .int .i64 (p:Nat):=(ev 25 au).trans (hd 5 _ xk rfl);have HK:=hid hK;clear hK ev hd;go_simp;exact HK.out _ _ aS hJ rfl ⟨fun h=>h,fun h=>h⟩
  case PX=>
   have e34:tg a 34= .pointer (some ⟨g1,p,none⟩):=(ev 34 au).trans (hd 14 _ xk rfl);have e32:tg a 32= .int .i64 m:=(ev 32 au).trans (hd 12 _ xk rfl);obtain ⟨y,cy,fy,J1,N1,R1⟩:=ST1.out w' hJ;have HK:=hid hK;have HJ:=hid J1;have HN:=hid N1;have HR:=hid R1;clear hK ev hd J1 N1 R1 hJ;go_simp;exact HK.out _ _ (fun _=>rfl) HJ.out HN.out HR.out
  case o16=>
   have e30:tg a 30= .slice (some ⟨g2,0,none⟩) N k2:=(ev 30 au).trans (hd 10 _ xk rfl);have e31:tg a 31= .int .i64 (p:Nat):=(ev 31 au).trans (hd 11 _ xk rfl);have HK:=hid hK;clear hK ev hd;go_simp;exact HK.out _ _ aS hJ rfl ⟨fun h=>h,fun h=>h⟩
  case Uj=>
   have e35:tg a 35= .pointer (some ⟨g2,p,none⟩):=(ev 35 au).trans (hd 16 _ xk rfl);have e33:tg a 33= .int .i64 k:=(ev 33 au).trans (hd 13 _ xk rfl);obtain ⟨y,cy,fy,J1,N1,R1⟩:=ST2.out w' hJ;have HK:=hid hK;have HJ:=hid J1;have HN:=hid N1;have HR:=hid R1;clear hK ev hd J1 N1 R1 hJ;go_simp;exact HK.out _ _ (fun _=>rfl) HJ.out HN.out HR.out
 case fin=>
  intro u w2 hJ hG;have e1:RN B g1 N k1 2 (((lay L 1).map f).set p m) w2:=hG 15 _ rfl;have e2:RN B g2 N k2 3 (((lay L 1).map g).set p k) w2:=hG 17 _ rfl;have t3:=hJ.1;unfold RN at e1 e2;rw [S1.out] at e1;rw [S2.out] at e2;have hend:Tn (fun q=>q=g1\/q=g2) W w2/\vg B w2 U g1 g2 N k1 k2 L (upd f n m) (upd g n k):=⟨HT.out.trans t3,⟨t3.cell hu.out H1.out.c0,t3.cell hu.out H1.out.c1,t3.cell hu.out H1.out.c2,e1,e2,H1.out.n1,H1.out.n2,H1.out.n3⟩⟩
  have HE:=hid hend;clear hG hJ e1 e2 t3 hend;simp only [aX,kR,dstsOf,List.take_succ_cons,List.take_zero,List.filterMap_cons,List.filterMap_nil,List.contains_cons,List.contains_nil,Nat.reduceBEq,Bool.or_false,Bool.false_or,Bool.or_true,Bool.true_or,if_true,if_false,Bool.false_eq_true,Nat.reduceAdd,Nat.zero_add,List.drop_succ_cons,List.drop_zero];go_wp2
  exact bodyPost_end (results_none rfl _ _ _) rfl ⟨⟨_,rfl⟩,HE.out.1,HE.out.2⟩
theorem YP {B:Nat} {W:World} {U g1 g2 N k1 k2 L:Nat} {f g:Nat->Int} (h:vg B W U g1 g2 N k1 k2 L f g) (hL1:1<=L) (hL2:L<=14) (hN:N+1=2^L) (n:Nat) (n1:1<=n) (n2:2*n+1<2^L):
    Calls Tryz.prog 189 #[.pointer (some ⟨U,0,none⟩),.int .i64 n] W fun e w'=>(∃v,e= .returned v)/\Tn (fun q=>q=g1\/q=g2) W w'/\vg B w' U g1 g2 N k1 k2 L (upd f n (Uk (f (2*n),g (2*n)) (f (2*n+1),g (2*n+1))).1) (upd g n (Uk (f (2*n),g (2*n)) (f (2*n+1),g (2*n+1))).2):=by
 have T1:=hid (fun W' (hb:Below W.heap.size W W')=>OZ (h.tn (Tn.of_below (S:=fun _=>False) hb) (fun h=>h) (fun h=>h) (fun h=>h)) hL1 hL2 hN (2*n) xo xo);have T2:=hid (fun W' (hb:Below W.heap.size W W')=>OZ (h.tn (Tn.of_below (S:=fun _=>False) hb) (fun h=>h) (fun h=>h) (fun h=>h)) hL1 hL2 hN (2*n+1) xo xo);have TL:=hid (fun m k W' (hb:Below W.heap.size W W')=>Gf (h.tn (Tn.of_below (S:=fun _=>False) hb) (fun h=>h) (fun h=>h) (fun h=>h)) hL1 hL2 hN n n1 xo m k);rw [show ((2*n:Nat):Int)=2*(n:Int) by push_cast;rfl] at T1;rw [show ((2*n+1:Nat):Int)=2*(n:Int)+1 by push_cast;rfl] at T2;have hb:2^L<=2^14:=Nat.pow_le_pow_right xo hL2;have hn8:n<=16384:=xo;generalize f (2*n)=X1 at *;generalize g (2*n)=Y1 at *;generalize f (2*n+1)=X2 at *;generalize g (2*n+1)=Y2 at *;clear h n2 hN hb;by_cases hk:0<Y2
 . have e:Uk (X1,Y1) (X2,Y2)=(X2,wrap64 (Y1+Y2)):=by simp [Uk,hk]
   rw [e];dsimp only;clear e;go_enter Tryz.func189,Tryz.ntmps189
   go_wp2_with fail
   refine (T1.out W br).mono ?_;rintro e w1 ⟨rfl,hb1⟩;go_wp2_with fail
   refine (T2.out w1 hb1).mono ?_;rintro e w2 ⟨rfl,hb2⟩;have hb3:Below W.heap.size W w2:=aj hb2 hb1 hb1.size;go_wp2_with fail
   refine (TL.out X2 (wrap64 (Y1+Y2)) w2 hb3).mono ?_;rintro e w3 ⟨⟨v,rfl⟩,ht,hu⟩;have HT:=hid ((Tn.of_below (S:=fun q=>q=g1\/q=g2) hb3).trans ht);have HU:=hid hu;clear ht hu hb3 hb2 hb1;go_wp2
   exact bodyPost_end (results_none rfl _ _ _) rfl ⟨⟨_,rfl⟩,HT.out,HU.out⟩
 . have e:Uk (X1,Y1) (X2,Y2)=(X1,wrap64 (Y1+Y2)):=by simp [Uk,hk]
   rw [e];dsimp only;clear e;go_enter Tryz.func189,Tryz.ntmps189
   go_wp2_with fail
   refine (T1.out W br).mono ?_;rintro e w1 ⟨rfl,hb1⟩;go_wp2_with fail
   refine (T2.out w1 hb1).mono ?_;rintro e w2 ⟨rfl,hb2⟩;have hb3:Below W.heap.size W w2:=aj hb2 hb1 hb1.size;go_wp2_with fail
   refine (TL.out X1 (wrap64 (Y1+Y2)) w2 hb3).mono ?_;rintro e w3 ⟨⟨v,rfl⟩,ht,hu⟩;have HT:=hid ((Tn.of_below (S:=fun q=>q=g1\/q=g2) hb3).trans ht);have HU:=hid hu;clear ht hu hb3 hb2 hb1;go_wp2
   exact bodyPost_end (results_none rfl _ _ _) rfl ⟨⟨_,rfl⟩,HT.out,HU.out⟩
end
section
open Go.RowKit Go.Shelf
theorem lT:Maps.Keyed Tryz.prog 3:=Maps.int_keyed Tryz.underlying3
theorem BC (w:World):(zeroValue 3).run Tryz.prog w= .ok (.int .i64 0) w:=by kernel_rfl
abbrev yz (w:World) (b n:Nat) (D:DataW Unit):Prop:=w.ownsMap Tryz.prog 3 (plainElem Tryz.prog 3) b n D
def nI (D:DataW Unit) (S:Nat->Prop):Prop:=∀x,(Lit.int .i64 x).wf=true->(Maps.has D (.int .i64 x)=true↔∃m:Nat,x=m/\S m)
theorem nat_wf {m:Nat} (h:m<=1000000):(Lit.int .i64 (m:Int)).wf=true:=by
 simp [Lit.wf,IntKind.min,IntKind.max,IntKind.signed,IntKind.bits];omega
theorem tY {m:Nat} (h:m<=1000000):keyOf Tryz.prog 3 (.int .i64 (m:Int))=some (.int .i64 (m:Int)):=Maps.keyOf_int_mk Tryz.underlying3 (nat_wf h)
theorem JJ:keyOf Tryz.prog 3 (.int .i64 0)=some (.int .i64 0):=tY (m:=0) xo
theorem Sr {m:Nat} (h:m<=1000000):WideAt.IsKeyLit (.int .i64 (m:Int)):=by
 simp [WideAt.IsKeyLit]
theorem nI.made:nI (.map []) fun _=>False:=fun x hx=>⟨fun h=>by simp [Maps.has] at h,fun ⟨_,_,h⟩=>h.elim⟩
theorem nI.put {D:DataW Unit} {S:Nat->Prop} (h:nI D S) (hm:Maps.IsMap D) {m:Nat} (hb:m<=1000000) (d:DataW Unit):nI (D.put (.int .i64 (m:Int)) d) fun k=>k=m\/S k:=by
 intro x hx;by_cases e:x=(m:Int)
 . subst e;rw [Maps.has_put_same hm (Sr hb)];exact ⟨fun _=>⟨m,rfl,.inl rfl⟩,fun _=>rfl⟩
 . rw [Maps.has_put_other (by intro h';cases h';exact e rfl),h x hx];constructor
   . rintro ⟨k,rfl,hk⟩;exact ⟨k,rfl,.inr hk⟩
   . rintro ⟨k,rfl,hk|hk⟩
     . subst hk;exact absurd rfl e
     . exact ⟨k,rfl,hk⟩
theorem nI.del {D:DataW Unit} {S:Nat->Prop} (h:nI D S) {m:Nat} (hb:m<=1000000):nI (D.del (.int .i64 (m:Int))) fun k=>k≠m/\S k:=by
 intro x hx;by_cases e:x=(m:Int)
 . subst e;rw [Maps.has_del_same];exact ⟨fun h=>(by cases h),fun hh=>by obtain ⟨k,hk,hne,-⟩:=hh;exact absurd xo hne⟩
 . rw [Maps.has_del_other (by intro h';cases h';exact e rfl),h x hx];constructor
   . rintro ⟨k,rfl,hk⟩;exact ⟨k,rfl,fun h'=>e (by rw [h']),hk⟩
   . rintro ⟨k,rfl,_,hk⟩;exact ⟨k,rfl,hk⟩
theorem nI.Qi {D:DataW Unit} {S T:Nat->Prop} (h:nI D S) (e:∀k,S k↔T k):nI D T:=fun x hx=>(h x hx).trans ⟨fun ⟨k,h1,h2⟩=>⟨k,h1,(e k).1 h2⟩,fun ⟨k,h1,h2⟩=>⟨k,h1,(e k).2 h2⟩⟩
theorem Sl {w:World} {b n:Nat} {D:DataW Unit} {S:Nat->Prop} (ho:yz w b n D) (h:nI D S) (hS:∀k,¬S k):Maps.size D=0:=by
 obtain ⟨w',-,hr,-,-⟩:=ho.range lT (t:=240) Tryz.underlying240;rcases hr.next lT 0 with ⟨h0,-,-⟩ | ⟨key,v,kl,y,w2,c2,hkey,hl,-⟩
 . exact h0
 . obtain ⟨x,rfl,rfl,hw⟩:=Maps.keyOf_int_inv Tryz.underlying3 hkey;obtain ⟨m,-,hm⟩:=(h x hw).1 hl;exact absurd hm (hS m)
theorem Sj {D:DataW Unit} {S:Nat->Prop} (h:nI D S) {k:Nat} (hk:S k) (hb:k<=1000000):Maps.size D≠0:=by
 have:=(h (k:Int) (nat_wf hb)).2 ⟨k,rfl,hk⟩;cases D<;>simp [Maps.has,Maps.size] at this ⊢
 intro e;subst e;simp at this
theorem uG {w w':World} {b n:Nat} {D:DataW Unit} (h:yz w b n D) {S:Nat->Prop} (t:Tn S w w') (hs:¬S b):yz w' b n D:=by
 have hlt:=h.lt;obtain ⟨es,clock,hb,r⟩:=h;exact ⟨es,clock,(t.keep b hlt hs).trans hb,r⟩
abbrev acB (w:World) (b r n:Nat) (D:DataW Unit) (left:Lit->Bool) (cnt:Nat):Prop:=w.ranges Tryz.prog 3 (plainElem Tryz.prog 3) b r n D left cnt
theorem U1 {w w':World} {b r n:Nat} {D:DataW Unit} {left:Lit->Bool} {cnt:Nat} (h:acB w b r n D left cnt) {S:Nat->Prop} (t:Tn S w w') (hs:¬S b) (hr:¬S r):acB w' b r n D left cnt:=by
 have h1:=h.owns.lt;have h2:=h.lt;obtain ⟨es,clock,since,seen,c0,e1,e2,e3,e4,e5,e6⟩:=h;exact ⟨es,clock,since,seen,c0,(t.keep b h1 hs).trans e1,e2,e3,e4,(t.keep r h2 hr).trans e5,e6⟩
end
section
open Go.RowKit
theorem Uh (l:Int) (ma ca:Option Addr) (mc cc:Nat) (ms cs:List Int) (h:¬Dh l ms cs) (w:World):
    Calls Tryz.prog 91 #[um l ma ms.length mc ca cs.length cc] w (Ans w (.int .i64 8)):=by
 have HR:=hid (fun w=>U3 l ma ca mc cc ms cs h w);clear h;go_enter Tryz.func91,Tryz.ntmps91
 go_wp2_with (go_at_call 92;refine (HR.out _).mono ?_;rintro e w1 ⟨rfl,hb⟩)
 go_ret
 exact ⟨rfl,by (exact aH)⟩
theorem CY {w:World} {B g N:Nat} {a b c:Nat->Int} (h:w.ownsRow B 141 3 (.slice (some ⟨g,0,none⟩) (N+1) (N+1)) (N+1) (m_ a b c (N+1))) {n:Nat} (hn:n<N+1):
    w.cell? ⟨g,n*3,none⟩=some (.int .i64 (a n))/\w.cell? ⟨g,n*3+1,none⟩=some (.int .i64 (b n)):=by
 have hlen:(flat3 a b c (N+1)).length=(N+1)*3:=dE;obtain ⟨d0,-⟩:=bM h (j:=n*3) xo;obtain ⟨d1,-⟩:=bM h (j:=n*3+1) xo;rw [yj hn] at d0;rw [yh hn] at d1;exact ⟨d0,d1⟩
theorem mf {m c am ac bm bc:Int}:JL m c am ac bm bc=true↔ac<=c/\bc<=c/\m=TG am bm bc/\c=OH ac bc/\¬(0<ac/\0<bc/\bm<=am):=by
 simp only [JL,Bool.and_eq_true,decide_eq_true_eq,Bool.not_eq_true',Bool.and_eq_false_iff,decide_eq_false_iff_not];constructor
 . rintro ⟨⟨⟨h1,h2⟩,h3,h4⟩,h5⟩;exact ⟨h1,h2,h3,h4,by omega⟩
 . rintro ⟨h1,h2,h3,h4,h5⟩;exact ⟨⟨⟨h1,h2⟩,h3,h4⟩,by omega⟩
theorem Le {p:Nat->Bool} {k N:Nat} (h:jm p (k+1) (N-k)=true) (hp:p k=true) (h0:0<k) (hk:k<=N):jm p (k-1+1) (N-(k-1))=true:=by
 rw [mG] at h ⊢;intro m h1 h2;by_cases e:m=k
 . rw [e];exact hp
 . exact h m xo xo
theorem PY {L:Nat} {ms cs:List Int} {n:Nat} (h:JF L ms cs n=true):ownB (fU L ms n) (fU L cs n)=true:=by
 unfold JF at h;rw [Bool.and_eq_true] at h;exact h.1
theorem Ug (L N : Nat) (l:Int) (hl:l=L) (h1:1<=L) (h2:L<=14) (hN:N+1=2^L) (ma ca:Option Addr) (mc cc:Nat) (ms cs:List Int) (hlm:ms.length=N) (hlc:cs.length=N) (w:World)
    (hm:aQ .i64 w ma ms) (hc:aQ .i64 w ca cs):
    Calls Tryz.prog 91 #[um l ma N mc ca N cc] w (Ans w (.int .i64 (if jm (JF L ms cs) 1 N=true then 0 else 8))):=by
 have hp:2^L<=16384:=Nat.pow_le_pow_right xo h2;have hMb:N+1<=16384:=xo;have hN1:0<N:=by have:2^1<=2^L:=Nat.pow_le_pow_right xo h1;omega
 have HR:=hid (fun (W:World) (hb:Below w.heap.size w W)=>Pv L N l hl h1 h2 hN ma ca mc cc ms cs hlm hlc W (hm.below hb) (hc.below hb));have HN:=hid hN;generalize hr:(if jm (JF L ms cs) 1 N=true then (0:Int) else 8)=r;have HRR:=hid hr;clear hr hN hp hm hc hlm hlc hl h1 h2;go_enter Tryz.func91,Tryz.ntmps91
 go_wp2_with (first
   | (go_at_call 92;refine (HR.out _ aH).mono ?_;rintro e w1 ⟨g,rfl,ho,hb⟩
      have hg:=(ho.lt g rfl)
      simp only [World.size_alloc] at hg hb ho;have HO:=hid ho;have HB:=hid (aj hb ((Below.refl _ w).alloc (Nat.le_refl _) _) xo);clear ho hb))
 go_loopg [5] N (fun gk i wr=>∃k:Nat,k=gk/\k<=N/\i= .int .i64 k/\w.heap.size<=wr.heap.size/\g<wr.heap.size/\
     Hid (∃B,w.heap.size<=B/\wr.ownsRow B 141 3 (.slice (some ⟨g,0,none⟩) (N+1) (N+1)) (N+1) (m_ (fU L ms) (fU L cs) (n_ L) (N+1)))/\Hid (Below w.heap.size w wr)/\Hid (jm (JF L ms cs) (k+1) (N-k)=true))
 case atStart=>exact ⟨N,rfl,Nat.le_refl _,rfl,HB.out.size,hg.2,hid ⟨_,by omega,HO.out⟩,HB,hid (by rw [Nat.sub_self];rfl)⟩
 case round =>
  obtain ⟨k,rfl,hkN,rfl,hz0,hgw,HO,HB,HA⟩:=hrel;by_cases hlt:0<k
  . obtain ⟨B, hB, ho⟩ :=HO.out;obtain ⟨d0,d1⟩:=CY ho (n:=k) xo;have HF:=hid (fun n (hn:n<N+1)=>CY ho hn);have hb:JF L ms cs k=(ownB (fU L ms k) (fU L cs k)&&(decide (2^L-1<2*k)||xX (fU L ms k) (fU L cs k) (fU L ms (2*k)) (fU L cs (2*k)) (fU L ms (2*k+1)) (fU L cs (2*k+1)))):=rfl;have HBB:=hid hb;clear hb ho;obtain ⟨m,hm⟩:∃m,fU L ms k=m:=⟨_,rfl⟩
    obtain ⟨c,hc⟩:∃c,fU L cs k=c:=⟨_,rfl⟩
    rw [hm,hc] at HBB;rw [hm] at d0;rw [hc] at d1;have HM:=hid hm;have HC:=hid hc;clear hm hc;by_cases hown:ownB m c=true
    . have ho2 : 0 <= c /\ c<=65536/\(c≠0\/m=0):=by
        simp only [ownB,Bool.and_eq_true,Bool.or_eq_true,decide_eq_true_eq] at hown;omega
      obtain ⟨ho3,ho4,V3⟩:=ho2;have HO5:=hid V3;clear V3;go_upto_region 8 with fail
      generalize hW:wr.alloc _=W;have x0:W.cell? ⟨wr.heap.size,0,none⟩=some (.int .i64 m):=by rw [<-hW];(exact iP)
      have x1:W.cell? ⟨wr.heap.size,1,none⟩=some (.int .i64 c):=by rw [<-hW];(exact iP)
      have hWz:W.heap.size=wr.heap.size+1:=by rw [<-hW];simp
      have D6:=hid (by rw [<-hW];exact br.alloc (Nat.le_refl _) _:Below wr.heap.size wr W);clear hW d0 d1;go_cut [45] from 19 to 99 (fun b wx=>b= .bool false/\wx=W)
      case first=>
       by_cases h0:c=0
       . have hm0:m=0:=by have:=HO5.out;omega
         have e1:(c==0)=true:=by simpa using h0
         have e2:(m != 0)=false:=by simpa using hm0
         clear h0 hm0;go_wp2
         go_meet
         case rel=>exact ⟨by simp<;>omega,rfl⟩
       . have e1:(c==0)=false:=by simpa using h0
         clear h0;go_wp2
         go_meet
         case rel=>exact ⟨by simp<;>omega,rfl⟩
      case rest=>
       obtain ⟨rfl,rfl⟩:=hcut;have hk1:((k-1:Nat):Int)=(k:Int)-1:=xo;have HK1:=hid hk1;clear hk1;by_cases h2k:N<2*k
       . go_wp2
         go_roundg (k-1)
         case measure=>omega
         case rel=>
          obtain ⟨B,hB,ho⟩:=HO.out;have hnd:JF L ms cs k=true:=by
           have h9:2^L-1<2*k:=by have:=HN.out;omega
           rw [HBB.out,hown,decide_eq_true h9];rfl
          exact ⟨k-1,rfl,by omega,by rw [HK1.out],by omega,by omega,hid ⟨B,hB,ay ho D6.out⟩,hid (HB.out.trans (D6.out.mono hz0)),hid (Le HA.out hnd hlt hkN)⟩
       . obtain ⟨j,hj⟩:∃j,2*k=j:=⟨_,rfl⟩
         have hjN:j+1<=N:=by
          have h8:=HN.out;have h9:2^L%2=0:=by
           have:L≠0:=fun e=>by rw [e] at h8;omega
           obtain ⟨q,rfl⟩:∃q,L=q+1:=⟨L-1,by omega⟩
           rw [Nat.pow_succ];omega
          omega
         obtain ⟨f0,f1⟩:=HF.out j xo;obtain ⟨f2,f3⟩:=HF.out (j+1) xo;have g0:=(D6.out.cell (p:=⟨g,j*3,none⟩) hgw).trans f0;have g1:=(D6.out.cell (p:=⟨g,j*3+1,none⟩) hgw).trans f1;have g2:=(D6.out.cell (p:=⟨g,(j+1)*3,none⟩) hgw).trans f2;have g3:=(D6.out.cell (p:=⟨g,(j+1)*3+1,none⟩) hgw).trans f3;have ha:=PY (mG.1 HA.out j xo xo);have hb:=PY (mG.1 HA.out (j+1) xo xo);have hbb:=HBB.out;rw [hj] at hbb;have hnl:decide (2^L-1<j)=false:=by have:=HN.out;simp;omega
         rw [hown,hnl,Bool.true_and,Bool.false_or] at hbb;generalize fU L ms j=am at g0 ha hbb;generalize fU L cs j=ac at g1 ha hbb;generalize fU L ms (j+1)=bm at g2 hb hbb;generalize fU L cs (j+1)=bc at g3 hb hbb;rw [<-VQ ha hb] at hbb;have HBJ:=hid hbb;have HOA:=hid ha;have HOB:=hid hb;have w1:IntKind.i64.wrap (2*(k:Int))=(j:Int):=by rw [show (2:Int)*(k:Int)=(j:Int) by omega];exact IntWalk.i64_in _ xo
         have w2:IntKind.i64.wrap ((j:Int)+1)=(j:Int)+1:=IntWalk.i64_in _ xo;have w3:((j:Int)+1).toNat=j+1:=xo;have HJ:=hid hj;clear hbb ha hb hnl f0 f1 f2 f3;go_upto_region 11 with fail
         clear hj;go_cut [7,8] from 19 to 99 (fun p q wx=>∃b7 b8:Nat,p= .pointer (some ⟨b7,0,none⟩)/\q= .pointer (some ⟨b8,0,none⟩)/\wx.cell? ⟨b7,0,none⟩=some (.int .i64 am)/\wx.cell? ⟨b7,1,none⟩=some (.int .i64 ac)/\wx.cell? ⟨b8,0,none⟩=some (.int .i64 bm)/\wx.cell? ⟨b8,1,none⟩=some (.int .i64 bc)/\
           wx.cell? ⟨wr.heap.size,0,none⟩=some (.int .i64 m)/\wx.cell? ⟨wr.heap.size,1,none⟩=some (.int .i64 c)/\b7<wx.heap.size/\b8<wx.heap.size/\wr.heap.size<wx.heap.size/\Hid (Below wr.heap.size wr wx))
         case first=>
          have hgA:g<wc.heap.size:=xo;have hgB:g<wc.heap.size+1:=xo;have p0:(wc.alloc (.cells #[.int .i64 0,.int .i64 0] 138)).cell? ⟨g,j*3,none⟩=some (.int .i64 am):=dL;have p1:(wc.alloc (.cells #[.int .i64 0,.int .i64 0] 138)).cell? ⟨g,j*3+1,none⟩=some (.int .i64 ac):=dL;have p2:(wc.alloc (.cells #[.int .i64 0,.int .i64 0] 138)).cell? ⟨g,(j+1)*3,none⟩=some (.int .i64 bm):=dL;have p3:(wc.alloc (.cells #[.int .i64 0,.int .i64 0] 138)).cell? ⟨g,(j+1)*3+1,none⟩=some (.int .i64 bc):=dL;have q0:((wc.alloc (.cells #[.int .i64 0,.int .i64 0] 138)).alloc (.cells #[.int .i64 0,.int .i64 0] 138)).cell? ⟨g,j*3,none⟩=some (.int .i64 am):=dL;have q1:((wc.alloc (.cells #[.int .i64 0,.int .i64 0] 138)).alloc (.cells #[.int .i64 0,.int .i64 0] 138)).cell? ⟨g,j*3+1,none⟩=some (.int .i64 ac):=dL;have q2:((wc.alloc (.cells #[.int .i64 0,.int .i64 0] 138)).alloc (.cells #[.int .i64 0,.int .i64 0] 138)).cell? ⟨g,(j+1)*3,none⟩=some (.int .i64 bm):=dL;have q3:((wc.alloc (.cells #[.int .i64 0,.int .i64 0] 138)).alloc (.cells #[.int .i64 0,.int .i64 0] 138)).cell? ⟨g,(j+1)*3+1,none⟩=some (.int .i64 bc):=dL;have r2:((wc.alloc (.cells #[.int .i64 0,.int .i64 0] 138)).alloc (.cells #[.int .i64 am,.int .i64 ac] 138)).cell? ⟨g,(j+1)*3,none⟩=some (.int .i64 bm):=dL;have r3:((wc.alloc (.cells #[.int .i64 0,.int .i64 0] 138)).alloc (.cells #[.int .i64 am,.int .i64 ac] 138)).cell? ⟨g,(j+1)*3+1,none⟩=some (.int .i64 bc):=dL;have s2:((wc.alloc (.cells #[.int .i64 am,.int .i64 ac] 138)).alloc (.cells #[.int .i64 0,.int .i64 0] 138)).cell? ⟨g,(j+1)*3,none⟩=some (.int .i64 bm):=dL;have s3:((wc.alloc (.cells #[.int .i64 am,.int .i64 ac] 138)).alloc (.cells #[.int .i64 0,.int .i64 0] 138)).cell? ⟨g,(j+1)*3+1,none⟩=some (.int .i64 bc):=dL;have hgC:g<=wc.heap.size:=xo;have hgD:g≠wc.heap.size:=xo;have hgE:g≠wc.heap.size+1:=xo;go_region
          all_goals (try go_wp2)
          all_goals go_meet
          case rel=>exact ⟨wr.heap.size+1,wr.heap.size+1+1,rfl,rfl,by (exact dL),by (exact dL),by (exact dL),by (exact dL),by (exact dL),by (exact dL),by (exact gW),by (exact gW),by (exact gW),hid (by have:=D6.out;(exact aH))⟩
          case rel=>exact ⟨wr.heap.size+1+1,wr.heap.size+1,rfl,rfl,by (exact dL),by (exact dL),by (exact dL),by (exact dL),by (exact dL),by (exact dL),by (exact gW),by (exact gW),by (exact gW),hid (by have:=D6.out;(exact aH))⟩
         case rest =>
          obtain ⟨b7,b8,rfl,rfl,y0,y1,z0,z1,x0,x1,l7,l8,l6,F7⟩:=hcut;go_upto_region 12 with fail
          obtain ⟨z,hz⟩:∃z,JL m c am ac bm bc=z:=⟨_,rfl⟩
          rw [hz] at HBJ;obtain ⟨x,hx⟩:∃x,TG am bm bc=x:=⟨_,rfl⟩
          obtain ⟨y,hy⟩:∃y,OH ac bc=y:=⟨_,rfl⟩
          have hoa:=HOA.out;have hob:=HOB.out;simp only [ownB,Bool.and_eq_true,Bool.or_eq_true,decide_eq_true_eq] at hoa hob;obtain ⟨⟨q1,q2⟩,-⟩:=hoa;obtain ⟨⟨q3,q4⟩,-⟩:=hob;have AB:=hid (fun W=>Lj am ac bm bc q1 q2 q3 q4 W);rw [hx,hy] at AB;have HZ:=hid hz;have HX:=hid hx;have HY:=hid hy;have k0:=cg x0;have k1:=cg x1;have k2:=cg y0;have k3:=cg y1;have k4:=cg z0;have k5:=cg z1;have CA:=hid (fun d os=>kr wc d os (AB.out (Sort.grow (redrawn wc d) os)));clear hz hx hy;go_cut [99] from 19 to 99 (fun b wx=>b= .bool (!z)/\Hid (Below wr.heap.size wr wx))
          case first =>
           by_cases hA:c<ac
           . have eA:decide (c<ac)=true:=decide_eq_true hA;have hzv:z=false:=by have:=fun h=>mf.1 (HZ.out.trans h);cases z with|true=>exact absurd (this rfl) (by rw [HX.out,HY.out];omega)|false=>rfl
             refine wp_region_quiet_below xk xk ?_;repeat (go_big_quiet_step (exact CA.out _ _))
             refine wpQuiet_nil ?_;intro _ hw';obtain ⟨⟨dq,osq⟩,hw''⟩:=hw';subst hw'';try go_wp2
             go_meet
             case rel=>exact ⟨by rw [hzv];simp<;>omega,hid (F7.out.trans ((below_regrown wc dq osq).mono xo))⟩
           . have eA : decide (c<ac)=false:=decide_eq_false hA;by_cases hB:c<bc
             . have eB:decide (c<bc)=true:=decide_eq_true hB;have hzv:z=false:=by have:=fun h=>mf.1 (HZ.out.trans h);cases z with|true=>exact absurd (this rfl) (by rw [HX.out,HY.out];omega)|false=>rfl
               refine wp_region_quiet_below xk xk ?_;repeat (go_big_quiet_step (exact CA.out _ _))
               refine wpQuiet_nil ?_;intro _ hw';obtain ⟨⟨dq,osq⟩,hw''⟩:=hw';subst hw'';try go_wp2
               go_meet
               case rel=>exact ⟨by rw [hzv];simp<;>omega,hid (F7.out.trans ((below_regrown wc dq osq).mono xo))⟩
             . have eB : decide (c<bc)=false:=decide_eq_false hB;by_cases hC:m=x
               . have HC1:=hid hC;have eC:(m=x)=True:=eq_true hC;clear hC;by_cases hD:c=y
                 . have HD1:=hid hD;have eD:(c=y)=True:=eq_true hD;clear hD;by_cases h1:0<ac
                   . have e1:decide (0<ac)=true:=decide_eq_true h1;by_cases h2:0<bc
                     . have e2:decide (0<bc)=true:=decide_eq_true h2;by_cases h3:bm<=am
                       . have e3:decide (bm<=am)=true:=decide_eq_true h3;have hzv:z=false:=by have:=fun h=>mf.1 (HZ.out.trans h);cases z with|true=>exact absurd (this rfl) (by rw [HX.out,HY.out];omega)|false=>rfl
                         refine wp_region_quiet_below xk xk ?_;repeat (go_big_quiet_step (exact CA.out _ _))
                         refine wpQuiet_nil ?_;intro _ hw';obtain ⟨⟨dq,osq⟩,hw''⟩:=hw';subst hw'';try go_wp2
                         go_meet
                         case rel=>exact ⟨by rw [hzv];simp<;>omega,hid (F7.out.trans ((below_regrown wc dq osq).mono xo))⟩
                       . have e3:decide (bm<=am)=false:=decide_eq_false h3;have hzv:z=true:=by rw [<-HZ.out];exact mf.2 (by rw [HX.out,HY.out];have:=HC1.out;have:=HD1.out;omega)
                         refine wp_region_quiet_below xk xk ?_;repeat (go_big_quiet_step (exact CA.out _ _))
                         refine wpQuiet_nil ?_;intro _ hw';obtain ⟨⟨dq,osq⟩,hw''⟩:=hw';subst hw'';try go_wp2
                         go_meet
                         case rel=>exact ⟨by rw [hzv];simp<;>omega,hid (F7.out.trans ((below_regrown wc dq osq).mono xo))⟩
                     . have e2:decide (0<bc)=false:=decide_eq_false h2;have hzv:z=true:=by rw [<-HZ.out];exact mf.2 (by rw [HX.out,HY.out];have:=HC1.out;have:=HD1.out;omega)
                       refine wp_region_quiet_below xk xk ?_;repeat (go_big_quiet_step (exact CA.out _ _))
                       refine wpQuiet_nil ?_;intro _ hw';obtain ⟨⟨dq,osq⟩,hw''⟩:=hw';subst hw'';try go_wp2
                       go_meet
                       case rel=>exact ⟨by rw [hzv];simp<;>omega,hid (F7.out.trans ((below_regrown wc dq osq).mono xo))⟩
                   . have e1:decide (0<ac)=false:=decide_eq_false h1;have hzv:z=true:=by rw [<-HZ.out];exact mf.2 (by rw [HX.out,HY.out];have:=HC1.out;have:=HD1.out;omega)
                     refine wp_region_quiet_below xk xk ?_;repeat (go_big_quiet_step (exact CA.out _ _))
                     refine wpQuiet_nil ?_;intro _ hw';obtain ⟨⟨dq,osq⟩,hw''⟩:=hw';subst hw'';try go_wp2
                     go_meet
                     case rel=>exact ⟨by rw [hzv];simp<;>omega,hid (F7.out.trans ((below_regrown wc dq osq).mono xo))⟩
                 . have hzv:z=false:=by have:=fun h=>mf.1 (HZ.out.trans h);cases z with|true=>exact absurd (this rfl) (by rw [HX.out,HY.out];omega)|false=>rfl
                   refine wp_region_quiet_below xk xk ?_;repeat (go_big_quiet_step (exact CA.out _ _))
                   refine wpQuiet_nil ?_;intro _ hw';obtain ⟨⟨dq,osq⟩,hw''⟩:=hw';subst hw'';try go_wp2
                   go_meet
                   case rel=>exact ⟨by rw [hzv];simp<;>omega,hid (F7.out.trans ((below_regrown wc dq osq).mono xo))⟩
               . have hzv:z=false:=by have:=fun h=>mf.1 (HZ.out.trans h);cases z with|true=>exact absurd (this rfl) (by rw [HX.out,HY.out];omega)|false=>rfl
                 refine wp_region_quiet_below xk xk ?_;repeat (go_big_quiet_step (exact CA.out _ _))
                 refine wpQuiet_nil ?_;intro _ hw';obtain ⟨⟨dq,osq⟩,hw''⟩:=hw';subst hw'';try go_wp2
                 go_meet
                 case rel=>exact ⟨by rw [hzv];simp<;>omega,hid (F7.out.trans ((below_regrown wc dq osq).mono xo))⟩
          case rest=>
           obtain ⟨rfl,HBY⟩:=hcut;have hWz:=HBY.out.size;cases z with
           | true=>
            go_wp2
            go_roundg (k-1)
            case measure=>omega
            case rel=>
             obtain ⟨B,hB,ho⟩:=HO.out;exact ⟨k-1,rfl,by omega,by rw [HK1.out],by omega,by omega,hid ⟨B,hB,ay ho HBY.out⟩,hid (HB.out.trans (HBY.out.mono hz0)),hid (Le HA.out HBJ.out hlt hkN)⟩
           | false=>
            have he:(if jm (JF L ms cs) 1 N=true then (0:Int) else 8)=8:=by
             rw [Aj (m:=k) xo xo HBJ.out];rfl
            have he:=HRR.out.symm.trans he;subst he;go_wp2
            go_ret
            exact ⟨rfl,HB.out.trans (HBY.out.mono hz0)⟩
    . have hs:c<0\/65536<c\/(0<=c/\c<=65536/\c=0/\m≠0):=by
        simp only [ownB,Bool.and_eq_true,Bool.or_eq_true,decide_eq_true_eq] at hown;omega
      have he:(if jm (JF L ms cs) 1 N=true then (0:Int) else 8)=8:=by
       rw [Aj (m:=k) xo xo (by rw [HBB.out];simp [hown])];rfl
      have he:=HRR.out.symm.trans he;subst he;clear hown;rcases hs with hs|hs | ⟨hs1,hs2,hs3,hs4⟩
      . go_wp2
        go_ret
        exact ⟨rfl,by have:=HB.out;(exact aH)⟩
      . go_wp2
        go_ret
        exact ⟨rfl,by have:=HB.out;(exact aH)⟩
      . have e1:(c==0)=true:=by simpa using hs3
        have e2:(m != 0)=true:=by simpa using hs4
        clear hs3 hs4;go_wp2
        go_ret
        exact ⟨rfl,by have:=HB.out;(exact aH)⟩
  . have hk0:k=0:=xo;have he:(if jm (JF L ms cs) 1 N=true then (0:Int) else 8)=0:=by
     have:=HA.out;rw [hk0] at this;exact if_pos this
    have he:=HRR.out.symm.trans he;subst he;go_wp2
    go_ret
    exact ⟨rfl,HB.out⟩
theorem yD (l:Int) (ma ca:Option Addr) (mc cc:Nat) (ms cs:List Int) (w:World) (hm:aQ .i64 w ma ms) (hc:aQ .i64 w ca cs):
    Calls Tryz.prog 91 #[um l ma ms.length mc ca cs.length cc] w (Ans w (.int .i64 (P9 l ms cs))):=by
 by_cases h:Dh l ms cs
 . have e:P9 l ms cs=if jm (JF l.toNat ms cs) 1 (2^l.toNat-1)=true then 0 else 8:=by
     unfold P9 oO;rw [decide_eq_true h,Bool.true_and]
   obtain ⟨h1,h2,h3,h4⟩:=h;rw [e,h3,h4];have hp:=Nat.two_pow_pos l.toNat;exact Ug l.toNat (2^l.toNat-1) l xo xo xo xo ma ca mc cc ms cs h3 h4 w hm hc
 . have e:P9 l ms cs=8:=by
     unfold P9 oO;rw [decide_eq_false h,Bool.false_and];rfl
   rw [e];exact Uh l ma ca mc cc ms cs h w
theorem Sm {l:Int} {ms cs:List Int} (h:oO l ms cs=true):Dh l ms cs:=by
 unfold oO at h;rw [Bool.and_eq_true,decide_eq_true_eq] at h;exact h.1
theorem aeR (l n:Int) (ma ca:Option Addr) (mc cc:Nat) (ms cs:List Int) (w:World) (hm:aQ .i64 w ma ms) (hc:aQ .i64 w ca cs):
    Calls Tryz.prog 49 #[um l ma ms.length mc ca cs.length cc,.int .i64 n] w (Ans w (.tuple #[.int .i64 (atM l ms cs n),.int .i64 (atC l ms cs n),.int .i64 (ZU l ms cs n)])):=by
 have CK:=hid (fun (W:World) (hb:Below w.heap.size w W)=>yD l ma ca mc cc ms cs W (hm.below hb) (hc.below hb));by_cases hmay:oO l ms cs=true
 . have e0:P9 l ms cs=0:=if_pos hmay;have hf:=Sm hmay;obtain ⟨h1,h2,h3,h4⟩:=hf;have hpos:=Nat.two_pow_pos l.toNat;obtain ⟨N,hN⟩:∃N,2^l.toNat-1=N:=⟨_,rfl⟩
   have hN1:N+1=2^l.toNat:=xo;rw [hN] at h3 h4;have hb:N+1<=16384:=by rw [hN1];exact Nat.pow_le_pow_right xo (by omega:l.toNat<=14)
   have hI:(2:Int)^l.toNat=(N:Int)+1:=by
    have:(2:Int)^l.toNat=((2^l.toNat:Nat):Int):=by push_cast;rfl
    rw [this];omega
   have RD:=hid (fun (W:World) (hb:Below w.heap.size w W)=>Pv l.toNat N l xo xo xo hN1 ma ca mc cc ms cs h3 h4 W (hm.below hb) (hc.below hb));rw [h3,h4,e0] at CK;rw [h3,h4];by_cases hn:1<=n/\n<(N:Int)+1
   . have e1:ZU l ms cs n=0:=by unfold ZU;rw [if_pos hmay,if_pos (by rw [hI];exact hn)]
     have e2:atM l ms cs n=fU l.toNat ms n.toNat:=if_pos e1;have e3:atC l ms cs n=fU l.toNat cs n.toNat:=if_pos e1;rw [e1,e2,e3];obtain ⟨j,rfl⟩:∃j:Nat,n=j:=⟨n.toNat,by omega⟩
     have hj1:1<=j:=xo;have hj2:j<N+1:=xo;rw [Int.toNat_natCast];clear e1 e2 e3 hn hI e0 hm hc hmay h1 h2 h3 h4 hN hN1 hpos;go_enter Tryz.func49,Tryz.ntmps49
     go_wp2_with fail
     refine (CK.out _ aH).mono ?_;rintro e w1 ⟨rfl,hb1⟩;have hz1:=hb1.size;simp only [World.size_alloc] at hz1;have c0:w1.cell? ⟨w.heap.size,0,none⟩=some (.int .i64 l):=(hb1.cell (p:=⟨w.heap.size,0,none⟩) ax).trans iP;have c1:w1.cell? ⟨w.heap.size,1,none⟩=some (.slice ma N mc):=(hb1.cell (p:=⟨w.heap.size,1,none⟩) ax).trans iP;have c2:w1.cell? ⟨w.heap.size,2,none⟩=some (.slice ca N cc):=(hb1.cell (p:=⟨w.heap.size,2,none⟩) ax).trans iP;have hB1:Below w.heap.size w w1:=aH;go_wp2_with fail
     refine (RD.out _ hB1).mono ?_;rintro e w2 ⟨g,rfl,ho,hb2⟩;obtain ⟨d0,d1⟩:=CY ho hj2;have hB2:Below w.heap.size w w2:=aj hb2 hB1 xo;clear ho hb2;go_wp2
     go_quiet (fail)
     go_wp2
     go_ret3
     exact ⟨rfl,by (exact aH)⟩
   . have e1:ZU l ms cs n=2:=by unfold ZU;rw [if_pos hmay,if_neg (by rw [hI];exact hn)]
     have e2:atM l ms cs n=0:=by unfold atM;rw [e1];rfl
     have e3:atC l ms cs n=0:=by unfold atC;rw [e1];rfl
     rw [e1,e2,e3];have hs:n<1\/(1<=n/\(N:Int)+1<=n):=xo;clear e1 e2 e3 hn hI e0 hm hc hmay h1 h2 h3 h4 hN hN1 hpos;rcases hs with hs | ⟨hs,hs2⟩
     . go_enter Tryz.func49,Tryz.ntmps49
       go_wp2_with fail
       refine (CK.out _ aH).mono ?_;rintro e w1 ⟨rfl,hb1⟩;have hz1:=hb1.size;simp only [World.size_alloc] at hz1;have c0:w1.cell? ⟨w.heap.size,0,none⟩=some (.int .i64 l):=(hb1.cell (p:=⟨w.heap.size,0,none⟩) ax).trans iP;have c1:w1.cell? ⟨w.heap.size,1,none⟩=some (.slice ma N mc):=(hb1.cell (p:=⟨w.heap.size,1,none⟩) ax).trans iP;have c2:w1.cell? ⟨w.heap.size,2,none⟩=some (.slice ca N cc):=(hb1.cell (p:=⟨w.heap.size,2,none⟩) ax).trans iP;have hB1:Below w.heap.size w w1:=aH;go_wp2_with fail
       refine (RD.out _ hB1).mono ?_;rintro e w2 ⟨g,rfl,ho,hb2⟩;have hB2:Below w.heap.size w w2:=aj hb2 hB1 xo;clear ho hb2;go_wp2
       go_ret3
       exact ⟨rfl,by (exact aH)⟩
     . go_enter Tryz.func49,Tryz.ntmps49
       go_wp2_with fail
       refine (CK.out _ aH).mono ?_;rintro e w1 ⟨rfl,hb1⟩;have hz1:=hb1.size;simp only [World.size_alloc] at hz1;have c0:w1.cell? ⟨w.heap.size,0,none⟩=some (.int .i64 l):=(hb1.cell (p:=⟨w.heap.size,0,none⟩) ax).trans iP;have c1:w1.cell? ⟨w.heap.size,1,none⟩=some (.slice ma N mc):=(hb1.cell (p:=⟨w.heap.size,1,none⟩) ax).trans iP;have c2:w1.cell? ⟨w.heap.size,2,none⟩=some (.slice ca N cc):=(hb1.cell (p:=⟨w.heap.size,2,none⟩) ax).trans iP;have hB1:Below w.heap.size w w1:=aH;go_wp2_with fail
       refine (RD.out _ hB1).mono ?_;rintro e w2 ⟨g,rfl,ho,hb2⟩;have hB2:Below w.heap.size w w2:=aj hb2 hB1 xo;clear ho hb2;go_wp2
       go_ret3
       exact ⟨rfl,by (exact aH)⟩
 . have e0:P9 l ms cs=8:=if_neg hmay;have e1:ZU l ms cs n=8:=if_neg hmay;have e2:atM l ms cs n=0:=by unfold atM;rw [e1];rfl
   have e3:atC l ms cs n=0:=by unfold atC;rw [e1];rfl
   rw [e0] at CK;rw [e1,e2,e3];clear e0 e1 e2 e3 hmay hm hc;go_enter Tryz.func49,Tryz.ntmps49
   go_wp2_with fail
   refine (CK.out _ aH).mono ?_;rintro e w1 ⟨rfl,hb1⟩;go_wp2
   go_ret3
   exact ⟨rfl,by (exact aH)⟩
end
section
open Go.RowKit Go.Shelf
theorem Bq {lf t0:Nat->Int×Int} {F lo s n:Nat} (h:lo<=s):gH lf t0 F lo (s+1) 0 n=if n=F+s then lf s else gH lf t0 F lo s 0 n:=by
 obtain ⟨i,rfl⟩:=Nat.exists_eq_add_of_le h;exact Zd
theorem abQ {F lo hi h:Nat} (hn:∀k,¬(k≠0/\lZ F lo hi (h+1) k=true)):∀j k,¬(k≠0/\lZ F lo hi (h+1+j) k=true):=by
 intro j;induction j with
 | zero=>exact hn
 | succ j ih=>
  rintro k ⟨h0,h1⟩;obtain ⟨m,hm,e⟩:=sH.1 (show lZ F lo hi (h+1+j+1) k=true from h1);exact ih m ⟨by intro e2;subst e2;exact h0 (by rw [<-e]),hm⟩
theorem WA {lf t0:Nat->Int×Int} {F lo hi h gk D:Nat} (hn:∀k,¬(k≠0/\lZ F lo hi (h+1) k=true)) (hD:h+gk=D) {n:Nat} (h0:n≠0):gH lf t0 F lo hi D n=gH lf t0 F lo hi h n:=by
 subst hD;induction gk with
 | zero=>rfl
 | succ j ih=>
  rw [show h+(j+1)=h+j+1 by omega,gH,if_neg (fun e=>abQ hn j n ⟨h0,by rw [show h+1+j=h+j+1 by omega];exact e⟩)];exact ih
theorem tC (left:Lit->Bool) (j m:Nat):(left (.int .i64 (j:Int))&& !(Lit.int .i64 (j:Int)).sameKey (.int .i64 (m:Int)))=(left (.int .i64 (j:Int))&& !(j==m)):=by
 have:(Lit.int .i64 (j:Int)).sameKey (.int .i64 (m:Int))=(j==m):=by
  rw [Bool.eq_iff_iff];simp [Lit.sameKey];omega
 rw [this]
theorem Jz {w:World} {B n c s:Nat} {e:TypeId} {ao:Option Addr} {xs:List Value} (h:w.ownsRow B e s (.slice ao n c) n xs) (hn:0<n):∃g,ao=some ⟨g,0,none⟩/\B<=g/\g<w.heap.size:=by
 obtain ⟨_,⟨h1,h2⟩ | ⟨g,cap,cur,hv,hg,hh,-⟩⟩:=h
 . omega
 . cases hv;exact ⟨g,rfl,hg,(Array.getElem?_eq_some_iff.1 hh).1⟩
theorem Ll (S D L N F lo hi:Nat) (ma pY wa ka va ca:Option Addr) (mc qK wc kc vc cc lw lk lv:Nat) (laid:Int) (bL:Int) (bm bc:List Int) (f0 g0:Nat->Int) (pl:Nat->List (Int×Int)) (w:World)
    (hS:S<=64) (hL:L=D+1) (hD:D<=13) (hF:2^D=F) (hN:N+1=2^L) (hNF:N+1=2*F) (hF8:F<=8192) (hF0:0<F) (hSF:S*F<=65536) (h1:lo<=hi) (h2:hi<=F)
    (BI:Hid (∀W,Below w.heap.size w W->Calls Tryz.prog 44 #[.agg #[.int .i64 S,.slice wa lw wc,.slice ka lk kc,.slice va lv vc,.slice ca F cc,.int .u64 laid]] W (dY W bL bm bc (.int .i64 0))))
    (CK:Hid (∀W,Below w.heap.size w W->Calls Tryz.prog 91 #[um L ma N mc pY N qK] W (aC W (.int .i64 0))))
    (LF:Hid (∀W,Calls Tryz.prog 179 #[.int .i64 L,.int .i64 0] W fun e w'=>e= .returned (.tuple #[.int .i64 F,.int .i64 0])/\W=w'))
    (TW:Hid (∀W,Below w.heap.size w W->Calls Tryz.prog 69 #[um L ma N mc pY N qK] W (Iz W L ((lay L 1).map f0) ((lay L 1).map g0))))
    (PR:Hid (∀s,s<F->∀W,Below w.heap.size w W->Calls Tryz.prog 100 #[.agg #[.int .i64 S,.slice wa lw wc,.slice ka lk kc,.slice va lv vc,.slice ca F cc,.int .u64 laid],.int .i64 ((s*S:Nat):Int),.int .i64 (((s+1)*S:Nat):Int)] W (sZ W (pl s) (.int .i64 0))))
    (PL:Hid (∀s,(pl s).length<=64)):
    Calls Tryz.prog 132 #[um L ma N mc pY N qK,.agg #[.int .i64 S,.slice wa lw wc,.slice ka lk kc,.slice va lv vc,.slice ca F cc,.int .u64 laid],.int .i64 lo,.int .i64 hi] w
      (dY w L ((lay L 1).map fun n=>(gH (fun s=>d_ (pl s)) (fun n=>(f0 n,g0 n)) F lo hi D n).1) ((lay L 1).map fun n=>(gH (fun s=>d_ (pl s)) (fun n=>(f0 n,g0 n)) F lo hi D n).2) (.int .i64 0)):=by
 have ad3:∀f:Nat->Int,((lay L 1).map f).length=N:=fun f=>by rw [List.length_map,fG 1 xo];omega
 have aeE:=hid ad3;have QH:=hid hF;have HNL:=hid hN;have HLD:=hid hL;obtain ⟨T0,hT0⟩:∃T0,T0=fun n:Nat=>(f0 n,g0 n):=⟨_,rfl⟩
 rw [<-hT0];have HT0:=hid hT0;have hL1:1<=L:=xo;have af6:L<=14:=xo;have r1:((F:Int) != F)=false:=by simp
 have r2:decide ((lo:Int)<0)=false:=by simp
 have r3:decide ((lo:Int)>hi)=false:=by simp;omega
 have r4:decide ((hi:Int)>F)=false:=by simp;omega
 clear ad3 hF hN hT0 hL;go_enter Tryz.func132,Tryz.ntmps132
 go_wp2
 refine bZ 0 (fun _ _ _=>False) rfl (fun _ _ _ h=>h.elim) ?_;intro H hH hp;clear hH hp;go_wp2_with fail
 refine (BI.out _ aH).mono ?_;rintro e w1 ⟨v,u,rfl,o1,o2,hb1⟩;have aA:=hb1.size;try simp only [World.size_alloc,World.size_setCell] at aA
 have hh:=bc3 hb1 (rU (rU (uu (b:=w.heap.size) ax)));obtain ⟨jy,jw,jH⟩:=hh;have qh:=aP hb1 (dB (dB (bV (b:=w.heap.size) ax)));have hh:=jl hb1 (jI (jA (b:=w.heap.size+1) ax));obtain ⟨eH,fA,eG,eF,eY,eX⟩:=hh;have iC:=aP hb1 (dB (bV (b:=w.heap.size+1) ax));have hh:=bc3 hb1 (uu (b:=w.heap.size+1+1) ax);obtain ⟨a_,aZ,bf⟩:=hh;have hh:=FW hb1 (bV (b:=w.heap.size+1+1) ax) (xx (b:=w.heap.size+1+1) ax);obtain ⟨bQ,bP,bT⟩:=hh;have bW:=aP hb1 (bV (b:=w.heap.size+1+1) ax);have hB1:Below w.heap.size w w1:=aH;obtain ⟨BK,BJ,rfl,-⟩:=aG o1;obtain ⟨BR,BQ,rfl,-⟩:=aG o2;clear o1 o2 hb1;go_wp2_with fail
 refine (CK.out _ aH).mono ?_;rintro e w2 ⟨rfl,hb2⟩;have fH:=hb2.size;try simp only [World.size_alloc,World.size_setCell] at fH
 have ja:w2.cell? ⟨w.heap.size,0,none⟩=some (.int .i64 L)/\w2.cell? ⟨w.heap.size,1,none⟩=some (.slice ma N mc)/\w2.cell? ⟨w.heap.size,2,none⟩=some (.slice pY N qK)/\w2.cell? ⟨w.heap.size+1,0,none⟩=some (.int .i64 S)/\w2.cell? ⟨w.heap.size+1,1,none⟩=some (.slice wa lw wc)/\w2.cell? ⟨w.heap.size+1,2,none⟩=some (.slice ka lk kc)/\w2.cell? ⟨w.heap.size+1,3,none⟩=some (.slice va lv vc)/\w2.cell? ⟨w.heap.size+1,4,none⟩=some (.slice ca F cc)/\w2.cell? ⟨w.heap.size+1,5,none⟩=some (.int .u64 laid)/\w2.cell? ⟨w.heap.size+1+1,0,none⟩=some (.int .i64 0)/\w2.cell? ⟨w.heap.size+1+1,1,none⟩=some (.slice none 0 0)/\w2.cell? ⟨w.heap.size+1+1,2,none⟩=some (.slice none 0 0):=by refine ⟨?_,?_,?_,?_,?_,?_,?_,?_,?_,?_,?_,?_⟩<;>(refine (hb2.cell ?_).trans ?_<;>first|(exact gW)|(exact dL))
 have jE:w2.frozen? ⟨w.heap.size+1+1,0,none⟩=false/\w2.frozen? ⟨w.heap.size+1+1,1,none⟩=false/\w2.frozen? ⟨w.heap.size+1+1,2,none⟩=false:=by refine ⟨?_,?_,?_⟩<;>(refine (hb2.frozen ?_).trans ?_<;>first|(exact gW)|(exact dL))
 have iZ:w.heap.size<w2.heap.size/\w.heap.size+1<w2.heap.size/\w.heap.size+1+1<w2.heap.size:=by refine ⟨?_,?_,?_⟩<;>(omega)
 clear jy jw jH eH fA eG eF eY eX a_ aZ bf bQ bP bT qh iC bW;obtain ⟨jy,jw,jH,eH,fA,eG,eF,eY,eX,a_,aZ,bf⟩:=ja;try clear ja
 obtain ⟨bQ,bP,bT⟩:=jE;try clear jE
 obtain ⟨qh,iC,bW⟩:=iZ;try clear iZ
 have hB2:Below w.heap.size w w2:=aH;clear hb2;go_wp2_with fail
 refine (LF.out _).mono ?_;rintro e w' ⟨rfl,rfl⟩;go_wp2_with fail
 refine (TW.out _ hB2).mono ?_;rintro e w3 ⟨v,u,rfl,o1,o2,hb3⟩;have kD:=hb3.size;simp (disch:=omega) only [jK hb3,rX hb3] at jy jw jH eH fA eG eF eY eX a_ aZ bf bQ bP bT;replace qh:=aP hb3 qh;replace iC:=aP hb3 iC;replace bW:=aP hb3 bW;have hB3:Below w.heap.size w w3:=aH;rw [aeE.out] at o1 o2;obtain ⟨ao1,k1,rfl,-⟩:=aG o1;obtain ⟨ao2,k2,rfl,-⟩:=aG o2;obtain ⟨g1,rfl,hg1,hg1'⟩:=Jz o1 xo;obtain ⟨g2,rfl,hg2,abS⟩:=Jz o2 xo;have n12:g1≠g2:=by
  rcases kQ o1 o2 au with h|h
  . cases h
  . intro e;exact h (by rw [e];rfl)
 have hz2:=hb3.size;have abA:=hB2.size;have O1:=hid o1;have O2:=hid o2;clear o1 o2 hb3 BI CK LF TW;have hmm:= @run_makeMap Tryz.prog;go_wp2
 clear hmm;have hal:Below w3.heap.size w3 ((w3.alloc (.cells #[.int .i64 L,.slice (some ⟨g1,0,none⟩) N k1,.slice (some ⟨g2,0,none⟩) N k2] 239)).alloc (.map #[] 0)):=(br.alloc (Nat.le_refl _) _).alloc ax _;have hU:vg w2.heap.size ((w3.alloc (.cells #[.int .i64 L,.slice (some ⟨g1,0,none⟩) N k1,.slice (some ⟨g2,0,none⟩) N k2] 239)).alloc (.map #[] 0)) w3.heap.size g1 g2 N k1 k2 L f0 g0:=⟨by (exact iP),by (exact iP),by (exact iP),ay O1.out hal,ay O2.out hal,by omega,by omega,n12⟩
 have hM:yz ((w3.alloc (.cells #[.int .i64 L,.slice (some ⟨g1,0,none⟩) N k1,.slice (some ⟨g2,0,none⟩) N k2] 239)).alloc (.map #[] 0)) (w3.heap.size+1) 0 (.map []):=by
  have:=World.ownsMap_made (H:=Unit) (w3.alloc (.cells #[.int .i64 L,.slice (some ⟨g1,0,none⟩) N k1,.slice (some ⟨g2,0,none⟩) N k2] 239)) Tryz.prog 3 (plainElem Tryz.prog 3);rw [World.size_alloc] at this;exact this
 have hzL:((w3.alloc (.cells #[.int .i64 L,.slice (some ⟨g1,0,none⟩) N k1,.slice (some ⟨g2,0,none⟩) N k2] 239)).alloc (.map #[] 0)).heap.size=w3.heap.size+2:=by simp
 generalize ((w3.alloc (.cells #[.int .i64 L,.slice (some ⟨g1,0,none⟩) N k1,.slice (some ⟨g2,0,none⟩) N k2] 239)).alloc (.map #[] 0))=wL at *;have adI:=hal.size;simp (disch:=omega) only [jK hal,rX hal] at jy jw jH eH fA eG eF eY eX a_ aZ bf bQ bP bT;replace qh:=aP hal qh;replace iC:=aP hal iC;replace bW:=aP hal bW;have Ua:=hid hB3;obtain ⟨M0,hM0⟩:∃M0,w3.heap.size+1=M0:=⟨_,rfl⟩
 rw [hM0] at hM ⊢;obtain ⟨U,hUU⟩:∃U,w3.heap.size=U:=⟨_,rfl⟩
 rw [hUU] at hU hM0 ⊢;have hBU:w2.heap.size<=U:=xo;have aju:g1<U:=xo;have ajt:g2<U:=xo;have hw2:w.heap.size+1+1<w2.heap.size:=xo;have ru:Hid (Below w.heap.size w wL):=hid (aj hal hB3 xo);have HUs:=hid hU;have HMs:=hid hM;have HZ:Hid (M0=U+1/\U<wL.heap.size/\M0<wL.heap.size):=hid ⟨by omega,by omega,by omega⟩;have hMU:U<M0:=xo;clear hal hU hM hzL hM0 hUU hg1' abS O1 O2 hB1 hB2 hB3 hz2 abA aA fH kD adI;clear aeE;go_loopg [16] (hi-lo) (fun gk sv wr=>∃s:Nat,s+gk=hi/\lo<=s/\sv= .int .i64 s/\Hid (Tn (fun q=>q=g1\/q=g2\/q=M0) wL wr)/\Hid (vg w2.heap.size wr U g1 g2 N k1 k2 L (fun n=>(gH (fun s=>d_ (pl s)) T0 F lo s 0 n).1) (fun n=>(gH (fun s=>d_ (pl s)) T0 F lo s 0 n).2))/\∃D,Hid (yz wr M0 s D)/\Hid (nI D fun k=>lZ F lo s 1 k=true))
 case atStart=>
  refine ⟨lo,by omega,Nat.le_refl _,rfl,hid (Tn.refl _ _),hid ?_,_,hid (HMs.out.mono (Nat.zero_le _)),hid (nI.made.Qi fun k=>by rw [Dp];simp)⟩;refine HUs.out.Qi xo (fun n hn=> ?_) (fun n hn=> ?_)
  . rw [gH,Dp,if_neg au,HT0.out]
  . rw [gH,Dp,if_neg au,HT0.out]
 case round =>
  obtain ⟨s,hs,hlo,rfl,HT,HU,D1,HM,HK⟩:=hrel;have G9:=HT.out.size;have hns:¬(w.heap.size+1=g1\/w.heap.size+1=g2\/w.heap.size+1=M0):=xo;have hnr:¬(w.heap.size+1+1=g1\/w.heap.size+1+1=g2\/w.heap.size+1+1=M0):=xo;have hBr:Below w.heap.size w wr:=HT.out.below (by rintro q (rfl|rfl|rfl)<;>omega) ru.out xo;have d0:=HT.out.cell (a:=⟨w.heap.size+1,0,none⟩) hns eH;have d1:=HT.out.cell (a:=⟨w.heap.size+1,1,none⟩) hns fA;have d2:=HT.out.cell (a:=⟨w.heap.size+1,2,none⟩) hns eG;have d3:=HT.out.cell (a:=⟨w.heap.size+1,3,none⟩) hns eF;have d4:=HT.out.cell (a:=⟨w.heap.size+1,4,none⟩) hns eY;have d5:=HT.out.cell (a:=⟨w.heap.size+1,5,none⟩) hns eX;by_cases hlt:s<hi
  . have PRs:=PR.out s xo wr hBr;have hk1:(s:Int)*(S:Int)=((s*S:Nat):Int):=by push_cast;rfl
    have hk2:((s:Int)+1)*(S:Int)=(((s+1)*S:Nat):Int):=by push_cast;rfl
    have ad4:s*S<=65536:=by
     have:s*S<=F*S:=Nat.mul_le_mul_right _ xo;rw [Nat.mul_comm F] at this;omega
    have hkb2:(s+1)*S<=65536:=by
     have:(s+1)*S<=F*S:=Nat.mul_le_mul_right _ xo;rw [Nat.mul_comm F] at this;omega
    generalize s*S=p1 at *;generalize (s+1)*S=p2 at *;obtain ⟨m1,hm1⟩:∃m1,(F+s)/2=m1:=⟨_,rfl⟩
    have q1:((F:Int)+(s:Int))/2=(m1:Int):=xo;have q2:((F:Int)+(s:Int)).tdiv 2=(m1:Int):=by rw [Int.tdiv_eq_ediv_of_nonneg xo];omega
    have aji:m1<=16384:=xo;have HM1:=hid hm1;have PRs:=hid PRs;have HS:=hid hs;clear hm1 hs;cases hpl:pl s with
    | nil =>
     have PL0:d_ (pl s)=(0,0):=by rw [hpl];rfl
     have hpl0:(pl s).length=0:=by rw [hpl];rfl
     go_wp2_with fail
     refine PRs.out.mono ?_;rintro e w5 ⟨v,rfl,o3,hb5⟩;rw [hpl0] at o3;obtain ⟨la,lca,hvl,-⟩:=aG o3;subst hvl;clear o3;have t5:Tn (fun q=>q=g1\/q=g2\/q=M0) wr w5:=Tn.of_below hb5;have hu5:=HU.out.tn (Tn.of_below (S:=fun _=>False) hb5) (fun h=>h) (fun h=>h) (fun h=>h);have TL:=hid (Gf hu5 xo xo HNL.out (F+s) xo (by have:=HNL.out;omega) 0 0);rw [show ((F+s:Nat):Int)=(F:Int)+(s:Int) by push_cast;rfl] at TL;have T5:=hid t5;have T5b:=hid hb5;clear t5 hu5 hb5 d0 d1 d2 d3 d4 d5;go_wp2_with fail
     refine TL.out.mono ?_;rintro e w6 ⟨⟨v,rfl⟩,ht6,hu6⟩;have t6:Tn (fun q=>q=g1\/q=g2\/q=M0) wr w6:=T5.out.trans (ht6.wide fun q h=>h.elim .inl (fun h=> .inr (.inl h)));have m6:yz w6 M0 s D1:=uG (uG HM.out (Tn.of_below (S:=fun q=>q=g1\/q=g2) T5b.out) xo) ht6 xo;have M6:=hid m6;have T6:=hid t6;have H6:=hid hu6;have mr6:=m6;have HTL:=HT;clear ht6 hu6 m6 t6 T5 T5b TL PRs HT HU;go_wp2_with (first|(at_lookup;refine wpList_lookup_own_int _ rfl _ _ 240 rfl 3 3 .i64 lT Tryz.underlying240 Tryz.underlying3 (BC _) M0 _ _ rfl mr6 _ _ rfl (tY xo) ?_;intro c hat hwc)|(at_mapUpdate;refine wpList_mapUpdate_own _ rfl _ _ _ 240 rfl 3 3 lT Tryz.underlying240 _ M0 _ _ rfl mr6 (by unfold maxLen;omega) _ _ _ rfl rfl (tY xo) _ [] (plainElem_int Tryz.underlying3 (wrap64_wf _)) ?_;intro w7 x9 Dq)|fail)
     have t7:Tn (fun q=>q=g1\/q=g2\/q=M0) wr w7:=T6.out.trans (Tn.iT Dq (.inr (.inr rfl)));have VV:=H6.out.tn (Tn.iT (S:=fun q=>q=M0) Dq rfl) xo xo xo;go_roundg (gk-1)
     case measure=>have:=HS.out;omega
     case rel=>
      refine ⟨s+1,by have:=HS.out;omega,by omega,by go_num,hid (HTL.out.trans t7),hid (VV.Qi xo (fun n hn=> ?_) (fun n hn=> ?_)),_,hid x9,hid ((HK.out.put M6.out.isMap xo _).Qi fun k=> ?_)⟩
      . dsimp only [upd];rw [Bq hlo,PL0];split<;>rfl
      . dsimp only [upd];rw [Bq hlo,PL0];split<;>rfl
      . rw [sH,sH];constructor
        . rintro (rfl | ⟨j,hj,rfl⟩)
          . exact ⟨F+s,hit0.2 xo,HM1.out⟩
          . exact ⟨j,hit0.2 (by have:=hit0.1 hj;omega),rfl⟩
        . rintro ⟨j,hj,rfl⟩;have:=hit0.1 hj;by_cases e:j=F+s
          . subst e;exact .inl HM1.out
          . exact .inr ⟨j,hit0.2 xo,rfl⟩
    | cons p r=>
     obtain ⟨m,hmm⟩:∃m,(pl s).length=m+1:=⟨r.length,by rw [hpl];rfl⟩
     have hne:pl s≠ []:=by rw [hpl];simp
     obtain ⟨y,hy⟩:∃y,((pl s).getD m (0,0)).1=y:=⟨_,rfl⟩
     have PL0:d_ (pl s)=(y,(m:Int)+1):=by
      rw [d_,if_neg hne,hmm,Nat.add_sub_cancel,hy];push_cast
      rfl
     have afQ:=PL.out s;rw [hmm] at afQ;have hx0:((m:Int)+1==0)=false:=by simp;omega
     go_wp2_with fail
     refine PRs.out.mono ?_;rintro e w5 ⟨v,rfl,o3,hb5⟩;obtain ⟨la,lca,hvl,hil,-,-,-,-⟩:=ak o3;obtain ⟨bl,ol,rfl,c0,-,zl⟩:=wY hil (i:=m) (by rw [hmm];omega);rw [hmm] at hvl;rw [hy] at c0;subst hvl;clear o3 hil;have t5:Tn (fun q=>q=g1\/q=g2\/q=M0) wr w5:=Tn.of_below hb5;have hu5:=HU.out.tn (Tn.of_below (S:=fun _=>False) hb5) (fun h=>h) (fun h=>h) (fun h=>h);have TL:=hid (Gf hu5 xo xo HNL.out (F+s) xo (by have:=HNL.out;omega) y ((m:Int)+1));rw [show ((F+s:Nat):Int)=(F:Int)+(s:Int) by push_cast;rfl] at TL;have T5:=hid t5;have T5b:=hid hb5;clear t5 hu5 hb5 d0 d1 d2 d3 d4 d5;go_wp2_with fail
     refine TL.out.mono ?_;rintro e w6 ⟨⟨v,rfl⟩,ht6,hu6⟩;have t6:Tn (fun q=>q=g1\/q=g2\/q=M0) wr w6:=T5.out.trans (ht6.wide fun q h=>h.elim .inl (fun h=> .inr (.inl h)));have m6:yz w6 M0 s D1:=uG (uG HM.out (Tn.of_below (S:=fun q=>q=g1\/q=g2) T5b.out) xo) ht6 xo;have M6:=hid m6;have T6:=hid t6;have H6:=hid hu6;have mr6:=m6;have HTL:=HT;clear ht6 hu6 m6 t6 T5 T5b TL PRs HT HU;go_wp2_with (first|(at_lookup;refine wpList_lookup_own_int _ rfl _ _ 240 rfl 3 3 .i64 lT Tryz.underlying240 Tryz.underlying3 (BC _) M0 _ _ rfl mr6 _ _ rfl (tY xo) ?_;intro c hat hwc)|(at_mapUpdate;refine wpList_mapUpdate_own _ rfl _ _ _ 240 rfl 3 3 lT Tryz.underlying240 _ M0 _ _ rfl mr6 (by unfold maxLen;omega) _ _ _ rfl rfl (tY xo) _ [] (plainElem_int Tryz.underlying3 (wrap64_wf _)) ?_;intro w7 x9 Dq)|fail)
     have t7:Tn (fun q=>q=g1\/q=g2\/q=M0) wr w7:=T6.out.trans (Tn.iT Dq (.inr (.inr rfl)));have VV:=H6.out.tn (Tn.iT (S:=fun q=>q=M0) Dq rfl) xo xo xo;go_roundg (gk-1)
     case measure=>have:=HS.out;omega
     case rel=>
      refine ⟨s+1,by have:=HS.out;omega,by omega,by go_num,hid (HTL.out.trans t7),hid (VV.Qi xo (fun n hn=> ?_) (fun n hn=> ?_)),_,hid x9,hid ((HK.out.put M6.out.isMap xo _).Qi fun k=> ?_)⟩
      . dsimp only [upd];rw [Bq hlo,PL0];split<;>rfl
      . dsimp only [upd];rw [Bq hlo,PL0];split<;>rfl
      . rw [sH,sH];constructor
        . rintro (rfl | ⟨j,hj,rfl⟩)
          . exact ⟨F+s,hit0.2 xo,HM1.out⟩
          . exact ⟨j,hit0.2 (by have:=hit0.1 hj;omega),rfl⟩
        . rintro ⟨j,hj,rfl⟩;have:=hit0.1 hj;by_cases e:j=F+s
          . subst e;exact .inl HM1.out
          . exact .inr ⟨j,hit0.2 xo,rfl⟩
  . have hsh : hi=s:=xo;subst hsh;have M1:=HM.out;have HTW:Hid (Tn (fun q=>q=g1\/q=g2\/U<q) wL wr):=hid (HT.out.wide fun q h=>by rcases h with h|h|h<;>omega);clear d0 d1 d2 d3 d4 d5 hBr HT PR PL;go_wp2_with (first|(at_delete;refine wpList_delete_own _ rfl _ _ 240 3 rfl 3 lT Tryz.underlying240 _ M0 _ _ rfl M1 _ _ rfl JJ ?_;intro w7 x9 xn;go_frame)|fail)
    refine wp_label ?_;have t7:Tn (fun q=>q=g1\/q=g2\/U<q) wL w7:=HTW.out.trans (Tn.iT xn.grown xo);have VV:=HU.out.tn (Tn.iT (S:=fun q=>q=M0) xn.grown rfl) xo xo xo;have k7:nI (D1.del (.int .i64 0)) fun k=>k≠0/\lZ F lo hi 1 k=true:=HK.out.del (m:=0) xo
    have T7:=hid t7;have U7:=hid VV;have K7:=hid k7;have O7:=hid x9;clear t7 VV k7 x9 xn HTW HU HK HM M1;go_wp2
    go_loopg [15] D (fun gk mv wr=>∃h mb n D2,h+gk=D/\mv= .map (some mb)/\U<mb/\n<=20000/\Hid (Tn (fun q=>q=g1\/q=g2\/U<q) wL wr)/\Hid (vg w2.heap.size wr U g1 g2 N k1 k2 L (fun n=>(gH (fun s=>d_ (pl s)) T0 F lo hi h n).1) (fun n=>(gH (fun s=>d_ (pl s)) T0 F lo hi h n).2))/\Hid (yz wr mb n D2)/\Hid (nI D2 fun k=>k≠0/\lZ F lo hi (h+1) k=true))
    case atStart=>exact ⟨0,M0,hi,_,by omega,rfl,by omega,by omega,T7,U7,O7,K7⟩
    case round =>
     obtain ⟨h,mb,n,D2,hgk,rfl,hUm,hn,HT,HU,HM,HK⟩:=hrel;have G9:=HT.out.size;have HGK:=hid hgk;clear hgk;by_cases hk:∃k,k≠0/\lZ F lo hi (h+1) k=true
     . obtain ⟨k0,hk0,hk1⟩:=hk;have hhD:h+1<=D:=by
        have hg:=HGK.out;apply Nat.le_of_not_lt;intro hlt;have e:h=D:=xo;rw [e,<-QH.out] at hk1;exact hk0 (Y4 (by rw [QH.out];omega) hk1)
       have hrk:k0<=1000000:=by
        rw [<-QH.out] at hk1;have:=(kX (by rw [QH.out];omega) hhD hk1).2;have h3:2^(D-(h+1))<=2^13:=Nat.pow_le_pow_right xo xo;omega
       have hsz:Maps.size D2≠0:=Sj HK.out ⟨hk0,hk1⟩ hrk;have hsz2:((Maps.size D2:Int)==0)=false:=by simp;omega
       have adO:=HM.out.size_le;have M1:=HM.out;have hmm:= @run_makeMap Tryz.prog;clear hk0 hk1 hrk hsz;obtain ⟨MB,hMB⟩:∃MB,wr.heap.size=MB:=⟨_,rfl⟩
       have abX:U<MB:=by have:=HZ.out;omega
       have hal:Tn (fun q=>q=g1\/q=g2\/U<q) wr (wr.alloc (.map #[] 0)):=Tn.of_below (br.alloc (Nat.le_refl _) _);have M1a:yz (wr.alloc (.map #[] 0)) mb n D2:=uG (S:=fun _=>False) M1 (Tn.of_below (br.alloc (Nat.le_refl _) _)) (fun h=>h);have N1a:yz (wr.alloc (.map #[] 0)) MB 0 (.map []):=by
        rw [<-hMB];exact World.ownsMap_made wr Tryz.prog 3 (plainElem Tryz.prog 3)
       have ajf:mb<MB:=by rw [<-hMB];exact M1.lt
       have hsa:(wr.alloc (.map #[] 0)).heap.size=MB+1:=by simp;omega
       have XH:=hid (HT.out.trans hal);have HUA:=hid (HU.out.tn (Tn.of_below (S:=fun _=>False) (br.alloc (Nat.le_refl _) (.map #[] 0))) (fun h=>h) (fun h=>h) (fun h=>h));have HNA:=hid N1a;clear N1a hal HU HM HT G9;go_wp2_with (first|(at_len;refine wpList_len_own _ rfl _ 240 rfl 3 3 Tryz.underlying240 _ mb _ _ rfl M1 ?_)|(at_range;refine wpList_range_own _ rfl _ 240 rfl 3 3 lT Tryz.underlying240 _ mb _ _ rfl M1a ?_;intro w8 adT hg8 hs8)|fail)
       go_frame
       rw [hsa] at adT hs8 ⊢;clear hmm hsz2;have t8:Tn (fun q=>q=g1\/q=g2\/U<q) wL w8:=XH.out.trans (Tn.Oa hg8);have u8:=HUA.out.tn (Tn.Oa (S:=fun _=>False) hg8) (fun h=>h) (fun h=>h) (fun h=>h);have n8:yz w8 MB 0 (.map []):=uG (S:=fun _=>False) HNA.out (Tn.Oa hg8) (fun h=>h);have T8:=hid t8;have U8:=hid u8;have N8:=hid n8;have HSN:Hid (Maps.size D2<=n/\n<=20000):=hid ⟨adO,hn⟩;have HB8:Hid (w8.heap.size=MB+2):=hid xo;clear t8 u8 n8 hg8 hs8 XH HUA HNA M1 M1a hsa adO hn;go_loopg [21] (Maps.size D2) (fun gk xv wq=>∃(left:Lit->Bool) (na:Nat) (Da:DataW Unit),acB wq mb (MB+1) n D2 left gk/\Hid (Tn (fun q=>q=g1\/q=g2\/U<q) wL wq)/\Hid (yz wq MB na Da)/\Hid (na+gk<=n)/\Hid (nI Da fun y=>∃m:Nat,(m≠0/\lZ F lo hi (h+1) m=true)/\left (.int .i64 (m:Int))=false/\m/2=y)/\Hid (∀x:Int,(Lit.int .i64 x).wf=true->left (.int .i64 x)=true->∃m:Nat,x=m/\(m≠0/\lZ F lo hi (h+1) m=true))/\Hid (vg w2.heap.size wq U g1 g2 N k1 k2 L (fun n=>(gM (fun s=>d_ (pl s)) T0 F lo hi h (fun m=> !left (.int .i64 (m:Nat))) n).1) (fun n=>(gM (fun s=>d_ (pl s)) T0 F lo hi h (fun m=> !left (.int .i64 (m:Nat))) n).2))/\Hid (MB+2<=wq.heap.size))
       case atStart=>
        refine ⟨_,0,_,adT,T8,N8,hid (by have:=HSN.out;omega),hid (nI.made.Qi fun k=>⟨fun h=>h.elim,?_⟩),hid ?_,hid ?_,hid (by have:=HB8.out;omega)⟩
        . rintro ⟨m,⟨e1,e2⟩,e3,-⟩;have hm6:m<=1000000:=by
           rw [<-QH.out] at e2;have:=(kX (by rw [QH.out];omega) hhD e2).2;have h3:2^(D-(h+1))<=2^13:=Nat.pow_le_pow_right xo xo;omega
          rw [(HK.out (m:Int) (nat_wf hm6)).2 ⟨m,rfl,e1,e2⟩] at e3;cases e3
        . intro x hx hl;exact (HK.out x hx).1 hl
        . refine U8.out.Qi xo (fun n hn=> ?_) (fun n hn=> ?_);all_goals
            rw [Zc (fun m e2 e1=> ?_) hn];have hm6:m<=1000000:=by
             rw [<-QH.out] at e2;have:=(kX (by rw [QH.out];omega) hhD e2).2;have h3:2^(D-(h+1))<=2^13:=Nat.pow_le_pow_right xo xo;omega
            rw [(HK.out (m:Int) (nat_wf hm6)).2 ⟨m,rfl,e1,e2⟩];rfl
       case round=>
        obtain ⟨left,na,Da,hrg,HT9,HA,HNA,HKA,HLF,HU9,HZ9⟩:=hrel;go_wp2_with (first|(at_next;refine wpList_next_ranges_ii _ rfl _ rfl 3 3 .i64 .i64 lT Tryz.underlying3 Tryz.underlying3 mb (MB+1) n _ _ _ rfl hrg ?_ ?_)|fail)
        . intro hc0 hl0;have mA:=HA.out;go_wp2_with (first|(at_delete;refine wpList_delete_own _ rfl _ _ 240 3 rfl 3 lT Tryz.underlying240 _ MB _ _ rfl mA _ _ rfl JJ ?_;intro w7 x9 xn;go_frame)|fail)
          have t7:Tn (fun q=>q=g1\/q=g2\/U<q) wL w7:=HT9.out.trans (Tn.iT xn.grown (.inr (.inr abX)));have VV:=HU9.out.tn (Tn.iT (S:=fun q=>q=MB) xn.grown rfl) xo xo xo;have T7:=hid t7;have U7:=hid VV;have O7:=hid x9;clear t7 VV x9 xn mA;go_wp2
          go_roundg (D-(h+1))
          case measure=>have:=HGK.out;omega
          case rel=>
           refine ⟨h+1,MB,na,_,by omega,rfl,abX,by have:=HNA.out;have:=HSN.out;omega,T7,hid (U7.out.Qi xo (fun n hn=> ?_) (fun n hn=> ?_)),O7,hid ((HKA.out.del (m:=0) xo).Qi fun k=> ?_)⟩
           . rw [Wy (fun m e2 e1=>by rw [hl0];rfl) hn]
           . rw [Wy (fun m e2 e1=>by rw [hl0];rfl) hn]
           . rw [sH (h:=h+1)];constructor
             . rintro ⟨e0,m,⟨e1,e2⟩,-,e3⟩;exact ⟨e0,m,e2,e3⟩
             . rintro ⟨e0,m,e2,e3⟩;exact ⟨e0,m,⟨by intro e;subst e;exact e0 (by rw [<-e3]),e2⟩,hl0 _,e3⟩
        . intro x c w9 cnt1 hwx hwc hlx hat hrg1 hlt1 Y5 hs1 hen;obtain ⟨m,rfl,hm0,hm1⟩:=HLF.out x hwx hlx;have afM:2^(D-(h+1))<=2^13:=Nat.pow_le_pow_right xo xo;have hpD:2*2^(D-(h+1))<=F:=by
           rw [<-QH.out,<-Nat.pow_succ'];exact Nat.pow_le_pow_right xo xo
          have hmr:=hm1;rw [<-QH.out] at hmr;replace hmr:=kX (by rw [QH.out];omega) hhD hmr;have hp1:=Nat.two_pow_pos (D-(h+1));have ajj:m<=16384:=xo;have hmL:2*m+1<2^L:=by have:=HNL.out;omega
          have GS:=Zb (lf:=fun s=>d_ (pl s)) (t0:=T0) (D:=D) (lo:=lo) (hi:=hi) (h:=h) (done:=fun m=> !left (.int .i64 (m:Nat))) (n:=m) (by rw [QH.out];omega) hhD (by rw [QH.out];exact hm1);rw [QH.out] at GS;have t9:Tn (fun q=>q=g1\/q=g2\/U<q) wL w9:=HT9.out.trans (Tn.iT Y5 (.inr (.inr xo)));have u9:=HU9.out.tn (Tn.iT (S:=fun q=>q=MB+1) Y5 rfl) xo xo xo;have n9:yz w9 MB na Da:=uG HA.out (Tn.iT (S:=fun q=>q=MB+1) Y5 rfl) xo;have JN:=hid (YP u9 hL1 af6 HNL.out m xo hmL);have HGS:=hid GS;have T9:=hid t9;have N9:=hid n9;have HR1:=hid hrg1;have HM1:=hid hm1;have hcn:na<=20000:=by have:=HNA.out;have:=HSN.out;omega
          have HCN:Hid (na+1+cnt1<=n):=hid (by have:=HNA.out;omega);have QE:=hid hlt1;have HLX:=hid hlx;clear GS t9 u9 n9 hrg1 hmr afM hpD hp1 hmL hm1 hat hwc hwx Y5 hs1 hlt1 hlx hrg;go_wp2_with fail
          refine JN.out.mono ?_;rintro e w10 ⟨⟨v,rfl⟩,ht10,hu10⟩;have t10:Tn (fun q=>q=g1\/q=g2\/U<q) wL w10:=T9.out.trans (ht10.wide fun q h=>h.elim .inl (fun h=> .inr (.inl h)));have r10:=U1 HR1.out ht10 xo xo;have m10:yz w10 MB na Da:=uG N9.out ht10 xo;have T10:=hid t10;have R10:=hid r10;have U10:=hid hu10;have Z10:Hid (MB+2<=w10.heap.size):=hid (by have:=r10.lt;omega);obtain ⟨m2,hm2⟩:∃m2,m/2=m2:=⟨_,rfl⟩
          have q1:(m:Int)/2=(m2:Int):=xo;have q2:(m:Int).tdiv 2=(m2:Int):=by rw [Int.tdiv_eq_ediv_of_nonneg xo];omega
          have ajh:m2<=16384:=xo;have HM2:=hid hm2;clear t10 r10 hu10 ht10 JN T9 N9 HR1 hm2;go_wp2_with (first|(at_lookup;refine wpList_lookup_own_int _ rfl _ _ 240 rfl 3 3 .i64 lT Tryz.underlying240 Tryz.underlying3 (BC _) MB _ _ rfl m10 _ _ rfl (tY xo) ?_;intro c2 ajC ai3)|(at_mapUpdate;refine wpList_mapUpdate_own _ rfl _ _ _ 240 rfl 3 3 lT Tryz.underlying240 _ MB _ _ rfl m10 (by unfold maxLen;omega) _ _ _ rfl rfl (tY xo) _ [] (plainElem_int Tryz.underlying3 (wrap64_wf _)) ?_;intro w11 abK Bo;go_frame)|fail)
          have t11:Tn (fun q=>q=g1\/q=g2\/U<q) wL w11:=T10.out.trans (Tn.iT Bo (.inr (.inr abX)));have u11:=U10.out.tn (Tn.iT (S:=fun q=>q=MB) Bo rfl) xo xo xo;have r11:=U1 R10.out (Tn.iT (S:=fun q=>q=MB) Bo rfl) xo xo;have s11:=Bo.size;go_roundg cnt1
          case measure=>exact QE.out
          case rel=>
           refine ⟨_,na+1,_,r11,hid t11,hid abK,HCN,hid ((HKA.out.put m10.isMap xo _).Qi fun k=> ?_),hid fun x hx hl=> ?_,hid (u11.Qi xo (fun n hn=> ?_) (fun n hn=> ?_)),hid (by have:=Z10.out;omega)⟩
           . constructor
             . rintro (rfl | ⟨j,⟨e1,e2⟩,e3,e4⟩)
               . exact ⟨m,⟨hm0,HM1.out⟩,by rw [tC];simp,HM2.out⟩
               . exact ⟨j,⟨e1,e2⟩,by rw [e3];rfl,e4⟩
             . rintro ⟨j,⟨e1,e2⟩,e3,e4⟩;rw [tC] at e3;by_cases e:j=m
               . subst e;exact .inl (e4.symm.trans HM2.out)
               . exact .inr ⟨j,⟨e1,e2⟩,by simpa [e] using e3,e4⟩
           . exact HLF.out x hx (by simp only [Bool.and_eq_true] at hl;exact hl.1)
           . have e:(fun m':Nat=> !(left (.int .i64 (m':Int))&& !(Lit.int .i64 (m':Int)).sameKey (.int .i64 (m:Int))))=fun x:Nat=>(!left (.int .i64 (x:Int)))||x==m:=by
               funext x
               rw [tC];cases left (.int .i64 (x:Int))<;>simp
             rw [e,HGS.out.2.2 n];dsimp only [upd];split
             . rw [HGS.out.1,HGS.out.2.1]
             . rfl
           . have e:(fun m':Nat=> !(left (.int .i64 (m':Int))&& !(Lit.int .i64 (m':Int)).sameKey (.int .i64 (m:Int))))=fun x:Nat=>(!left (.int .i64 (x:Int)))||x==m:=by
               funext x
               rw [tC];cases left (.int .i64 (x:Int))<;>simp
             rw [e,HGS.out.2.2 n];dsimp only [upd];split
             . rw [HGS.out.1,HGS.out.2.1]
             . rfl
     . have hnk:∀k,¬(k≠0/\lZ F lo hi (h+1) k=true):=fun k hh=>hk ⟨k,hh⟩
       have hsz:=Sl HM.out HK.out hnk;have hsz2:((Maps.size D2:Int)==0)=true:=by rw [hsz];rfl
       have M1:=HM.out;have u0:=HU.out.Qi (f':=fun n=>(gH (fun s=>d_ (pl s)) T0 F lo hi D n).1) (g':=fun n=>(gH (fun s=>d_ (pl s)) T0 F lo hi D n).2) xo (fun n hn=>by rw [WA hnk HGK.out hn]) (fun n hn=>by rw [WA hnk HGK.out hn]);have hnr:¬(w.heap.size+1+1=g1\/w.heap.size+1+1=g2\/U<w.heap.size+1+1):=xo;have p0:=HT.out.cell (a:=⟨w.heap.size+1+1,0,none⟩) hnr a_;have p1:=HT.out.cell (a:=⟨w.heap.size+1+1,1,none⟩) hnr aZ;have p2:=HT.out.cell (a:=⟨w.heap.size+1+1,2,none⟩) hnr bf;have p3:=HT.out.frozen (a:=⟨w.heap.size+1+1,0,none⟩) bW hnr bQ;have p4:=HT.out.frozen (a:=⟨w.heap.size+1+1,1,none⟩) bW hnr bP;have p5:=HT.out.frozen (a:=⟨w.heap.size+1+1,2,none⟩) bW hnr bT;have hBr:Below w.heap.size w wr:=HT.out.below (by rintro q (rfl|rfl|h)<;>omega) ru.out xo;have e0:=u0.c0;have e1:=u0.c1;have e2:=u0.c2;have HUF:=hid u0;have HBR:=hid hBr;clear hnk hsz u0 hBr HU HK HM HT G9 hk a_ aZ bf bQ bP bT eH fA eG eF eY eX jy jw jH;go_wp2_with (first|(at_len;refine wpList_len_own _ rfl _ 240 rfl 3 3 Tryz.underlying240 _ mb _ _ rfl M1 ?_)|fail)
       simp only [Exit.jump];have hts:=gq (x:= .int .i64 L) (y:= .slice (some ⟨g1,0,none⟩) N k1) (z:= .slice (some ⟨g2,0,none⟩) N k2) p0 p1 p2;have rJ:∀q,q≠w.heap.size+1+1->(((wr.setCell ⟨w.heap.size+1+1,0,none⟩ (.int .i64 L)).setCell ⟨w.heap.size+1+1,1,none⟩ (.slice (some ⟨g1,0,none⟩) N k1)).setCell ⟨w.heap.size+1+1,2,none⟩ (.slice (some ⟨g2,0,none⟩) N k2)).heap[q]? =wr.heap[q]? :=fun q hq=>by rw [ae _ _ _ hq,ae _ _ _ hq,ae _ _ _ hq]
       have hln:∀f:Nat->Int,((lay L 1).map f).length=N:=fun f=>by rw [List.length_map,fG 1 xo];have:=HNL.out;omega
       refine bodyPost_ret (aF rfl rfl (ag _ Tryz.underlying33 rfl xk (g_ hts.1 hts.2.1 hts.2.2))) rfl ⟨_,_,rfl,?_,?_,?_⟩
       . rw [hln];exact az (af HUF.out.o1 fun q hq=>rJ q (by have e:g1=q:=Option.some.inj hq;omega)) xo
       . rw [hln];exact az (af HUF.out.o2 fun q hq=>rJ q (by have e:g2=q:=Option.some.inj hq;omega)) xo
       . exact ((HBR.out.setCell dG _).setCell dG _).setCell dG _
theorem ZY (ai:Int) (ma pY wa ka va ca:Option Addr) (mc qK n1 n2 wc kc vc cc lw lk lv lc:Nat) (laid l lo hi bL:Int) (bm bc:List Int) (y:Int) (hy:y≠0) (w:World)
    (BI:Hid (∀W,Below w.heap.size w W->Calls Tryz.prog 44 #[.agg #[.int .i64 ai,.slice wa lw wc,.slice ka lk kc,.slice va lv vc,.slice ca lc cc,.int .u64 laid]] W (dY W bL bm bc (.int .i64 y)))):
    Calls Tryz.prog 132 #[um l ma n1 mc pY n2 qK,.agg #[.int .i64 ai,.slice wa lw wc,.slice ka lk kc,.slice va lv vc,.slice ca lc cc,.int .u64 laid],.int .i64 lo,.int .i64 hi] w (dY w 0 [] [] (.int .i64 y)):=by
 have g1:(y != 0)=true:=by simpa using hy
 clear hy;go_enter Tryz.func132,Tryz.ntmps132
 go_wp2
 refine bZ 0 (fun _ _ _=>False) rfl (fun _ _ _ h=>h.elim) ?_;intro H hH hp;clear hH hp;go_wp2_with fail
 refine (BI.out _ aH).mono ?_;rintro e w1 ⟨v,u,rfl,o1,o2,hb1⟩;have aA:=hb1.size;try simp only [World.size_alloc,World.size_setCell] at aA
 have hh:=bc3 hb1 (rU (rU (uu (b:=w.heap.size) ax)));obtain ⟨jy,jw,jH⟩:=hh;have qh:=aP hb1 (dB (dB (bV (b:=w.heap.size) ax)));have hh:=jl hb1 (jI (jA (b:=w.heap.size+1) ax));obtain ⟨eH,fA,eG,eF,eY,eX⟩:=hh;have iC:=aP hb1 (dB (bV (b:=w.heap.size+1) ax));have hh:=bc3 hb1 (uu (b:=w.heap.size+1+1) ax);obtain ⟨a_,aZ,bf⟩:=hh;have hh:=FW hb1 (bV (b:=w.heap.size+1+1) ax) (xx (b:=w.heap.size+1+1) ax);obtain ⟨bQ,bP,bT⟩:=hh;have bW:=aP hb1 (bV (b:=w.heap.size+1+1) ax);have hB1:Below w.heap.size w w1:=aH;obtain ⟨BK,BJ,rfl,-⟩:=aG o1;obtain ⟨BR,BQ,rfl,-⟩:=aG o2;clear o1 o2 hb1;go_wp2
 simp only [Exit.jump];have hsw:=gq (w2:=w1) (b:=w.heap.size+1+1) (x:= .int .i64 0) (y:= .slice none 0 0) (z:= .slice none 0 0) a_ aZ bf;have hs7:(((w1.setCell ⟨w.heap.size+1+1,0,none⟩ (.int .i64 0)).setCell ⟨w.heap.size+1+1,1,none⟩ (.slice none 0 0)).setCell ⟨w.heap.size+1+1,2,none⟩ (.slice none 0 0)).heap.size=w1.heap.size:=by simp only [World.size_setCell]
 have hB7:Below w.heap.size w (((w1.setCell ⟨w.heap.size+1+1,0,none⟩ (.int .i64 0)).setCell ⟨w.heap.size+1+1,1,none⟩ (.slice none 0 0)).setCell ⟨w.heap.size+1+1,2,none⟩ (.slice none 0 0)):=((hB1.setCell dG _).setCell dG _).setCell dG _;generalize (((w1.setCell ⟨w.heap.size+1+1,0,none⟩ (.int .i64 0)).setCell ⟨w.heap.size+1+1,1,none⟩ (.slice none 0 0)).setCell ⟨w.heap.size+1+1,2,none⟩ (.slice none 0 0))=w7 at *;have hal:Below w7.heap.size w7 (w7.alloc (.cells #[.int .i64 bL,.slice BK bm.length BJ,.slice BR bc.length BQ] 33)):=(Below.refl _ w7).alloc (Nat.le_refl _) _;refine bodyPost_ret (aF rfl rfl (ag _ Tryz.underlying33 rfl xk (g_ ((hal.cell dG).trans hsw.1) ((hal.cell dG).trans hsw.2.1) ((hal.cell dG).trans hsw.2.2)))) rfl ⟨_,_,rfl,World.ownsRow_nil _ _ _ _,World.ownsRow_nil _ _ _ _,?_⟩;exact hB7.alloc xo _
theorem ZX (ai:Int) (ma pY wa ka va ca:Option Addr) (mc qK n1 n2 wc kc vc cc lw lk lv lc:Nat) (laid l lo hi bL:Int) (bm bc:List Int) (y:Int) (hy:y≠0) (w:World)
    (BI:Hid (∀W,Below w.heap.size w W->Calls Tryz.prog 44 #[.agg #[.int .i64 ai,.slice wa lw wc,.slice ka lk kc,.slice va lv vc,.slice ca lc cc,.int .u64 laid]] W (dY W bL bm bc (.int .i64 0))))
    (CK:Hid (∀W,Below w.heap.size w W->Calls Tryz.prog 91 #[um l ma n1 mc pY n2 qK] W (aC W (.int .i64 y)))):
    Calls Tryz.prog 132 #[um l ma n1 mc pY n2 qK,.agg #[.int .i64 ai,.slice wa lw wc,.slice ka lk kc,.slice va lv vc,.slice ca lc cc,.int .u64 laid],.int .i64 lo,.int .i64 hi] w (dY w 0 [] [] (.int .i64 8)):=by
 have g1:(y != 0)=true:=by simpa using hy
 clear hy;go_enter Tryz.func132,Tryz.ntmps132
 go_wp2
 refine bZ 0 (fun _ _ _=>False) rfl (fun _ _ _ h=>h.elim) ?_;intro H hH hp;clear hH hp;go_wp2_with fail
 refine (BI.out _ aH).mono ?_;rintro e w1 ⟨v,u,rfl,o1,o2,hb1⟩;have aA:=hb1.size;try simp only [World.size_alloc,World.size_setCell] at aA
 have hh:=bc3 hb1 (rU (rU (uu (b:=w.heap.size) ax)));obtain ⟨jy,jw,jH⟩:=hh;have qh:=aP hb1 (dB (dB (bV (b:=w.heap.size) ax)));have hh:=jl hb1 (jI (jA (b:=w.heap.size+1) ax));obtain ⟨eH,fA,eG,eF,eY,eX⟩:=hh;have iC:=aP hb1 (dB (bV (b:=w.heap.size+1) ax));have hh:=bc3 hb1 (uu (b:=w.heap.size+1+1) ax);obtain ⟨a_,aZ,bf⟩:=hh;have hh:=FW hb1 (bV (b:=w.heap.size+1+1) ax) (xx (b:=w.heap.size+1+1) ax);obtain ⟨bQ,bP,bT⟩:=hh;have bW:=aP hb1 (bV (b:=w.heap.size+1+1) ax);have hB1:Below w.heap.size w w1:=aH;obtain ⟨BK,BJ,rfl,-⟩:=aG o1;obtain ⟨BR,BQ,rfl,-⟩:=aG o2;clear o1 o2 hb1;go_wp2_with fail
 refine (CK.out _ aH).mono ?_;rintro e w2 ⟨rfl,hb2⟩;have fH:=hb2.size;try simp only [World.size_alloc,World.size_setCell] at fH
 have ja:w2.cell? ⟨w.heap.size,0,none⟩=some (.int .i64 l)/\w2.cell? ⟨w.heap.size,1,none⟩=some (.slice ma n1 mc)/\w2.cell? ⟨w.heap.size,2,none⟩=some (.slice pY n2 qK)/\w2.cell? ⟨w.heap.size+1,0,none⟩=some (.int .i64 ai)/\w2.cell? ⟨w.heap.size+1,1,none⟩=some (.slice wa lw wc)/\w2.cell? ⟨w.heap.size+1,2,none⟩=some (.slice ka lk kc)/\w2.cell? ⟨w.heap.size+1,3,none⟩=some (.slice va lv vc)/\w2.cell? ⟨w.heap.size+1,4,none⟩=some (.slice ca lc cc)/\w2.cell? ⟨w.heap.size+1,5,none⟩=some (.int .u64 laid)/\w2.cell? ⟨w.heap.size+1+1,0,none⟩=some (.int .i64 0)/\w2.cell? ⟨w.heap.size+1+1,1,none⟩=some (.slice none 0 0)/\w2.cell? ⟨w.heap.size+1+1,2,none⟩=some (.slice none 0 0):=by refine ⟨?_,?_,?_,?_,?_,?_,?_,?_,?_,?_,?_,?_⟩<;>(refine (hb2.cell ?_).trans ?_<;>first|(exact gW)|(exact dL))
 have jE:w2.frozen? ⟨w.heap.size+1+1,0,none⟩=false/\w2.frozen? ⟨w.heap.size+1+1,1,none⟩=false/\w2.frozen? ⟨w.heap.size+1+1,2,none⟩=false:=by refine ⟨?_,?_,?_⟩<;>(refine (hb2.frozen ?_).trans ?_<;>first|(exact gW)|(exact dL))
 have iZ:w.heap.size<w2.heap.size/\w.heap.size+1<w2.heap.size/\w.heap.size+1+1<w2.heap.size:=by refine ⟨?_,?_,?_⟩<;>(omega)
 clear jy jw jH eH fA eG eF eY eX a_ aZ bf bQ bP bT qh iC bW;obtain ⟨jy,jw,jH,eH,fA,eG,eF,eY,eX,a_,aZ,bf⟩:=ja;try clear ja
 obtain ⟨bQ,bP,bT⟩:=jE;try clear jE
 obtain ⟨qh,iC,bW⟩:=iZ;try clear iZ
 have hB2:Below w.heap.size w w2:=aH;clear hb2;go_wp2
 simp only [Exit.jump];have hsw:=gq (w2:=w2) (b:=w.heap.size+1+1) (x:= .int .i64 0) (y:= .slice none 0 0) (z:= .slice none 0 0) dL dL dL;refine bodyPost_ret (aF rfl rfl (ag _ Tryz.underlying33 rfl xk (g_ hsw.1 hsw.2.1 hsw.2.2))) rfl ⟨_,_,rfl,World.ownsRow_nil _ _ _ _,World.ownsRow_nil _ _ _ _,?_⟩;exact ((hB2.setCell dG _).setCell dG _).setCell dG _
theorem ZW (ai:Int) (ma pY wa ka va ca:Option Addr) (mc qK n1 n2 wc kc vc cc lw lk lv lc:Nat) (laid l lo hi bL:Int) (bm bc:List Int) (F:Int) (h:F≠lc\/(F=lc/\lo<0)\/(F=lc/\0<=lo/\hi<lo)\/(F=lc/\0<=lo/\lo<=hi/\F<hi)) (w:World)
    (BI:Hid (∀W,Below w.heap.size w W->Calls Tryz.prog 44 #[.agg #[.int .i64 ai,.slice wa lw wc,.slice ka lk kc,.slice va lv vc,.slice ca lc cc,.int .u64 laid]] W (dY W bL bm bc (.int .i64 0))))
    (CK:Hid (∀W,Below w.heap.size w W->Calls Tryz.prog 91 #[um l ma n1 mc pY n2 qK] W (aC W (.int .i64 0))))
    (LF:Hid (∀W,Calls Tryz.prog 179 #[.int .i64 l,.int .i64 0] W fun e w'=>e= .returned (.tuple #[.int .i64 F,.int .i64 0])/\W=w')):
    Calls Tryz.prog 132 #[um l ma n1 mc pY n2 qK,.agg #[.int .i64 ai,.slice wa lw wc,.slice ka lk kc,.slice va lv vc,.slice ca lc cc,.int .u64 laid],.int .i64 lo,.int .i64 hi] w (dY w 0 [] [] (.int .i64 2)):=by
 obtain ⟨b1,b2,b3,b4,hh⟩:∃b1 b2 b3 b4:Bool,(F != (lc:Int))=b1/\decide (lo<0)=b2/\decide (lo>hi)=b3/\decide (hi>F)=b4/\(b1||(b2||(b3||b4)))=true:=by
  refine ⟨_,_,_,_,rfl,rfl,rfl,rfl,?_⟩;simp only [Bool.or_eq_true,bne_iff_ne,decide_eq_true_eq];rcases h with h|h|h|h
  . exact .inl h
  . exact .inr (.inl h.2)
  . exact .inr (.inr (.inl h.2.2))
  . exact .inr (.inr (.inr h.2.2.2))
 obtain ⟨g1,g2,g3,g4,g5⟩:=hh;clear h;cases b1 with
 | true=>
  clear g2 g3 g4;go_enter Tryz.func132,Tryz.ntmps132
  go_wp2
  refine bZ 0 (fun _ _ _=>False) rfl (fun _ _ _ h=>h.elim) ?_;intro H hH hp;clear hH hp;go_wp2_with fail
  refine (BI.out _ aH).mono ?_;rintro e w1 ⟨v,u,rfl,o1,o2,hb1⟩;have aA:=hb1.size;try simp only [World.size_alloc,World.size_setCell] at aA
  have hh:=bc3 hb1 (rU (rU (uu (b:=w.heap.size) ax)));obtain ⟨jy,jw,jH⟩:=hh;have qh:=aP hb1 (dB (dB (bV (b:=w.heap.size) ax)));have hh:=jl hb1 (jI (jA (b:=w.heap.size+1) ax));obtain ⟨eH,fA,eG,eF,eY,eX⟩:=hh;have iC:=aP hb1 (dB (bV (b:=w.heap.size+1) ax));have hh:=bc3 hb1 (uu (b:=w.heap.size+1+1) ax);obtain ⟨a_,aZ,bf⟩:=hh;have hh:=FW hb1 (bV (b:=w.heap.size+1+1) ax) (xx (b:=w.heap.size+1+1) ax);obtain ⟨bQ,bP,bT⟩:=hh;have bW:=aP hb1 (bV (b:=w.heap.size+1+1) ax);have hB1:Below w.heap.size w w1:=aH;obtain ⟨BK,BJ,rfl,-⟩:=aG o1;obtain ⟨BR,BQ,rfl,-⟩:=aG o2;clear o1 o2 hb1;go_wp2_with fail
  refine (CK.out _ aH).mono ?_;rintro e w2 ⟨rfl,hb2⟩;have fH:=hb2.size;try simp only [World.size_alloc,World.size_setCell] at fH
  have ja:w2.cell? ⟨w.heap.size,0,none⟩=some (.int .i64 l)/\w2.cell? ⟨w.heap.size,1,none⟩=some (.slice ma n1 mc)/\w2.cell? ⟨w.heap.size,2,none⟩=some (.slice pY n2 qK)/\w2.cell? ⟨w.heap.size+1,0,none⟩=some (.int .i64 ai)/\w2.cell? ⟨w.heap.size+1,1,none⟩=some (.slice wa lw wc)/\w2.cell? ⟨w.heap.size+1,2,none⟩=some (.slice ka lk kc)/\w2.cell? ⟨w.heap.size+1,3,none⟩=some (.slice va lv vc)/\w2.cell? ⟨w.heap.size+1,4,none⟩=some (.slice ca lc cc)/\w2.cell? ⟨w.heap.size+1,5,none⟩=some (.int .u64 laid)/\w2.cell? ⟨w.heap.size+1+1,0,none⟩=some (.int .i64 0)/\w2.cell? ⟨w.heap.size+1+1,1,none⟩=some (.slice none 0 0)/\w2.cell? ⟨w.heap.size+1+1,2,none⟩=some (.slice none 0 0):=by refine ⟨?_,?_,?_,?_,?_,?_,?_,?_,?_,?_,?_,?_⟩<;>(refine (hb2.cell ?_).trans ?_<;>first|(exact gW)|(exact dL))
  have jE:w2.frozen? ⟨w.heap.size+1+1,0,none⟩=false/\w2.frozen? ⟨w.heap.size+1+1,1,none⟩=false/\w2.frozen? ⟨w.heap.size+1+1,2,none⟩=false:=by refine ⟨?_,?_,?_⟩<;>(refine (hb2.frozen ?_).trans ?_<;>first|(exact gW)|(exact dL))
  have iZ:w.heap.size<w2.heap.size/\w.heap.size+1<w2.heap.size/\w.heap.size+1+1<w2.heap.size:=by refine ⟨?_,?_,?_⟩<;>(omega)
  clear jy jw jH eH fA eG eF eY eX a_ aZ bf bQ bP bT qh iC bW;obtain ⟨jy,jw,jH,eH,fA,eG,eF,eY,eX,a_,aZ,bf⟩:=ja;try clear ja
  obtain ⟨bQ,bP,bT⟩:=jE;try clear jE
  obtain ⟨qh,iC,bW⟩:=iZ;try clear iZ
  have hB2:Below w.heap.size w w2:=aH;clear hb2;go_wp2_with fail
  refine (LF.out _).mono ?_;rintro e w' ⟨rfl,rfl⟩;go_wp2
  simp only [Exit.jump];have hsw:=gq (w2:=w2) (b:=w.heap.size+1+1) (x:= .int .i64 0) (y:= .slice none 0 0) (z:= .slice none 0 0) dL dL dL;refine bodyPost_ret (aF rfl rfl (ag _ Tryz.underlying33 rfl xk (g_ hsw.1 hsw.2.1 hsw.2.2))) rfl ⟨_,_,rfl,World.ownsRow_nil _ _ _ _,World.ownsRow_nil _ _ _ _,?_⟩;exact ((hB2.setCell dG _).setCell dG _).setCell dG _
 | false=>
  cases b2 with
  | true=>
   clear g3 g4;go_enter Tryz.func132,Tryz.ntmps132
   go_wp2
   refine bZ 0 (fun _ _ _=>False) rfl (fun _ _ _ h=>h.elim) ?_;intro H hH hp;clear hH hp;go_wp2_with fail
   refine (BI.out _ aH).mono ?_;rintro e w1 ⟨v,u,rfl,o1,o2,hb1⟩;have aA:=hb1.size;try simp only [World.size_alloc,World.size_setCell] at aA
   have hh:=bc3 hb1 (rU (rU (uu (b:=w.heap.size) ax)));obtain ⟨jy,jw,jH⟩:=hh;have qh:=aP hb1 (dB (dB (bV (b:=w.heap.size) ax)));have hh:=jl hb1 (jI (jA (b:=w.heap.size+1) ax));obtain ⟨eH,fA,eG,eF,eY,eX⟩:=hh;have iC:=aP hb1 (dB (bV (b:=w.heap.size+1) ax));have hh:=bc3 hb1 (uu (b:=w.heap.size+1+1) ax);obtain ⟨a_,aZ,bf⟩:=hh;have hh:=FW hb1 (bV (b:=w.heap.size+1+1) ax) (xx (b:=w.heap.size+1+1) ax);obtain ⟨bQ,bP,bT⟩:=hh;have bW:=aP hb1 (bV (b:=w.heap.size+1+1) ax);have hB1:Below w.heap.size w w1:=aH;obtain ⟨BK,BJ,rfl,-⟩:=aG o1;obtain ⟨BR,BQ,rfl,-⟩:=aG o2;clear o1 o2 hb1;go_wp2_with fail
   refine (CK.out _ aH).mono ?_;rintro e w2 ⟨rfl,hb2⟩;have fH:=hb2.size;try simp only [World.size_alloc,World.size_setCell] at fH
   have ja:w2.cell? ⟨w.heap.size,0,none⟩=some (.int .i64 l)/\w2.cell? ⟨w.heap.size,1,none⟩=some (.slice ma n1 mc)/\w2.cell? ⟨w.heap.size,2,none⟩=some (.slice pY n2 qK)/\w2.cell? ⟨w.heap.size+1,0,none⟩=some (.int .i64 ai)/\w2.cell? ⟨w.heap.size+1,1,none⟩=some (.slice wa lw wc)/\w2.cell? ⟨w.heap.size+1,2,none⟩=some (.slice ka lk kc)/\w2.cell? ⟨w.heap.size+1,3,none⟩=some (.slice va lv vc)/\w2.cell? ⟨w.heap.size+1,4,none⟩=some (.slice ca lc cc)/\w2.cell? ⟨w.heap.size+1,5,none⟩=some (.int .u64 laid)/\w2.cell? ⟨w.heap.size+1+1,0,none⟩=some (.int .i64 0)/\w2.cell? ⟨w.heap.size+1+1,1,none⟩=some (.slice none 0 0)/\w2.cell? ⟨w.heap.size+1+1,2,none⟩=some (.slice none 0 0):=by refine ⟨?_,?_,?_,?_,?_,?_,?_,?_,?_,?_,?_,?_⟩<;>(refine (hb2.cell ?_).trans ?_<;>first|(exact gW)|(exact dL))
   have jE:w2.frozen? ⟨w.heap.size+1+1,0,none⟩=false/\w2.frozen? ⟨w.heap.size+1+1,1,none⟩=false/\w2.frozen? ⟨w.heap.size+1+1,2,none⟩=false:=by refine ⟨?_,?_,?_⟩<;>(refine (hb2.frozen ?_).trans ?_<;>first|(exact gW)|(exact dL))
   have iZ:w.heap.size<w2.heap.size/\w.heap.size+1<w2.heap.size/\w.heap.size+1+1<w2.heap.size:=by refine ⟨?_,?_,?_⟩<;>(omega)
   clear jy jw jH eH fA eG eF eY eX a_ aZ bf bQ bP bT qh iC bW;obtain ⟨jy,jw,jH,eH,fA,eG,eF,eY,eX,a_,aZ,bf⟩:=ja;try clear ja
   obtain ⟨bQ,bP,bT⟩:=jE;try clear jE
   obtain ⟨qh,iC,bW⟩:=iZ;try clear iZ
   have hB2:Below w.heap.size w w2:=aH;clear hb2;go_wp2_with fail
   refine (LF.out _).mono ?_;rintro e w' ⟨rfl,rfl⟩;go_wp2
   simp only [Exit.jump];have hsw:=gq (w2:=w2) (b:=w.heap.size+1+1) (x:= .int .i64 0) (y:= .slice none 0 0) (z:= .slice none 0 0) dL dL dL;refine bodyPost_ret (aF rfl rfl (ag _ Tryz.underlying33 rfl xk (g_ hsw.1 hsw.2.1 hsw.2.2))) rfl ⟨_,_,rfl,World.ownsRow_nil _ _ _ _,World.ownsRow_nil _ _ _ _,?_⟩;exact ((hB2.setCell dG _).setCell dG _).setCell dG _
  | false=>
   cases b3 with
   | true=>
    clear g4;go_enter Tryz.func132,Tryz.ntmps132
    go_wp2
    refine bZ 0 (fun _ _ _=>False) rfl (fun _ _ _ h=>h.elim) ?_;intro H hH hp;clear hH hp;go_wp2_with fail
    refine (BI.out _ aH).mono ?_;rintro e w1 ⟨v,u,rfl,o1,o2,hb1⟩;have aA:=hb1.size;try simp only [World.size_alloc,World.size_setCell] at aA
    have hh:=bc3 hb1 (rU (rU (uu (b:=w.heap.size) ax)));obtain ⟨jy,jw,jH⟩:=hh;have qh:=aP hb1 (dB (dB (bV (b:=w.heap.size) ax)));have hh:=jl hb1 (jI (jA (b:=w.heap.size+1) ax));obtain ⟨eH,fA,eG,eF,eY,eX⟩:=hh;have iC:=aP hb1 (dB (bV (b:=w.heap.size+1) ax));have hh:=bc3 hb1 (uu (b:=w.heap.size+1+1) ax);obtain ⟨a_,aZ,bf⟩:=hh;have hh:=FW hb1 (bV (b:=w.heap.size+1+1) ax) (xx (b:=w.heap.size+1+1) ax);obtain ⟨bQ,bP,bT⟩:=hh;have bW:=aP hb1 (bV (b:=w.heap.size+1+1) ax);have hB1:Below w.heap.size w w1:=aH;obtain ⟨BK,BJ,rfl,-⟩:=aG o1;obtain ⟨BR,BQ,rfl,-⟩:=aG o2;clear o1 o2 hb1;go_wp2_with fail
    refine (CK.out _ aH).mono ?_;rintro e w2 ⟨rfl,hb2⟩;have fH:=hb2.size;try simp only [World.size_alloc,World.size_setCell] at fH
    have ja:w2.cell? ⟨w.heap.size,0,none⟩=some (.int .i64 l)/\w2.cell? ⟨w.heap.size,1,none⟩=some (.slice ma n1 mc)/\w2.cell? ⟨w.heap.size,2,none⟩=some (.slice pY n2 qK)/\w2.cell? ⟨w.heap.size+1,0,none⟩=some (.int .i64 ai)/\w2.cell? ⟨w.heap.size+1,1,none⟩=some (.slice wa lw wc)/\w2.cell? ⟨w.heap.size+1,2,none⟩=some (.slice ka lk kc)/\w2.cell? ⟨w.heap.size+1,3,none⟩=some (.slice va lv vc)/\w2.cell? ⟨w.heap.size+1,4,none⟩=some (.slice ca lc cc)/\w2.cell? ⟨w.heap.size+1,5,none⟩=some (.int .u64 laid)/\w2.cell? ⟨w.heap.size+1+1,0,none⟩=some (.int .i64 0)/\w2.cell? ⟨w.heap.size+1+1,1,none⟩=some (.slice none 0 0)/\w2.cell? ⟨w.heap.size+1+1,2,none⟩=some (.slice none 0 0):=by refine ⟨?_,?_,?_,?_,?_,?_,?_,?_,?_,?_,?_,?_⟩<;>(refine (hb2.cell ?_).trans ?_<;>first|(exact gW)|(exact dL))
    have jE:w2.frozen? ⟨w.heap.size+1+1,0,none⟩=false/\w2.frozen? ⟨w.heap.size+1+1,1,none⟩=false/\w2.frozen? ⟨w.heap.size+1+1,2,none⟩=false:=by refine ⟨?_,?_,?_⟩<;>(refine (hb2.frozen ?_).trans ?_<;>first|(exact gW)|(exact dL))
    have iZ:w.heap.size<w2.heap.size/\w.heap.size+1<w2.heap.size/\w.heap.size+1+1<w2.heap.size:=by refine ⟨?_,?_,?_⟩<;>(omega)
    clear jy jw jH eH fA eG eF eY eX a_ aZ bf bQ bP bT qh iC bW;obtain ⟨jy,jw,jH,eH,fA,eG,eF,eY,eX,a_,aZ,bf⟩:=ja;try clear ja
    obtain ⟨bQ,bP,bT⟩:=jE;try clear jE
    obtain ⟨qh,iC,bW⟩:=iZ;try clear iZ
    have hB2:Below w.heap.size w w2:=aH;clear hb2;go_wp2_with fail
    refine (LF.out _).mono ?_;rintro e w' ⟨rfl,rfl⟩;go_wp2
    simp only [Exit.jump];have hsw:=gq (w2:=w2) (b:=w.heap.size+1+1) (x:= .int .i64 0) (y:= .slice none 0 0) (z:= .slice none 0 0) dL dL dL;refine bodyPost_ret (aF rfl rfl (ag _ Tryz.underlying33 rfl xk (g_ hsw.1 hsw.2.1 hsw.2.2))) rfl ⟨_,_,rfl,World.ownsRow_nil _ _ _ _,World.ownsRow_nil _ _ _ _,?_⟩;exact ((hB2.setCell dG _).setCell dG _).setCell dG _
   | false=>
    have hb4:b4=true:=by simpa using g5
    subst hb4;go_enter Tryz.func132,Tryz.ntmps132
    go_wp2
    refine bZ 0 (fun _ _ _=>False) rfl (fun _ _ _ h=>h.elim) ?_;intro H hH hp;clear hH hp;go_wp2_with fail
    refine (BI.out _ aH).mono ?_;rintro e w1 ⟨v,u,rfl,o1,o2,hb1⟩;have aA:=hb1.size;try simp only [World.size_alloc,World.size_setCell] at aA
    have hh:=bc3 hb1 (rU (rU (uu (b:=w.heap.size) ax)));obtain ⟨jy,jw,jH⟩:=hh;have qh:=aP hb1 (dB (dB (bV (b:=w.heap.size) ax)));have hh:=jl hb1 (jI (jA (b:=w.heap.size+1) ax));obtain ⟨eH,fA,eG,eF,eY,eX⟩:=hh;have iC:=aP hb1 (dB (bV (b:=w.heap.size+1) ax));have hh:=bc3 hb1 (uu (b:=w.heap.size+1+1) ax);obtain ⟨a_,aZ,bf⟩:=hh;have hh:=FW hb1 (bV (b:=w.heap.size+1+1) ax) (xx (b:=w.heap.size+1+1) ax);obtain ⟨bQ,bP,bT⟩:=hh;have bW:=aP hb1 (bV (b:=w.heap.size+1+1) ax);have hB1:Below w.heap.size w w1:=aH;obtain ⟨BK,BJ,rfl,-⟩:=aG o1;obtain ⟨BR,BQ,rfl,-⟩:=aG o2;clear o1 o2 hb1;go_wp2_with fail
    refine (CK.out _ aH).mono ?_;rintro e w2 ⟨rfl,hb2⟩;have fH:=hb2.size;try simp only [World.size_alloc,World.size_setCell] at fH
    have ja:w2.cell? ⟨w.heap.size,0,none⟩=some (.int .i64 l)/\w2.cell? ⟨w.heap.size,1,none⟩=some (.slice ma n1 mc)/\w2.cell? ⟨w.heap.size,2,none⟩=some (.slice pY n2 qK)/\w2.cell? ⟨w.heap.size+1,0,none⟩=some (.int .i64 ai)/\w2.cell? ⟨w.heap.size+1,1,none⟩=some (.slice wa lw wc)/\w2.cell? ⟨w.heap.size+1,2,none⟩=some (.slice ka lk kc)/\w2.cell? ⟨w.heap.size+1,3,none⟩=some (.slice va lv vc)/\w2.cell? ⟨w.heap.size+1,4,none⟩=some (.slice ca lc cc)/\w2.cell? ⟨w.heap.size+1,5,none⟩=some (.int .u64 laid)/\w2.cell? ⟨w.heap.size+1+1,0,none⟩=some (.int .i64 0)/\w2.cell? ⟨w.heap.size+1+1,1,none⟩=some (.slice none 0 0)/\w2.cell? ⟨w.heap.size+1+1,2,none⟩=some (.slice none 0 0):=by refine ⟨?_,?_,?_,?_,?_,?_,?_,?_,?_,?_,?_,?_⟩<;>(refine (hb2.cell ?_).trans ?_<;>first|(exact gW)|(exact dL))
    have jE:w2.frozen? ⟨w.heap.size+1+1,0,none⟩=false/\w2.frozen? ⟨w.heap.size+1+1,1,none⟩=false/\w2.frozen? ⟨w.heap.size+1+1,2,none⟩=false:=by refine ⟨?_,?_,?_⟩<;>(refine (hb2.frozen ?_).trans ?_<;>first|(exact gW)|(exact dL))
    have iZ:w.heap.size<w2.heap.size/\w.heap.size+1<w2.heap.size/\w.heap.size+1+1<w2.heap.size:=by refine ⟨?_,?_,?_⟩<;>(omega)
    clear jy jw jH eH fA eG eF eY eX a_ aZ bf bQ bP bT qh iC bW;obtain ⟨jy,jw,jH,eH,fA,eG,eF,eY,eX,a_,aZ,bf⟩:=ja;try clear ja
    obtain ⟨bQ,bP,bT⟩:=jE;try clear jE
    obtain ⟨qh,iC,bW⟩:=iZ;try clear iZ
    have hB2:Below w.heap.size w w2:=aH;clear hb2;go_wp2_with fail
    refine (LF.out _).mono ?_;rintro e w' ⟨rfl,rfl⟩;go_wp2
    simp only [Exit.jump];have hsw:=gq (w2:=w2) (b:=w.heap.size+1+1) (x:= .int .i64 0) (y:= .slice none 0 0) (z:= .slice none 0 0) dL dL dL;refine bodyPost_ret (aF rfl rfl (ag _ Tryz.underlying33 rfl xk (g_ hsw.1 hsw.2.1 hsw.2.2))) rfl ⟨_,_,rfl,World.ownsRow_nil _ _ _ _,World.ownsRow_nil _ _ _ _,?_⟩;exact ((hB2.setCell dG _).setCell dG _).setCell dG _
def wV (l:Int) (ms cs:List Int) (c:aW) (lo hi:Int):Int:=
  if kJ c=0 then (if oO l ms cs=true then (if (2:Int)^(l.toNat-1)=c.cs.length/\0<=lo/\lo<=hi/\hi<=c.cs.length then 0 else 2) else 8) else kJ c
def Us (l:Int) (ms cs:List Int) (c:aW) (lo hi:Int):Nat->Int×Int:=
  gH (oN c) (fun n=>(fU l.toNat ms n,fU l.toNat cs n)) (2^(l.toNat-1)) lo.toNat hi.toNat (l.toNat-1)
def Mc (l:Int) (ms cs:List Int) (c:aW) (lo hi:Int):Int:=if wV l ms cs c lo hi=0 then l else 0
def L_ (l:Int) (ms cs:List Int) (c:aW) (lo hi:Int):List Int:=if wV l ms cs c lo hi=0 then (lay l.toNat 1).map (fun n=>(Us l ms cs c lo hi n).1) else []
def Md (l:Int) (ms cs:List Int) (c:aW) (lo hi:Int):List Int:=if wV l ms cs c lo hi=0 then (lay l.toNat 1).map (fun n=>(Us l ms cs c lo hi n).2) else []
theorem TJ (l:Int) (ma pY:Option Addr) (mc qK:Nat) (ms cs:List Int) (c:aW) (a:jJ) (lo hi:Int) (hl:c.ws.length<=9223372036854775807) (hl2:c.ks.length<=1000000000000) (w:World) (hin:iy w c a) (hm:aQ .i64 w ma ms) (hc:aQ .i64 w pY cs) (hlm:ms.length<=100000) (hlc:cs.length<=100000):
    Calls Tryz.prog 132 #[um l ma ms.length mc pY cs.length qK,jB c a,.int .i64 lo,.int .i64 hi] w (dY w (Mc l ms cs c lo hi) (L_ l ms cs c lo hi) (Md l ms cs c lo hi) (.int .i64 (wV l ms cs c lo hi))):=by
 have BI:=hid (fun W (hb:Below w.heap.size w W)=>ug c a hl hl2 W (hin.below hb));have CK:=hid (fun W (hb:Below w.heap.size w W)=>yD l ma pY mc qK ms cs W (hm.below hb) (hc.below hb));by_cases h0:kJ c=0
 . rw [h0] at BI;by_cases hmay:oO l ms cs=true
   . rw [show P9 l ms cs=0 from if_pos hmay] at CK;obtain ⟨L,D,N,F,hL,h1,h2,hN,hD,hF,hNF,hFb,hF0,hLn,XP,abN,abO,hg⟩:=uP hmay;have hFI:(2:Int)^(l.toNat-1)=(F:Int):=by rw [XP,<-hF];push_cast;rfl
     have LF:=hid (fun W=>DY l 0 W);have hlE:Si l 0=0:=if_pos ⟨by omega,by omega,by rw [hFI];omega⟩;have hlR:R_ l 0=(F:Int):=by rw [R_,if_pos hlE,hFI];omega
     rw [hlE,hlR] at LF;by_cases hr:(2:Int)^(l.toNat-1)=c.cs.length/\0<=lo/\lo<=hi/\hi<=c.cs.length
     . have hE:wV l ms cs c lo hi=0:=by rw [wV,if_pos h0,if_pos hmay,if_pos hr]
       obtain ⟨hr1,hr2,hr3,hr4⟩:=hr;rw [hFI] at hr1;have hcF:c.cs.length=F:=xo;have hm8:=nX (sO h0).1;obtain ⟨S,D',M,hS,hS2,hS4,Eh,hcm,hMD,hDM,aed,hSM,hks,hvs,hws,hwl⟩:=sN hm8 xo;have hMF:M=F:=xo;obtain ⟨lo',rfl⟩:∃n:Nat,lo=n:=⟨lo.toNat,by omega⟩
       obtain ⟨hi',rfl⟩:∃n:Nat,hi=n:=⟨hi.toNat,by omega⟩
       have TW:=hid (fun W (hb:Below w.heap.size w W)=>Z4 l ma pY mc qK ms cs W (hm.below hb) (hc.below hb) hlm hlc);have e1:=vW h1 (ms:=ms) xo;have e2:=vW h1 (ms:=cs) xo;have PR:=hid (fun s (hs:s<F) W (hb:Below w.heap.size w W)=>(show Calls Tryz.prog 100 #[jB c a,.int .i64 ((s*S:Nat):Int),.int .i64 (((s+1)*S:Nat):Int)] W (sZ W (b_ c (s*S) ((s+1)*S)) (.int .i64 0)) by
        have:=sW c a hl hl2 ((s*S:Nat):Int) (((s+1)*S:Nat):Int) W (hin.below hb);obtain ⟨p1,p2⟩:=Jr hm8 hS hks (k:=s) xo;rw [p1,p2] at this;exact this))
       have PL:Hid (∀s,(b_ c (s*S) ((s+1)*S)).length<=64):=hid fun s=>by
        have:=Gu (c:=c) (a:=s*S) (b:=(s+1)*S);have e:(s+1)*S=s*S+S:=by rw [Nat.add_mul,Nat.one_mul]
        omega
       have hlf:oN c=fun s=>d_ (b_ c (s*S) ((s+1)*S)):=by funext s;rw [xm,hS2]
       rw [Mc,L_,Md,if_pos hE,if_pos hE,if_pos hE,hE];unfold Us;rw [XP,hLn,hF,Int.toNat_natCast,Int.toNat_natCast,hlf];rw [abN,abO] at CK TW ⊢;rw [hL] at CK LF TW ⊢;have hTW:Hid (∀W,Below w.heap.size w W->Calls Tryz.prog 69 #[um L ma N mc pY N qK] W (Iz W L ((lay L 1).map (fU L ms)) ((lay L 1).map (fU L cs)))):=hid fun W hb=>by
        have:=TW.out W hb;rw [e1,e2] at this;rw [<-e1,<-e2] at this ⊢;exact this
       have hSF:S*F<=65536:=by rw [<-hMF];exact hSM
       clear e1 e2 TW hin hm hc;obtain ⟨ai,ws,ks,vs,cs',laid⟩:=c;obtain ⟨wa,ka,va,ca,wc,kc,vc,cc⟩:=a;dsimp only [jB] at *;subst hS;rw [hcF] at BI PR ⊢;exact Ll S D L N F lo' hi' ma pY wa ka va ca mc qK wc kc vc cc ws.length ks.length vs.length laid _ _ _ (fU L ms) (fU L cs) (fun s=>b_ ⟨S,ws,ks,vs,cs',laid⟩ (s*S) ((s+1)*S)) w Eh xo xo hF xo hNF hFb hF0 hSF xo xo BI CK LF hTW PR PL
     . have hE:wV l ms cs c lo hi=2:=by rw [wV,if_pos h0,if_pos hmay,if_neg hr]
       rw [Mc,L_,Md,hE,if_neg au,if_neg au,if_neg au];rw [hFI] at hr;exact ZW _ _ _ _ _ _ _ _ _ _ _ _ _ _ _ _ _ _ _ _ _ lo hi _ _ _ F xo w BI CK LF
   . have hx:P9 l ms cs≠0:=by rw [show P9 l ms cs=8 from if_neg hmay];decide
     have hE:wV l ms cs c lo hi=8:=by rw [wV,if_pos h0,if_neg hmay]
     rw [Mc,L_,Md,hE,if_neg au,if_neg au,if_neg au];exact ZX _ _ _ _ _ _ _ _ _ _ _ _ _ _ _ _ _ _ _ _ _ lo hi _ _ _ _ hx w BI CK
 . have hE:wV l ms cs c lo hi=kJ c:=by rw [wV,if_neg h0]
   rw [Mc,L_,Md,hE,if_neg h0,if_neg h0,if_neg h0];exact ZY _ _ _ _ _ _ _ _ _ _ _ _ _ _ _ _ _ _ _ _ _ lo hi _ _ _ _ h0 w BI
end
section
open Go.RowKit
def oV (c d:aW) (S k:Nat):Bool:=(List.range' (k*S) S).all fun i=>(bG c.ws i==bG d.ws i)&&decide (c.ks.getD i 0=d.ks.getD i 0)&&decide (c.vs.getD i 0=d.vs.getD i 0)
theorem Lh {c d:aW} {S k:Nat}:oV c d S k=true↔∀i,k*S<=i->i<(k+1)*S->bG c.ws i=bG d.ws i/\c.ks.getD i 0=d.ks.getD i 0/\c.vs.getD i 0=d.vs.getD i 0:=by
 have e:(k+1)*S=k*S+S:=by rw [Nat.add_mul,Nat.one_mul]
 simp only [oV,List.all_eq_true,List.mem_range'_1,Bool.and_eq_true,beq_iff_eq,decide_eq_true_eq];constructor
 . intro h i h1 h2;have:=h i ⟨h1,by omega⟩;exact ⟨this.1.1,this.1.2,this.2⟩
 . intro h i hi;have:=h i hi.1 xo;exact ⟨⟨this.1,this.2.1⟩,this.2.2⟩
theorem Yn {c d:aW} {a b:Nat} (h:∀i,a<=i->i<b->bG c.ws i=bG d.ws i/\c.ks.getD i 0=d.ks.getD i 0/\c.vs.getD i 0=d.vs.getD i 0):b_ c a b=b_ d a b:=by
 have hp:eQ c.ws a b=eQ d.ws a b:=by
  unfold eQ;apply List.filter_congr;intro i hi;have:=List.mem_range'_1.1 hi;exact (h i this.1 xo).1
 unfold b_;rw [hp];apply List.map_congr_left;intro i hi;have:=CJ hi;rw [(h i this.1 this.2).2.1,(h i this.1 this.2).2.2]
def qE (c d:aW) (S M:Nat):Nat:=((List.range' 0 M).find? fun k=> !oV c d S k).getD M
def XM (c d:aW) (S:Nat):Nat->Nat
  | 0=>0
  | n+1=>if oV c d S n=true then XM c d S n else n+1
theorem xq {c d:aW} {S M k:Nat} (h:k<qE c d S M):oV c d S k=true:=by
 unfold qE at h;cases e:(List.range' 0 M).find? fun k=> !oV c d S k with
 | none=>
  rw [e] at h;rw [List.find?_eq_none] at e;have:=e k (List.mem_range'_1.2 ⟨Nat.zero_le _,by simpa using h⟩);simpa using this
 | some i=>
  rw [e] at h;rw [List.find?_eq_some_iff_getElem] at e;obtain ⟨-,j,hj,e2,e3⟩:=e;rw [List.getElem_range'] at e2;have:=e3 k (by simp at h;omega);rw [List.getElem_range',show 0+1*k=k by omega] at this;simpa using this
theorem JX (c d:aW) (S M:Nat):qE c d S M<=M:=by
 unfold qE;cases e:(List.range' 0 M).find? fun k=> !oV c d S k with
 | none=>exact Nat.le_refl _
 | some i=>
  have:=List.mem_range'_1.1 (List.mem_of_find?_eq_some e);simp;omega
theorem E8 {c d:aW} {S M:Nat} (h:qE c d S M<M):oV c d S (qE c d S M)=false:=by
 unfold qE at h ⊢;cases e:(List.range' 0 M).find? fun k=> !oV c d S k with
 | none=>rw [e] at h;exact absurd h (Nat.lt_irrefl _)
 | some i=>
  have:=List.find?_some e;simpa using this
theorem WE {c d:aW} {S M k:Nat} (h1:∀j,j<k->oV c d S j=true) (h2:k<=M) (h3:k<M->oV c d S k=false):qE c d S M=k:=by
 rcases Nat.lt_trichotomy (qE c d S M) k with h|h|h
 . have:=E8 (c:=c) (d:=d) (S:=S) (M:=M) xo;rw [h1 _ h] at this;cases this
 . exact h
 . have:=xq h;rw [h3 (Nat.lt_of_lt_of_le h (JX _ _ _ _))] at this;cases this
theorem aa5 (c d:aW) (S:Nat):∀M,XM c d S M<=M:=by
 intro M;induction M with
 | zero=>exact Nat.le_refl _
 | succ n ih=>rw [XM];split<;>omega
theorem I4 {c d:aW} {S:Nat}:∀ {M k:Nat},XM c d S M<=k->k<M->oV c d S k=true:=by
 intro M;induction M with
 | zero=>intro k _ h;omega
 | succ n ih=>
  intro k h1 h2;rw [XM] at h1;split at h1
  . by_cases e:k=n
    . subst e;assumption
    . exact ih h1 xo
  . omega
theorem aa6 {c d:aW} {S:Nat}:∀ {M t:Nat},t<=M->(∀k,t<=k->k<M->oV c d S k=true)->XM c d S M=XM c d S t:=by
 intro M;induction M with
 | zero=>intro t h _;rw [show t=0 by omega]
 | succ n ih=>
  intro t h hk;by_cases e:t=n+1
  . rw [e]
  . rw [XM,if_pos (hk n xo xo)];exact ih xo fun k h1 h2=>hk k h1 xo
def Ui (c d:aW) (S M:Nat):Nat:=if qE c d S M=M then 0 else qE c d S M
def QS (c d:aW) (S M:Nat):Nat:=if qE c d S M=M then 0 else XM c d S M
theorem adp (c d:aW) (S M:Nat):Ui c d S M<=QS c d S M/\QS c d S M<=M:=by
 unfold Ui QS;split
 . exact ⟨Nat.le_refl _,Nat.zero_le _⟩
 . rename_i h
   have h1:=JX c d S M;refine ⟨?_,aa5 _ _ _ _⟩;apply Nat.le_of_not_lt;intro hl;have:=I4 (c:=c) (d:=d) (S:=S) (Nat.le_of_lt hl) xo;rw [E8 xo] at this;cases this
theorem X5 {c d:aW} {S M k:Nat} (hk:k<M) (h:k<Ui c d S M\/QS c d S M<=k):oV c d S k=true:=by
 unfold Ui QS at h;split at h
 . rename_i e
   exact xq (M:=M) xo
 . rcases h with h|h
   . exact xq h
   . exact I4 h hk
def OW (c d:aW):Int:=if fV c=true then (if fV d=true then (if c.ai=d.ai/\c.ks.length=d.ks.length then 0 else 2) else 8) else 8
end
end Go.Proofs.YtbedhbpgnfffmaaGreatDoor

/- Merged: Find, Build18, BuildIx, RowEq, IdxSame, BuildIxs, Twin04, IdxFacts, SlNew, InvRel. -/
import Derived.Test.YtmnlagmmbfjbeaaDoorPmaNamesP13
import Derived.Test.YtmnlagmmbfjbeaaDoorPmaNamesP12
import Derived.Test.YtmnlagmmbfjbeaaDoorPmaNamesP3
import Derived.Test.YtmnlagmmbfjbeaaDoorPmaNamesP11
import Derived.Test.YtmnlagmmbfjbeaaDoorPmaNamesP6
import Derived.Test.YtmnlagmmbfjbeaaDoorPmaNamesP4
namespace Go.Proofs.YtmnlagmmbfjbeaaDoor
set_option maxRecDepth 100000
set_option maxHeartbeats 40000000
set_option linter.unusedVariables false
set_option linter.unusedSimpArgs false
section
open Go.RowKit Go.Shelf
theorem seek_n {c:SlC} (h:seekE c=0):c.ks.length≤65536∧c.ws.length≤65536∧wMayB c.ws c.ks.length=true:=by
 have hm:=seekE_may h;have hh:=slMay_head hm;obtain ⟨S,M,-,-,-,hnk,-,hw,-,hSM,-⟩:=slHead_facts hh;have hwm:wMayB c.ws c.ks.length=true:=by
  unfold slHead at hh;simp only [Bool.and_eq_true] at hh;exact hh.1.2
 refine ⟨by omega,?_,hwm⟩;simp only [wMayB,Bool.and_eq_true,decide_eq_true_eq] at hwm;omega
theorem from_ok (c:SlC) (a:SlA) (key:Int) (hs:seekE c=0) (w:World) (hin:SlIn w c a) (hT:TabAt w):
    Calls Tryd.prog 34 #[slV c a,.int .i64 key] w (AnsB w (.int .i64 (frS c.ws c.ks c.ks.length key))):=by
 obtain ⟨h1,h2,h3⟩:=seek_n hs;have hmo:=seek_mono hs;have SP:=hid (fun W (hW:Below w.heap.size w W) (b:Nat) (hb:W.cell? ⟨b,0,none⟩=some (.int .i64 key))=>split_ok c.seg c.laid key a.wa a.ka a.va a.ca a.wc a.kc a.vc a.cc c.ws.length c.vs.length c.cs.length c.ks.length c.ws c.ks h1 rfl b W (hin.below hW).k hb hmo
   (hid fun m W' hm hW'=>Next_ok a.wa a.wc c.ws hin.u c.ks.length m h1 xo h3 hm W' ((hin.below hW).below hW').w ((hT.below hW).below hW')))
 obtain ⟨seg,ws,ks,vs,cs,laid⟩:=c;obtain ⟨wa,ka,va,ca,wc,kc,vc,cc⟩:=a;dsimp only [slV] at *;generalize frS ws ks ks.length key=R at *;clear hin hs h1 h2 h3 hmo hT;go_enter Tryd.func34,Tryd.ntmps34
 go_wp2_with fail
 refine (SP.out _ ((br.alloc (Nat.le_refl _) _).alloc xsi _) (w.heap.size+1) xcw).mono ?_;rintro e w2 ⟨rfl,hb2⟩;have hB2:Below w.heap.size w w2:=below_via hb2 ((br.alloc (Nat.le_refl _) _).alloc xsi _) (by simp;omega);go_wp2
 go_ret
 exact ⟨rfl,hB2⟩
def nextV (c:SlC) (key:Int):Int×Int:=if seekE c=0 then (if frS c.ws c.ks c.ks.length key=c.ks.length then (0,6) else (frS c.ws c.ks c.ks.length key,0)) else (0,seekE c)
theorem seekNext_ok (c:SlC) (a:SlA) (key:Int) (hl:c.ws.length≤1000000000000) (hl2:c.ks.length≤1000000000000) (w:World) (hin:SlIn w c a) (hT:TabAt w):
    Calls Tryd.prog 30 #[slV c a,.int .i64 key] w (AnsB w (.tuple #[.int .i64 (nextV c key).1,.int .i64 (nextV c key).2])):=by
 have CK:=hid (fun W (hW:Below w.heap.size w W)=>seekCheck_ok c a hl hl2 W (hin.below hW));by_cases hs:seekE c=0
 · have FR:=hid (fun W (hW:Below w.heap.size w W)=>from_ok c a key hs W (hin.below hW) (hT.below hW));have hle:=(frS_is c.ws c.ks c.ks.length key).le;rw [hs] at CK;by_cases hr:frS c.ws c.ks c.ks.length key=c.ks.length
   · have e:nextV c key=(0,6):=by rw [nextV,if_pos hs,if_pos hr]
     rw [hr] at FR;rw [e];clear e hr hle;obtain ⟨seg,ws,ks,vs,cs,laid⟩:=c;obtain ⟨wa,ka,va,ca,wc,kc,vc,cc⟩:=a;dsimp only [slV] at *;have g1:((ks.length:Int)==ks.length)=true:=by simp
     clear hin hs hT hl hl2;go_enter Tryd.func30,Tryd.ntmps30
     go_wp2_with fail
     refine (CK.out _ xbel).mono ?_;rintro e w1 ⟨rfl,hb1⟩;have hz_w1:=hb1.size;try simp only [World.size_alloc,World.size_setCell] at hz_w1
     have hh:=bc6 hb1 (al6 (b:=w.heap.size) xsi);obtain ⟨c_t0,c_t1,c_t2,c_t3,c_t4,c_t5⟩:=hh;have z_t:=blt hb1 (alz (b:=w.heap.size) xsi);have hB1:Below w.heap.size w w1:=xbel;go_wp2_with fail
     refine (FR.out _ hB1).mono ?_;rintro e w2 ⟨rfl,hb2⟩;have hz_w2:=hb2.size;simp (disch:=omega) only [xcl hb2] at *;replace z_t:=blt hb2 z_t;have hB2:Below w.heap.size w w2:=xbel;go_wp2
     go_ret2
     exact ⟨rfl,hB2⟩
   · have e:nextV c key=(((frS c.ws c.ks c.ks.length key:Nat):Int),0):=by rw [nextV,if_pos hs,if_neg hr]
     rw [e];clear e;generalize frS c.ws c.ks c.ks.length key=R at *;obtain ⟨seg,ws,ks,vs,cs,laid⟩:=c;obtain ⟨wa,ka,va,ca,wc,kc,vc,cc⟩:=a;dsimp only [slV] at *;have g1:((R:Int)==ks.length)=false:=by simp;omega
     clear hin hs hT hl hl2 hr hle;go_enter Tryd.func30,Tryd.ntmps30
     go_wp2_with fail
     refine (CK.out _ xbel).mono ?_;rintro e w1 ⟨rfl,hb1⟩;have hz_w1:=hb1.size;try simp only [World.size_alloc,World.size_setCell] at hz_w1
     have hh:=bc6 hb1 (al6 (b:=w.heap.size) xsi);obtain ⟨c_t0,c_t1,c_t2,c_t3,c_t4,c_t5⟩:=hh;have z_t:=blt hb1 (alz (b:=w.heap.size) xsi);have hB1:Below w.heap.size w w1:=xbel;go_wp2_with fail
     refine (FR.out _ hB1).mono ?_;rintro e w2 ⟨rfl,hb2⟩;have hz_w2:=hb2.size;simp (disch:=omega) only [xcl hb2] at *;replace z_t:=blt hb2 z_t;have hB2:Below w.heap.size w w2:=xbel;go_wp2
     go_ret2
     exact ⟨rfl,hB2⟩
 · have e:nextV c key=(0,seekE c):=by rw [nextV,if_neg hs]
   rw [e];have g1:(seekE c != 0)=true:=by simpa using hs
   generalize seekE c=E at *;obtain ⟨seg,ws,ks,vs,cs,laid⟩:=c;obtain ⟨wa,ka,va,ca,wc,kc,vc,cc⟩:=a;dsimp only [slV] at *;clear hin hs hT hl hl2 e;go_enter Tryd.func30,Tryd.ntmps30
   go_wp2_with fail
   refine (CK.out _ xbel).mono ?_;rintro e w1 ⟨rfl,hb1⟩;have hz_w1:=hb1.size;try simp only [World.size_alloc,World.size_setCell] at hz_w1
   have hh:=bc6 hb1 (al6 (b:=w.heap.size) xsi);obtain ⟨c_t0,c_t1,c_t2,c_t3,c_t4,c_t5⟩:=hh;have z_t:=blt hb1 (alz (b:=w.heap.size) xsi);have hB1:Below w.heap.size w w1:=xbel;go_wp2
   go_ret2
   exact ⟨rfl,hB1⟩
def findV (c:SlC) (key:Int):Int×Int:=if (nextV c key).2=0 then (if c.ks.getD (nextV c key).1.toNat 0=key then ((nextV c key).1,0) else (0,6)) else (0,(nextV c key).2)
theorem nextV_in {c:SlC} {key:Int} (h:(nextV c key).2=0):∃r:Nat,(nextV c key).1=r∧r<c.ks.length∧r=frS c.ws c.ks c.ks.length key∧seekE c=0:=by
 unfold nextV at h ⊢;by_cases hs:seekE c=0
 · rw [if_pos hs] at h ⊢;split at h
   · cases h
   · rename_i hr
     rw [if_neg hr];have:=(frS_is c.ws c.ks c.ks.length key).le;exact ⟨_,rfl,by omega,rfl,hs⟩
 · rw [if_neg hs] at h;exact absurd h hs
theorem seekFind_ok (c:SlC) (a:SlA) (key:Int) (hl:c.ws.length≤1000000000000) (hl2:c.ks.length≤1000000000000) (w:World) (hin:SlIn w c a) (hT:TabAt w):
    Calls Tryd.prog 20 #[slV c a,.int .i64 key] w (AnsB w (.tuple #[.int .i64 (findV c key).1,.int .i64 (findV c key).2])):=by
 have NX:=hid (fun W (hW:Below w.heap.size w W)=>seekNext_ok c a key hl hl2 W (hin.below hW) (hT.below hW));by_cases h0:(nextV c key).2=0
 · obtain ⟨r,e1,hr,-,-⟩:=nextV_in h0;rw [e1,h0] at NX;obtain ⟨b,off,x,hka,hx,hc,hlt⟩:=hin.k.get (i:=r) hr;by_cases hk:x=key
   · have e:findV c key=((r:Int),0):=by rw [findV,if_pos h0,e1,Int.toNat_natCast,if_pos (hx.out.trans hk)]
     rw [e];obtain ⟨seg,ws,ks,vs,cs,laid⟩:=c;obtain ⟨wa,ka,va,ca,wc,kc,vc,cc⟩:=a;dsimp only [slV] at *;subst hka;have g1:(x != key)=false:=by simpa using hk
     clear hin hT hl hl2 e e1 h0 hx hk;go_enter Tryd.func20,Tryd.ntmps20
     go_wp2_with fail
     refine (NX.out _ xbel).mono ?_;rintro e w1 ⟨rfl,hb1⟩;have hz_w1:=hb1.size;try simp only [World.size_alloc,World.size_setCell] at hz_w1
     have hh:=bc6 hb1 (al6 (b:=w.heap.size) xsi);obtain ⟨c_t0,c_t1,c_t2,c_t3,c_t4,c_t5⟩:=hh;have z_t:=blt hb1 (alz (b:=w.heap.size) xsi);have hB1:Below w.heap.size w w1:=xbel;replace hc:=(hB1.cell (World.block_lt_of_cell? _ _ hc)).trans hc;go_wp2
     go_ret2
     exact ⟨rfl,hB1⟩
   · have e:findV c key=(0,6):=by rw [findV,if_pos h0,e1,Int.toNat_natCast,if_neg (fun h=>hk (hx.out.symm.trans h))]
     rw [e];obtain ⟨seg,ws,ks,vs,cs,laid⟩:=c;obtain ⟨wa,ka,va,ca,wc,kc,vc,cc⟩:=a;dsimp only [slV] at *;subst hka;have g1:(x != key)=true:=by simpa using hk
     clear hin hT hl hl2 e e1 h0 hx hk;go_enter Tryd.func20,Tryd.ntmps20
     go_wp2_with fail
     refine (NX.out _ xbel).mono ?_;rintro e w1 ⟨rfl,hb1⟩;have hz_w1:=hb1.size;try simp only [World.size_alloc,World.size_setCell] at hz_w1
     have hh:=bc6 hb1 (al6 (b:=w.heap.size) xsi);obtain ⟨c_t0,c_t1,c_t2,c_t3,c_t4,c_t5⟩:=hh;have z_t:=blt hb1 (alz (b:=w.heap.size) xsi);have hB1:Below w.heap.size w w1:=xbel;replace hc:=(hB1.cell (World.block_lt_of_cell? _ _ hc)).trans hc;go_wp2
     go_ret2
     exact ⟨rfl,hB1⟩
 · have e:findV c key=(0,(nextV c key).2):=by rw [findV,if_neg h0]
   rw [e];have g1:((nextV c key).2 != 0)=true:=by simpa using h0
   generalize nextV c key=R at *;obtain ⟨seg,ws,ks,vs,cs,laid⟩:=c;obtain ⟨wa,ka,va,ca,wc,kc,vc,cc⟩:=a;dsimp only [slV] at *;clear hin hT hl hl2 e h0;go_enter Tryd.func20,Tryd.ntmps20
   go_wp2_with fail
   refine (NX.out _ xbel).mono ?_;rintro e w1 ⟨rfl,hb1⟩;have hz_w1:=hb1.size;try simp only [World.size_alloc,World.size_setCell] at hz_w1
   have hh:=bc6 hb1 (al6 (b:=w.heap.size) xsi);obtain ⟨c_t0,c_t1,c_t2,c_t3,c_t4,c_t5⟩:=hh;have z_t:=blt hb1 (alz (b:=w.heap.size) xsi);have hB1:Below w.heap.size w w1:=xbel;go_wp2
   go_ret2
   exact ⟨rfl,hB1⟩
end
section
open Go.RowKit Go.Shelf
attribute [local go_sem] Oper.semAt_some
end
section
open Go.RowKit Go.Shelf
attribute [local go_sem] Oper.semAt_some
structure FactR (R:World→World→Prop) where
 holds:Value→World→Prop
 stays:∀v w w',R w w'→holds v w→holds v w'
def FactR.any (R:World→World→Prop):FactR R:=⟨fun _ _=>True,fun _ _ _ _ _=>trivial⟩
def FactR.is {R:World→World→Prop} (x:Value):FactR R:=⟨fun v _=>v=x,fun _ _ _ _ h=>h⟩
def FactR.now {R:World→World→Prop} (S:World→Prop) (h:∀w w',R w w'→S w→S w'):FactR R:=⟨fun _ w=>S w,fun _ w w' hr h1=>h w w' hr h1⟩
def factRAt {R:World→World→Prop} (fs:List (FactR R)) (k:Nat) (v:Value) (w:World):Prop:=(fs.getD k (FactR.any R)).holds v w
theorem factRAt_stays {R:World→World→Prop} (fs:List (FactR R)) (k:Nat) (v:Value) (w w':World) (h:R w w'):factRAt fs k v w→factRAt fs k v w':=(fs.getD k (FactR.any R)).stays _ _ _ h
def JB (g:Nat) (X:World) (old new:World→Prop) (w':World):Prop:=(∀q,q≠g→w'.heap[q]? =X.heap[q]?)∧w'.heap.size=X.heap.size∧(w'.os=X.os∧w'.tape=X.tape∧w'.output=X.output)∧(old w'∨new w')
end
section
open Go.RowKit
end
section
open Go.RowKit
end
section
open Go.RowKit Go.Shelf
attribute [local go_sem] Oper.semAt_some
end
section
open Go.RowKit
theorem info4_uint64:(Tryd.prog.info? 27).map (fun i=>(i.zero,i.size,i.bytes))=some (some (.int .u64 0),1,8):=by kernel_rfl
theorem info4_int64:(Tryd.prog.info? 2).map (fun i=>(i.zero,i.size,i.bytes))=some (some (.int .i64 0),1,8):=by kernel_rfl
theorem info4_int:(Tryd.prog.info? 3).map (fun i=>(i.zero,i.size,i.bytes))=some (some (.int .i64 0),1,8):=by kernel_rfl
theorem row_news' {k:IntKind} {w:World} {a:Option Addr} {xs:List Int} (h:IsRow k w a xs) (ad:Addr) (ha:a=some ad):∀j u,(xs.map (Value.int k))[j]? =some u→w.cell? (ad.add j)=some u:=by
 subst ha;exact fun j u hj=>row_news h ad rfl j u hj
def FreshSlN (w:World) (c:SlC) (e:Ending) (w':World):Prop:=
  ∃v1 v2 v3 v4,e= .returned (.agg #[.int .i64 c.seg,v1,v2,v3,v4,.int .u64 c.laid])∧w'.ownsRow w.heap.size 27 1 v1 c.ws.length (c.ws.map (Value.int .u64))∧w'.ownsRow w.heap.size 2 1 v2 c.ks.length (c.ks.map (Value.int .i64))∧w'.ownsRow w.heap.size 2 1 v3 c.vs.length (c.vs.map (Value.int .i64))∧w'.ownsRow w.heap.size 3 1 v4 c.cs.length (c.cs.map (Value.int .i64))∧Below w.heap.size w w'∧∀p q,v2.ownBlock=some p→v3.ownBlock=some q→p≠q
theorem six_at {w:World} {b:Nat} {x y z p q r:Value} (h0:w.cell? ⟨b,0,none⟩=some x) (h1:w.cell? ⟨b,1,none⟩=some y) (h2:w.cell? ⟨b,2,none⟩=some z) (h3:w.cell? ⟨b,3,none⟩=some p) (h4:w.cell? ⟨b,4,none⟩=some q) (h5:w.cell? ⟨b,5,none⟩=some r):∀j v,[x,y,z,p,q,r][j]? =some v→w.cell? ⟨b,j,none⟩=some v:=by
 intro j v hj;match j with
 | 0=>simp at hj;rw [←hj];exact h0
 | 1=>simp at hj;rw [←hj];exact h1
 | 2=>simp at hj;rw [←hj];exact h2
 | 3=>simp at hj;rw [←hj];exact h3
 | 4=>simp at hj;rw [←hj];exact h4
 | 5=>simp at hj;rw [←hj];exact h5
 | n+6=>simp at hj
theorem set_keep {w:World} {a b:Addr} {v u:Value} (h:a≠b) (hc:w.cell? a=some u):(w.setCell b v).cell? a=some u:=(World.cell?_setCell_other _ _ _ _ (by intro e;exact h (by rw [e]))).trans hc
theorem six_set {w:World} {b:Nat} {x y z p q r x' y' z' p' q' r':Value} (h0:w.cell? ⟨b,0,none⟩=some x') (h1:w.cell? ⟨b,1,none⟩=some y') (h2:w.cell? ⟨b,2,none⟩=some z') (h3:w.cell? ⟨b,3,none⟩=some p') (h4:w.cell? ⟨b,4,none⟩=some q') (h5:w.cell? ⟨b,5,none⟩=some r'):
    ∀j v,[x,y,z,p,q,r][j]? =some v→((((((w.setCell ⟨b,0,none⟩ x).setCell ⟨b,1,none⟩ y).setCell ⟨b,2,none⟩ z).setCell ⟨b,3,none⟩ p).setCell ⟨b,4,none⟩ q).setCell ⟨b,5,none⟩ r).cell? ⟨b,j,none⟩=some v:=by
 refine six_at ?_ ?_ ?_ ?_ ?_ ?_
 · exact set_keep xsi (set_keep xsi (set_keep xsi (set_keep xsi (set_keep xsi (World.cell?_setCell_same _ _ _ h0)))))
 · exact set_keep xsi (set_keep xsi (set_keep xsi (set_keep xsi (World.cell?_setCell_same _ _ _ (set_keep xsi h1)))))
 · exact set_keep xsi (set_keep xsi (set_keep xsi (World.cell?_setCell_same _ _ _ (set_keep xsi (set_keep xsi h2)))))
 · exact set_keep xsi (set_keep xsi (World.cell?_setCell_same _ _ _ (set_keep xsi (set_keep xsi (set_keep xsi h3)))))
 · exact set_keep xsi (World.cell?_setCell_same _ _ _ (set_keep xsi (set_keep xsi (set_keep xsi (set_keep xsi h4)))))
 · exact World.cell?_setCell_same _ _ _ (set_keep xsi (set_keep xsi (set_keep xsi (set_keep xsi (set_keep xsi h5)))))
end
section
open Go.RowKit
abbrev RB:World→World→Prop:=fun w w'=>Below w.heap.size w w'
def FactR.sl (base:Nat) (c:SlC):FactR RB:=
  ⟨fun v w=>∃v1 v2 v3 v4,v= .agg #[.int .i64 c.seg,v1,v2,v3,v4,.int .u64 c.laid]∧w.ownsRow base 27 1 v1 c.ws.length (c.ws.map (Value.int .u64))∧w.ownsRow base 2 1 v2 c.ks.length (c.ks.map (Value.int .i64))∧w.ownsRow base 2 1 v3 c.vs.length (c.vs.map (Value.int .i64))∧w.ownsRow base 3 1 v4 c.cs.length (c.cs.map (Value.int .i64)),
    fun _ _ _ h ⟨v1,v2,v3,v4,e,h1,h2,h3,h4⟩=>⟨v1,v2,v3,v4,e,owns_below h1 h,owns_below h2 h,owns_below h3 h,owns_below h4 h⟩⟩
def FactR.box (base:Nat) (t:TypeId) (n:Nat):FactR RB:=
  ⟨fun v w=>∃b cs,v= .pointer (some ⟨b,0,none⟩)∧base≤b∧w.heap[b]? =some (.cells cs t (0,0))∧cs.size=n,fun _ _ _ h ⟨b,cs,e,hb,hh,hn⟩=>⟨b,cs,e,hb,(h.block b (Array.getElem?_eq_some_iff.1 hh).1).trans hh,hn⟩⟩
end
section
open Go.RowKit Go.Shelf
attribute [local go_sem] Oper.semAt_some
def FactR.own (base:Nat) (e:TypeId) (n:Nat) (xs:List Value):FactR RB:=
  ⟨fun v w=>∃g,v= .slice (some ⟨g,0,none⟩) n n∧w.ownsRow base e 1 (.slice (some ⟨g,0,none⟩) n n) n xs,fun _ _ _ h ⟨g,e1,k⟩=>⟨g,e1,owns_below k h⟩⟩
theorem made_zero (k:IntKind) (n:Nat):(madeCells (Value.int k 0).cells (n*1)).toList=(List.replicate n (0:Int)).map (Value.int k):=by
 rw [Nat.mul_one,List.map_replicate];exact toList_madeCells_one _ _
def zeroSl (seg many nw nc:Nat):SlC:=⟨seg,List.replicate nw 0,List.replicate many 0,List.replicate many 0,List.replicate nc 0,0⟩
def FreshSl2 (w:World) (c:SlC) (x:Value) (e:Ending) (w':World):Prop:=
  ∃v1 v2 v3 v4,e= .returned (.tuple #[.agg #[.int .i64 c.seg,v1,v2,v3,v4,.int .u64 c.laid],x])∧w'.ownsRow w.heap.size 27 1 v1 c.ws.length (c.ws.map (Value.int .u64))∧w'.ownsRow w.heap.size 2 1 v2 c.ks.length (c.ks.map (Value.int .i64))∧w'.ownsRow w.heap.size 2 1 v3 c.vs.length (c.vs.map (Value.int .i64))∧w'.ownsRow w.heap.size 3 1 v4 c.cs.length (c.cs.map (Value.int .i64))∧Below w.heap.size w w'
theorem slNew_core (w:World) (seg many nw nc:Nat) (hs:4≤seg) (hm:many≤65536) (hs2:seg≤64) (hnw:((many:Int)+63).tdiv 64=nw) (hnc:(many:Int).tdiv seg=nc) (hnw2:nw≤65536) (hnc2:nc≤65536)
    (FT:Hid (∀W,Calls Tryd.prog 78 #[.int .i64 seg,.int .i64 many] W fun e w'=>e= .returned (.bool true)∧W=w')):
    Calls Tryd.prog 54 #[.int .i64 seg,.int .i64 many] w (FreshSl2 w (zeroSl seg many nw nc) (.int .i64 0)):=by
 have hs0:((seg:Int)==0)=false:=by simp;omega
 have hsn:¬(seg:Int)=0:=xo;have hsn2:¬seg=0:=xo;have hw0:IntKind.i64.wrap ((many:Int)+63)=(many:Int)+63:=IntWalk.i64_in _ xo;have hw1:IntKind.i64.wrap (nw:Int)=(nw:Int):=IntWalk.i64_in _ xo;have hw2:IntKind.i64.wrap (nc:Int)=(nc:Int):=IntWalk.i64_in _ xo;go_enter Tryd.func54,Tryd.ntmps54
 go_wp2_with fail
 refine (FT.out _).mono ?_;rintro e w' ⟨rfl,rfl⟩;go_wp2
 generalize hwz:w.alloc _=wz;have hh:=ec6 hwz (al6 (b:=w.heap.size) xsi);obtain ⟨c_r0,c_r1,c_r2,c_r3,c_r4,c_r5⟩:=hh;have hh:=ef6 hwz (alf6 (b:=w.heap.size) xsi);obtain ⟨f_r0,f_r1,f_r2,f_r3,f_r4,f_r5⟩:=hh;have z_r:=elt hwz (alz (b:=w.heap.size) xsi);have HS:Hid (Below w.heap.size w wz):=by rw [←hwz];exact hid (br.alloc (Nat.le_refl _) _)
 have hz:w.heap.size+1=wz.heap.size:=by rw [←hwz];simp
 clear hwz;refine wp_region_late 14 xk (N:=25) rfl xk xk xdd (fun w'=>Below wz.heap.size wz w') RB (factRAt [.is (.int .i64 seg),.is (.int .i64 many),.is (.int .i64 ((many:Int)+63)),.is (.int .i64 nw),.own wz.heap.size 27 nw ((List.replicate nw (0:Int)).map (Value.int .u64)),.is (.int .i64 many),.own wz.heap.size 2 many ((List.replicate many (0:Int)).map (Value.int .i64)),.is (.int .i64 many),.own wz.heap.size 2 many ((List.replicate many (0:Int)).map (Value.int .i64)),.is (.int .i64 many),.is (.int .i64 seg),.is (.int .i64 nc),.own wz.heap.size 3 nc ((List.replicate nc (0:Int)).map (Value.int .i64)),.sl wz.heap.size (zeroSl seg many nw nc)]) (factRAt_stays _) br.drew ?steps ?fin
 case steps=>
  refine ⟨?o0,?o1,?o2,?o3,?o4,?o5,?o6,?o7,?o8,?o9,?o10,?o11,?o12,?o13,trivial⟩
  case o0=>
   intro u a w' ev hJ hd K hK;have e0:tg a 0= .int .i64 seg:=ev 0 xdd;have HK:=hid hK;clear hK ev hd;go_simp;exact HK.out _ _ xzc hJ rfl br
  case o1=>
   intro u a w' ev hJ hd K hK;have e1:tg a 1= .int .i64 many:=ev 1 xdd;have HK:=hid hK;clear hK ev hd;go_simp;exact HK.out _ _ xzc hJ rfl br
  case o2=>
   intro u a w' ev hJ hd K hK;have e12:tg a 12= .int .i64 many:=(ev 12 xdd).trans (hd 1 _ xk rfl);have HK:=hid hK;clear hK ev hd;go_simp;exact HK.out _ _ xzc hJ rfl br
  case o3=>
   intro u a w' ev hJ hd K hK;have e13:tg a 13= .int .i64 ((many:Int)+63):=(ev 13 xdd).trans (hd 2 _ xk rfl);have HK:=hid hK;clear hK ev hd;go_simp;exact HK.out _ _ xzc hJ rfl br
  case o4=>
   intro u a w' ev hJ hd K hK;have e14:tg a 14= .int .i64 nw:=(ev 14 xdd).trans (hd 3 _ xk rfl);exact wp_make (.tmp 14) (.tmp 14) 24 27 _ 1 8 Tryd.underlying24 info4_uint64 xdd wz.heap.size nw _ rfl xo hJ.size rfl e14 e14 (fun g w'' k1 k2 k3=>hK _ _ xzc (hJ.trans (k3.mono hJ.size)) ⟨g,rfl,by rw [made_zero] at k2;exact k2⟩ k3)
  case o5=>
   intro u a w' ev hJ hd K hK;have e1:tg a 1= .int .i64 many:=ev 1 xdd;have HK:=hid hK;clear hK ev hd;go_simp;exact HK.out _ _ xzc hJ rfl br
  case o6=>
   intro u a w' ev hJ hd K hK;have e16:tg a 16= .int .i64 many:=(ev 16 xdd).trans (hd 5 _ xk rfl);exact wp_make (.tmp 16) (.tmp 16) 25 2 _ 1 8 Tryd.underlying25 info4_int64 xdd wz.heap.size many _ rfl xo hJ.size rfl e16 e16 (fun g w'' k1 k2 k3=>hK _ _ xzc (hJ.trans (k3.mono hJ.size)) ⟨g,rfl,by rw [made_zero] at k2;exact k2⟩ k3)
  case o7=>
   intro u a w' ev hJ hd K hK;have e1:tg a 1= .int .i64 many:=ev 1 xdd;have HK:=hid hK;clear hK ev hd;go_simp;exact HK.out _ _ xzc hJ rfl br
  case o8=>
   intro u a w' ev hJ hd K hK;have e18:tg a 18= .int .i64 many:=(ev 18 xdd).trans (hd 7 _ xk rfl);exact wp_make (.tmp 18) (.tmp 18) 25 2 _ 1 8 Tryd.underlying25 info4_int64 xdd wz.heap.size many _ rfl xo hJ.size rfl e18 e18 (fun g w'' k1 k2 k3=>hK _ _ xzc (hJ.trans (k3.mono hJ.size)) ⟨g,rfl,by rw [made_zero] at k2;exact k2⟩ k3)
  case o9=>
   intro u a w' ev hJ hd K hK;have e1:tg a 1= .int .i64 many:=ev 1 xdd;have HK:=hid hK;clear hK ev hd;go_simp;exact HK.out _ _ xzc hJ rfl br
  case o10=>
   intro u a w' ev hJ hd K hK;have e0:tg a 0= .int .i64 seg:=ev 0 xdd;have HK:=hid hK;clear hK ev hd;go_simp;exact HK.out _ _ xzc hJ rfl br
  case o11=>
   intro u a w' ev hJ hd K hK;have e20:tg a 20= .int .i64 many:=(ev 20 xdd).trans (hd 9 _ xk rfl);have e21:tg a 21= .int .i64 seg:=(ev 21 xdd).trans (hd 10 _ xk rfl);have HK:=hid hK;clear hK ev hd;go_simp;exact HK.out _ _ xzc hJ rfl br
  case o12=>
   intro u a w' ev hJ hd K hK;have e22:tg a 22= .int .i64 nc:=(ev 22 xdd).trans (hd 11 _ xk rfl);exact wp_make (.tmp 22) (.tmp 22) 26 3 _ 1 8 Tryd.underlying26 info4_int xdd wz.heap.size nc _ rfl xo hJ.size rfl e22 e22 (fun g w'' k1 k2 k3=>hK _ _ xzc (hJ.trans (k3.mono hJ.size)) ⟨g,rfl,by rw [made_zero] at k2;exact k2⟩ k3)
  case o13=>
   intro u a w' ev hJ hd K hK;have h11:u 11= .int .i64 seg:=hd 0 _ xk rfl;obtain ⟨g15,h15,o15⟩:(FactR.own wz.heap.size 27 nw ((List.replicate nw (0:Int)).map (Value.int .u64))).holds (u 15) w':=hd 4 _ xk rfl;obtain ⟨g17,h17,o17⟩:(FactR.own wz.heap.size 2 many ((List.replicate many (0:Int)).map (Value.int .i64))).holds (u 17) w':=hd 6 _ xk rfl;obtain ⟨g19,h19,o19⟩:(FactR.own wz.heap.size 2 many ((List.replicate many (0:Int)).map (Value.int .i64))).holds (u 19) w':=hd 8 _ xk rfl;obtain ⟨g23,h23,o23⟩:(FactR.own wz.heap.size 3 nc ((List.replicate nc (0:Int)).map (Value.int .i64))).holds (u 23) w':=hd 12 _ xk rfl;have f11:a.tmps[11]?.getD undef= .int .i64 seg:=by rw [←Array.getD_eq_getD_getElem?];exact (ev 11 xdd).trans h11
   have f15:a.tmps[15]?.getD undef= .slice (some ⟨g15,0,none⟩) nw nw:=by rw [←Array.getD_eq_getD_getElem?];exact (ev 15 xdd).trans h15
   have f17:a.tmps[17]?.getD undef= .slice (some ⟨g17,0,none⟩) many many:=by rw [←Array.getD_eq_getD_getElem?];exact (ev 17 xdd).trans h17
   have f19:a.tmps[19]?.getD undef= .slice (some ⟨g19,0,none⟩) many many:=by rw [←Array.getD_eq_getD_getElem?];exact (ev 19 xdd).trans h19
   have f23:a.tmps[23]?.getD undef= .slice (some ⟨g23,0,none⟩) nc nc:=by rw [←Array.getD_eq_getD_getElem?];exact (ev 23 xdd).trans h23
   have HK:=hid hK;have O15:=hid o15;have O17:=hid o17;have O19:=hid o19;have O23:=hid o23;clear hK ev hd h11 h15 h17 h19 h23 o15 o17 o19 o23;go_simp;exact HK.out _ _ xzc hJ ⟨_,_,_,_,rfl,by simpa [zeroSl] using O15.out,by simpa [zeroSl] using O17.out,by simpa [zeroSl] using O19.out,by simpa [zeroSl] using O23.out⟩ br
 case fin=>
  intro u w2 hJ hG;obtain ⟨v1,v2,v3,v4,h24,p1,p2,p3,p4⟩:(FactR.sl wz.heap.size (zeroSl seg many nw nc)).holds (u 24) w2:=hG 13 _ rfl;obtain ⟨a1,c1,rfl,-⟩:=owns_news p1;obtain ⟨a2,c2,rfl,-⟩:=owns_news p2;obtain ⟨a3,c3,rfl,-⟩:=owns_news p3;obtain ⟨a4,c4,rfl,-⟩:=owns_news p4;have HP1:=hid p1;have HP2:=hid p2;have HP3:=hid p3;have HP4:=hid p4;have hz_w2:=hJ.size;simp (disch:=omega) only [xcl hJ,xfr hJ] at *;replace z_r:=blt hJ z_r;have hB2:Below w.heap.size w w2:=below_via hJ HS.out xo;clear hG p1 p2 p3 p4 hJ;simp only [mixFrame,mixL,dstsOf,List.take_succ_cons,List.take_zero,List.filterMap_cons,List.filterMap_nil,List.contains_cons,List.contains_nil,Nat.reduceBEq,Bool.or_false,Bool.false_or,Bool.or_true,Bool.true_or,if_true,if_false,Bool.false_eq_true,Nat.reduceAdd,Nat.zero_add,List.drop_succ_cons,List.drop_zero,h24];go_wp2
  have HQ:Hid (∀q,w.heap.size+1≤q→((((((w2.setCell ⟨w.heap.size,0,none⟩ (.int .i64 (zeroSl seg many nw nc).seg)).setCell ⟨w.heap.size,1,none⟩ (.slice a1 (zeroSl seg many nw nc).ws.length c1)).setCell ⟨w.heap.size,2,none⟩ (.slice a2 (zeroSl seg many nw nc).ks.length c2)).setCell ⟨w.heap.size,3,none⟩ (.slice a3 (zeroSl seg many nw nc).vs.length c3)).setCell ⟨w.heap.size,4,none⟩ (.slice a4 (zeroSl seg many nw nc).cs.length c4)).setCell ⟨w.heap.size,5,none⟩ (.int .u64 (zeroSl seg many nw nc).laid)).heap[q]? =w2.heap[q]?):=hid fun q hq=>by
   rw [heap_setCell_ne _ _ _ xdo,heap_setCell_ne _ _ _ xdo,heap_setCell_ne _ _ _ xdo,heap_setCell_ne _ _ _ xdo,heap_setCell_ne _ _ _ xdo,heap_setCell_ne _ _ _ xdo]
  refine bodyPost_ret (results_ct rfl rfl (run_loadVar_many _ Tryd.underlying29 rfl xk (six_set c_r0 c_r1 c_r2 c_r3 c_r4 c_r5))) rfl ⟨_,_,_,_,rfl,?_,?_,?_,?_,?_⟩
  · exact owns_base (owns_heap HP1.out fun j hj=>HQ.out j (by have:=(HP1.out.lt j hj).1;omega)) xo
  · exact owns_base (owns_heap HP2.out fun j hj=>HQ.out j (by have:=(HP2.out.lt j hj).1;omega)) xo
  · exact owns_base (owns_heap HP3.out fun j hj=>HQ.out j (by have:=(HP3.out.lt j hj).1;omega)) xo
  · exact owns_base (owns_heap HP4.out fun j hj=>HQ.out j (by have:=(HP4.out.lt j hj).1;omega)) xo
  · exact (((((hB2.setCell xdo _).setCell xdo _).setCell xdo _).setCell xdo _).setCell xdo _).setCell xdo _
end
section
open Go.RowKit
section
variable {P:Program} {ops:Array Oper} {Q:Exit→Act→World→Prop}
def updR (u:Nat→Value) (o:Oper) (v:Value):Nat→Value:=match o.dst with|some d=>fun t=>if t=d then v else u t|none=>u
def OpOkR (P:Program) (ops:Array Oper) (Q:Exit→Act→World→Prop) (D:List Nat) (t0:Array Value) (n:Nat) (ds:List Deferred) (J:World→Prop) (Ext:World→World→Prop) (G:Nat→(Nat→Value)→World→Prop) (k:Nat) (o:Oper):Prop:=
  ∀ (u:Nat→Value) (a:Act) (w:World),(∀t,t<n→a.tmps.getD t undef=mixAt D u t0 t)→J w→
    (∀(j:Nat) (p:Oper),(o.after.any fun e=>Region.binds .any e&&e.on==j)=true→ops[j]? =some p→G j u w)→
    ∀K:Act→World→Prop,(∀v w',(o.dst=none→v=undef)→J w'→G k (updR u o v) w'→Ext w w'→K (a.put o.dst v) w')→Oper.wp P o a w K Q
def OpsOkR (P:Program) (ops:Array Oper) (Q:Exit→Act→World→Prop) (D:List Nat) (t0:Array Value) (n:Nat) (ds:List Deferred) (J:World→Prop) (Ext:World→World→Prop) (G:Nat→(Nat→Value)→World→Prop):Nat→List Oper→Prop
  | _,[]=>True
  | k,o::rest=>OpOkR P ops Q D t0 n ds J Ext G k o∧OpsOkR P ops Q D t0 n ds J Ext G (k+1) rest
theorem OpsOkR.at {D:List Nat} {t0:Array Value} {n:Nat} {ds:List Deferred} {J:World→Prop} {Ext:World→World→Prop} {G:Nat→(Nat→Value)→World→Prop}:∀ {l:List Oper} {k:Nat},OpsOkR P ops Q D t0 n ds J Ext G k l→∀ {i:Nat} {o:Oper},l[i]? =some o→OpOkR P ops Q D t0 n ds J Ext G (k+i) o
  | [],_,_,i,o,ho=>by simp at ho
  | x::rest,k,h,0,o,ho=>by simp at ho;subst ho;exact h.1
  | x::rest,k,h,i+1,o,ho=>by
   have:=OpsOkR.at h.2 (i:=i) (o:=o) (by simpa using ho);rwa [Nat.add_assoc,Nat.add_comm 1 i] at this
theorem wp_region_rel {id:Nat} {l:List Oper} {t0:Array Value} {ds:List Deferred} {w0:World} {N:Nat} (n:Nat) (hm:P.follows .mixedOrders=true) (hn:t0.size=N) (hB:regionL (l.take n) N=true) (hT:tailL l n=true) (hle:n≤l.length)
    (J:World→Prop) (Ext:World→World→Prop) (G:Nat→(Nat→Value)→World→Prop) (hst:∀k x w w',Ext w w'→G k x w→G k x w') (hdep:∀(k:Nat) (u u':Nat→Value) (w:World),(∀(j:Nat) (p o:Oper),l[j]? =some p→l[k]? =some o→(j=k∨(o.after.any fun e=>Region.binds .any e&&e.on==j)=true)→valOf u' p=valOf u p)→G k u w→G k u' w) (hJ:J w0.drew)
    (hop:OpsOkR P l.toArray Q (dstsOf (l.take n)) t0 N ds J Ext G 0 (l.take n))
    (hdone:∀(u:Nat→Value) (w:World),J w→(∀(k:Nat) (o:Oper),(l.take n)[k]? =some o→G k u w)→wpList P l.toArray Q (l.drop n) {tmps:=mixFrame (dstsOf (l.take n)) u t0,defers:=ds} w):
    (Code.region id l.toArray true).wp P Q {tmps:=t0,defers:=ds} w0:=by
 subst hn;simp only [regionL,Bool.and_eq_true,List.all_eq_true,decide_eq_true_eq] at hB;obtain ⟨⟨⟨hnd,hlt⟩,hgd⟩,hac⟩:=hB;simp only [tailL,List.all_eq_true,List.mem_range,Bool.or_eq_true,decide_eq_true_eq] at hT;have htk:∀ {k:Nat} {o:Oper},(l.take n)[k]? =some o↔k<n∧l[k]? =some o:=by
  intro k o;rw [List.getElem?_take];by_cases h:k<n
  · rw [if_pos h];exact ⟨fun h1=>⟨h,h1⟩,fun h1=>h1.2⟩
  · rw [if_neg h];exact ⟨fun h1=>(by cases h1),fun h1=>absurd h1.1 h⟩
 refine wp_region_any hm (wpAny_invL (ops:=l.toArray)
   (fun L a w=>((∀i,n≤i→L.getD i false=false)∧∃u:Nat→Value,a= {tmps:=mixFrame (dstsOf (l.take n)) u t0,defers:=ds}∧J w∧∀(k:Nat) (o:Oper),(l.take n)[k]? =some o→L.getD k false=true→G k u w) ∨
     (∃m,n≤m∧m≤l.length∧(∀i,i<m→L.getD i false=true)∧(∀i,m≤i→L.getD i false=false)∧wpList P l.toArray Q (l.drop m) a w))
   ?_ ?_ ?_ _ _ _ _ xsi (leftOf_le _ _) (fun j p hp hj=>by simp [Array.getD] at hj) (.inl ⟨fun i _=>by rw [List.size_toArray];simp [Array.getD],fun t=>t0.getD t undef,by rw [mixFrame_start],hJ,fun k o _ h=> ?_⟩))
 · intro i o ho e he hb;have hi:i<l.length:=(Array.getElem?_eq_some_iff.1 ho).1;rw [List.getElem?_toArray] at ho;by_cases hin:i<n
   · have h1:(l.take n)[i]? =some o:=htk.2 ⟨hin,ho⟩;have:=hac i (List.mem_range.2 (List.getElem?_eq_some_iff.1 h1).1);rw [h1] at this;have h2:=Array.all_eq_true_iff_forall_mem.1 this e he;rw [hb] at h2;simpa using h2
   · have h1:=hT i hi;rcases h1 with h1|h1
     · omega
     · rw [ho] at h1;simp only [Bool.and_eq_true] at h1;have h2:=Array.all_eq_true_iff_forall_mem.1 h1.2 e he;rw [hb] at h2;simpa using h2
 · rintro L a w i o hs ho hi hall hcl hI;rw [List.getElem?_toArray] at ho;have hil:i<l.length:=(List.getElem?_eq_some_iff.1 ho).1;have hilt:i<L.size:=by rw [hs];simpa using hil
   have ahead:n≤i→∀j,j<i→L.getD j false=true:=by
    intro hin j hj;have h1:=hT i hil;rcases h1 with h1|h1
    · omega
    · simp only [Bool.and_eq_true,decide_eq_true_eq] at h1;have hbit:((masksOf l []).getD i 0).testBit j=true:=by
       have h2:=congrArg (fun m=>Nat.testBit m j) h1.1;simp only [Nat.testBit_mod_two_pow,Nat.testBit_two_pow_sub_one,decide_eq_true hj,Bool.true_and] at h2;exact h2
      exact masks_sound hcl l [] 0 rfl (fun j=>by rw [Nat.zero_add]) (fun i hi=>by omega) i o ho hall j hbit
   have later:∀(m:Nat),n≤m→m=i→(∀j,m≤j→L.getD j false=false)→(∀j,j<m→L.getD j false=true)→wpList P l.toArray Q (l.drop m) a w→
       wpOp P l.toArray Q i (fun a' w'=>((∀k,n≤k→(L.setIfInBounds i true).getD k false=false)∧∃u:Nat→Value,a'= {tmps:=mixFrame (dstsOf (l.take n)) u t0,defers:=ds}∧J w'∧∀(k:Nat) (o:Oper),(l.take n)[k]? =some o→(L.setIfInBounds i true).getD k false=true→G k u w') ∨
         (∃m,n≤m∧m≤l.length∧(∀k,k<m→(L.setIfInBounds i true).getD k false=true)∧(∀k,m≤k→(L.setIfInBounds i true).getD k false=false)∧wpList P l.toArray Q (l.drop m) a' w')) a w:=by
    rintro m hnm rfl hno hyes hw;refine wpOp_mono (fun a' w' h=> .inr ⟨m+1,by omega,by omega,fun k hk=> ?_,fun k hk=> ?_,h⟩) (wpOp_of_list ho hw)
    · by_cases e:k=m
      · subst e;exact set_same hilt
      · rw [set_else e];exact hyes k xo
    · rw [set_else xo];exact hno k xo
   rcases hI with ⟨hno,u,rfl,hJw,hG⟩ | ⟨m,hnm,hml,hyes,hno,hw⟩
   · by_cases hin:i<n
     · have htki:(l.take n)[i]? =some o:=htk.2 ⟨hin,ho⟩;have hok:=hop.at htki;rw [Nat.zero_add] at hok;have hg:o.guard=none:=by
        have:=hgd o (List.mem_of_getElem? htki);cases hx:o.guard with
        | none=>rfl
        | some x=>rw [hx] at this;cases this
       unfold wpOp;simp only [List.getElem?_toArray,ho];rw [if_pos (by simp [Region.wanted,hg])];left;refine hok u _ w (fun t ht=>mixFrame_get ht) hJw (fun j p hj hp=> ?_) _ (fun v w' hv hJ' hG' hE=> .inl ⟨fun k hk=>by rw [set_else xo];exact hno k hk,?_⟩)
       · rw [List.getElem?_toArray] at hp;obtain ⟨e,he,hbe⟩:=Array.any_eq_true.1 hj;simp only [Bool.and_eq_true,beq_iff_eq] at hbe;have hl:=hall _ (Array.getElem_mem he) hbe.1;rw [hbe.2] at hl;have hjn:j<n:=by
          by_cases h:j<n
          · exact h
          · rw [hno j xo] at hl;cases hl
         exact hG j p (htk.2 ⟨hjn,hp⟩) hl
       · cases hd:o.dst with
         | none=>
          refine ⟨u,rfl,hJ',fun k p hp hk=> ?_⟩;by_cases e:k=i
          · subst e;have:=hG';unfold updR at this;rw [hd] at this;exact this
          · rw [set_else e] at hk;exact hst _ _ _ _ hE (hG k p hp hk)
         | some d=>
          have hdm:(dstsOf (l.take n)).contains d=true:=by
           simp only [List.contains_iff_mem];exact List.mem_filterMap.2 ⟨o,List.mem_of_getElem? htki,hd⟩
          refine ⟨fun t=>if t=d then v else u t,by simp only [Act.put,mixFrame_put hdm],hJ',fun k p hp hk=> ?_⟩;by_cases e:k=i
          · subst e;have:=hG';unfold updR at this;rw [hd] at this;exact this
          · rw [set_else e] at hk;refine hst _ _ _ _ hE (hdep k u _ w (fun j p' o' hj ho' hor=> ?_) (hG k p hp hk));have hjl:L.getD j false=true:=by
             rcases hor with rfl|hor
             · exact hk
             · obtain ⟨e',he',hbe⟩:=Array.any_eq_true.1 hor;simp only [Bool.and_eq_true,beq_iff_eq] at hbe;have:=hcl k o' (by rw [List.getElem?_toArray];exact ho') hk _ (Array.getElem_mem he') hbe.1;rw [hbe.2] at this;exact this
            have hji:j≠i:=fun h=>by rw [h,hi] at hjl;cases hjl
            have hjn:j<n:=by
             by_cases h:j<n
             · exact h
             · rw [hno j xo] at hjl;cases hjl
            have hne:=nodup_slot hnd htki (htk.2 ⟨hjn,hj⟩) (fun h=>hji h.symm) hd;unfold valOf;cases hpd:p'.dst with
            | none=>rfl
            | some d'=>exact if_neg (fun h=>hne (by rw [hpd,h]))
     · have hin':n=i:=by
         by_cases e:n=i
         · exact e
         · have:=ahead xo n xo;rw [hno n (Nat.le_refl _)] at this;cases this
       refine later n (Nat.le_refl _) hin' hno (fun j hj=>ahead xo j xo) (hdone u w hJw fun k p hp=>hG k p hp (ahead xo k ?_));have:=(htk.1 hp).1;omega
   · have him:m≤i:=by
       by_cases h:m≤i
       · exact h
       · have:=hyes i xo;rw [hi] at this;cases this
     have hmi:m=i:=by
      by_cases e:m=i
      · exact e
      · have:=ahead xo m xo;rw [hno m (Nat.le_refl _)] at this;cases this
     exact later m hnm hmi hno hyes hw
 · rintro L a w hs hall hI;rw [List.size_toArray] at hall;rcases hI with ⟨hno,u,rfl,hJw,hG⟩ | ⟨m,hnm,hml,hyes,hno,hw⟩
   · have hnl:n=l.length:=by
       by_cases e:n=l.length
       · exact e
       · have:=hall n xo;rw [hno n (Nat.le_refl _)] at this;cases this
     have hq:=hdone u w hJw fun k p hp=>hG k p hp (hall k (by have:=(htk.1 hp).1;omega))
     have hd:l.drop n=[]:=by rw [hnl];exact List.drop_length
     rw [hd] at hq;exact hq
   · have hml':m=l.length:=by
       by_cases e:m=l.length
       · exact e
       · have:=hall m xo;rw [hno m (Nat.le_refl _)] at this;cases this
     rw [hml',List.drop_length] at hw;exact hw
 · rw [List.size_toArray] at h;simp [Array.getD] at h
end
end
end Go.Proofs.YtmnlagmmbfjbeaaDoor

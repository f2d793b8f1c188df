/- Merged: SlFns, Twin04, IdxFacts, SlNew, InvRel, SlTwin, SlTake, SlTakeOk, SlLay, SlLayOk, SlFill. -/
import Derived.Test.YtbedhbpgnfffmaaGreatCobTellsP8
import Derived.Test.YtbedhbpgnfffmaaGreatCobTellsP2
import Derived.Test.YtbedhbpgnfffmaaGreatCobTellsP9
namespace Go.Proofs.YtbedhbpgnfffmaaGreat
set_option maxRecDepth 100000
set_option maxHeartbeats 40000000
set_option linter.unusedVariables false
set_option linter.unusedSimpArgs false
section
open Go.RowKit
theorem SameWords_ok (a b:Option Addr) (ca cb:Nat) (xs ys:List Int) (w:World) (ha:IsRow .u64 w a xs) (hb:IsRow .u64 w b ys) (hm:xs.length≤1000000000):
    Calls Tryz.prog 111 #[.slice a xs.length ca,.slice b ys.length cb] w fun e w'=>e= .returned (.bool (decide (xs=ys)))∧∃n,w'=w.drewN n:=by
 by_cases hlen:xs.length=ys.length
 · have hl1:((xs.length:Int) != (ys.length:Int))=false:=by simp [hlen]
   have HL:=hid hlen;clear hlen;have HA:=hid ha;have HB:=hid hb;clear ha hb;go_enter Tryz.func111,Tryz.ntmps111
   go_wp2
   go_loopg [5] xs.length (fun g i wr=>∃(k n:Nat),k+g=xs.length∧i= .int .i64 k∧wr=w.drewN n∧xs.take k=ys.take k)
   case atStart=>exact ⟨0,0,by omega,rfl,rfl,by simp⟩
   case round=>
    obtain ⟨k,n,hk,rfl,rfl,ht⟩:=hrel;have HT:=hid ht;clear ht;by_cases hlt:k<xs.length
    · have hlt2 : k<ys.length:=by rw [←HL.out];exact hlt
      obtain ⟨b1,o1,x,rfl,hx,h1,_⟩:=HA.out.get hlt;obtain ⟨b2,o2,y,rfl,hy,h2,_⟩:=HB.out.get hlt2;by_cases heq:x=y
      · have he:(x != y)=false:=by simpa using heq
        have HE:=hid heq;clear heq;go_wp2
        go_quiet (fail)
        go_wp2
        go_roundg (gk-1)
        case measure=>omega
        case rel=>exact ⟨k+1,n+nq,by omega,by go_num,by simp,row_take_succ HL.out hlt HT.out (hx.out.trans (HE.out.trans hy.out.symm))⟩
      · have he : (x != y)=true:=by simpa using heq
        have HE:=hid heq;clear heq;go_wp2
        go_quiet (fail)
        go_wp2
        go_ret
        exact ⟨by have:xs≠ys:=fun h=>HE.out (by rw [←hx.out,←hy.out,h])
                  simp [this],_,World.drewN_drewN _ _ _⟩
    · go_wp2
      go_ret
      have hk2:k=xs.length:=xo;have hxy:xs=ys:=by
       have:=HT.out;rw [hk2,List.take_length,HL.out,List.take_length] at this;exact this
      exact ⟨by simp [hxy],_,rfl⟩
 · have hl1:((xs.length:Int) != (ys.length:Int))=true:=by simp;omega
   have hxy:xs≠ys:=fun h=>hlen (by rw [h])
   have HX:=hid hxy;clear ha hb hlen hxy;go_enter Tryz.func111,Tryz.ntmps111
   go_wp2
   go_ret
   exact ⟨by simp [HX.out],0,rfl⟩
theorem ans_drewN {P:Program} {f:Nat} {args:Array Value} {w:World} {v:Value} (h:Calls P f args w fun e w'=>e= .returned v∧∃n,w'=w.drewN n):Calls P f args w (AnsB w v):=
  h.mono fun e w' ⟨h1,n,h2⟩=>⟨h1,by rw [h2];exact below_drewN br _⟩
def gr4 (n lk lv lw lc:Nat):Bool:=decide (n<lk)||decide (n<lv)||decide (n<lw)||decide (n<lc)
theorem Great04_ok (seg:Int) (wa ka va ca:Option Addr) (wc kc vc cc lw lk lv lc:Nat) (laid:Int) (n:Nat) (w:World):
    Calls Tryz.prog 48 #[.agg #[.int .i64 seg,.slice wa lw wc,.slice ka lk kc,.slice va lv vc,.slice ca lc cc,.int .u64 laid],.int .i64 n] w (AnsB w (.bool (gr4 n lk lv lw lc))):=by
 go_enter Tryz.func48,Tryz.ntmps48
 go_wp2
 all_goals go_ret
 all_goals exact ⟨by first|rfl|(simp [gr4, *];done)|(simp [gr4];omega),br.alloc (Nat.le_refl _) _⟩
theorem info4_uint64:(Tryz.prog.info? 27).map (fun i=>(i.zero,i.size,i.bytes))=some (some (.int .u64 0),1,8):=by kernel_rfl
theorem info4_int64:(Tryz.prog.info? 2).map (fun i=>(i.zero,i.size,i.bytes))=some (some (.int .i64 0),1,8):=by kernel_rfl
theorem info4_int:(Tryz.prog.info? 3).map (fun i=>(i.zero,i.size,i.bytes))=some (some (.int .i64 0),1,8):=by kernel_rfl
theorem made_at (W:World) (g:Nat) (e:TypeId) (h:W.heap.size=g):(W.alloc (.cells #[] e)).ownsRow g e 1 (.slice (some ⟨g,0,none⟩) 0 0) 0 []:=by
 subst h;exact World.ownsRow_made W #[] 0 (Nat.le_refl _) (Nat.zero_le _) rfl
theorem row_news' {k:IntKind} {w:World} {a:Option Addr} {xs:List Int} (h:IsRow k w a xs) (ad:Addr) (ha:a=some ad):∀j u,(xs.map (Value.int k))[j]? =some u→w.cell? (ad.add j)=some u:=by
 subst ha;exact fun j u hj=>row_news h ad rfl j u hj
def FreshSl (w:World) (c:SlC) (e:Ending) (w':World):Prop:=
  ∃v1 v2 v3 v4,e= .returned (.agg #[.int .i64 c.seg,v1,v2,v3,v4,.int .u64 c.laid])∧w'.ownsRow w.heap.size 27 1 v1 c.ws.length (c.ws.map (Value.int .u64))∧w'.ownsRow w.heap.size 2 1 v2 c.ks.length (c.ks.map (Value.int .i64))∧w'.ownsRow w.heap.size 2 1 v3 c.vs.length (c.vs.map (Value.int .i64))∧w'.ownsRow w.heap.size 3 1 v4 c.cs.length (c.cs.map (Value.int .i64))∧Below w.heap.size w w'
def FreshSlN (w:World) (c:SlC) (e:Ending) (w':World):Prop:=
  ∃v1 v2 v3 v4,e= .returned (.agg #[.int .i64 c.seg,v1,v2,v3,v4,.int .u64 c.laid])∧w'.ownsRow w.heap.size 27 1 v1 c.ws.length (c.ws.map (Value.int .u64))∧w'.ownsRow w.heap.size 2 1 v2 c.ks.length (c.ks.map (Value.int .i64))∧w'.ownsRow w.heap.size 2 1 v3 c.vs.length (c.vs.map (Value.int .i64))∧w'.ownsRow w.heap.size 3 1 v4 c.cs.length (c.cs.map (Value.int .i64))∧Below w.heap.size w w'∧∀p q,v2.ownBlock=some p→v3.ownBlock=some q→p≠q
theorem six_at {w:World} {b:Nat} {x y z p q r:Value} (h0:w.cell? ⟨b,0,none⟩=some x) (h1:w.cell? ⟨b,1,none⟩=some y) (h2:w.cell? ⟨b,2,none⟩=some z) (h3:w.cell? ⟨b,3,none⟩=some p) (h4:w.cell? ⟨b,4,none⟩=some q) (h5:w.cell? ⟨b,5,none⟩=some r):∀j v,[x,y,z,p,q,r][j]? =some v→w.cell? ⟨b,j,none⟩=some v:=by
 intro j v hj;match j with
 | 0=>simp at hj;rw [←hj];exact h0
 | 1=>simp at hj;rw [←hj];exact h1
 | 2=>simp at hj;rw [←hj];exact h2
 | 3=>simp at hj;rw [←hj];exact h3
 | 4=>simp at hj;rw [←hj];exact h4
 | 5=>simp at hj;rw [←hj];exact h5
 | n+6=>simp at hj
theorem set_keep {w:World} {a b:Addr} {v u:Value} (h:a≠b) (hc:w.cell? a=some u):(w.setCell b v).cell? a=some u:=(World.cell?_setCell_other _ _ _ _ (by intro e;exact h (by rw [e]))).trans hc
theorem six_set {w:World} {b:Nat} {x y z p q r x' y' z' p' q' r':Value} (h0:w.cell? ⟨b,0,none⟩=some x') (h1:w.cell? ⟨b,1,none⟩=some y') (h2:w.cell? ⟨b,2,none⟩=some z') (h3:w.cell? ⟨b,3,none⟩=some p') (h4:w.cell? ⟨b,4,none⟩=some q') (h5:w.cell? ⟨b,5,none⟩=some r'):
    ∀j v,[x,y,z,p,q,r][j]? =some v→((((((w.setCell ⟨b,0,none⟩ x).setCell ⟨b,1,none⟩ y).setCell ⟨b,2,none⟩ z).setCell ⟨b,3,none⟩ p).setCell ⟨b,4,none⟩ q).setCell ⟨b,5,none⟩ r).cell? ⟨b,j,none⟩=some v:=by
 refine six_at ?_ ?_ ?_ ?_ ?_ ?_
 · exact set_keep xsi (set_keep xsi (set_keep xsi (set_keep xsi (set_keep xsi (World.cell?_setCell_same _ _ _ h0)))))
 · exact set_keep xsi (set_keep xsi (set_keep xsi (set_keep xsi (World.cell?_setCell_same _ _ _ (set_keep xsi h1)))))
 · exact set_keep xsi (set_keep xsi (set_keep xsi (World.cell?_setCell_same _ _ _ (set_keep xsi (set_keep xsi h2)))))
 · exact set_keep xsi (set_keep xsi (World.cell?_setCell_same _ _ _ (set_keep xsi (set_keep xsi (set_keep xsi h3)))))
 · exact set_keep xsi (World.cell?_setCell_same _ _ _ (set_keep xsi (set_keep xsi (set_keep xsi (set_keep xsi h4)))))
 · exact World.cell?_setCell_same _ _ _ (set_keep xsi (set_keep xsi (set_keep xsi (set_keep xsi (set_keep xsi h5)))))
abbrev RB:World→World→Prop:=fun w w'=>Below w.heap.size w w'
def FactR.sl (base:Nat) (c:SlC):FactR RB:=
  ⟨fun v w=>∃v1 v2 v3 v4,v= .agg #[.int .i64 c.seg,v1,v2,v3,v4,.int .u64 c.laid]∧w.ownsRow base 27 1 v1 c.ws.length (c.ws.map (Value.int .u64))∧w.ownsRow base 2 1 v2 c.ks.length (c.ks.map (Value.int .i64))∧w.ownsRow base 2 1 v3 c.vs.length (c.vs.map (Value.int .i64))∧w.ownsRow base 3 1 v4 c.cs.length (c.cs.map (Value.int .i64)),
    fun _ _ _ h ⟨v1,v2,v3,v4,e,h1,h2,h3,h4⟩=>⟨v1,v2,v3,v4,e,owns_below h1 h,owns_below h2 h,owns_below h3 h,owns_below h4 h⟩⟩
def FactR.box (base:Nat) (t:TypeId) (n:Nat):FactR RB:=
  ⟨fun v w=>∃b cs,v= .pointer (some ⟨b,0,none⟩)∧base≤b∧w.heap[b]? =some (.cells cs t (0,0))∧cs.size=n,fun _ _ _ h ⟨b,cs,e,hb,hh,hn⟩=>⟨b,cs,e,hb,(h.block b (Array.getElem?_eq_some_iff.1 hh).1).trans hh,hn⟩⟩
theorem row_apart {w:World} {b:Nat} {cs:Array Value} {t e:TypeId} {B s n:Nat} {v:Value} {xs:List Value} (h:w.heap[b]? =some (.cells cs t (0,0))) (ho:w.ownsRow B e s v n xs) (hne:e≠t):∀k,v.ownBlock=some k→k≠b:=by
 intro k hk;obtain ⟨_,⟨rfl,_⟩ | ⟨g',c',cur',rfl,_,hh,_⟩⟩:=ho
 · cases hk
 · cases hk;exact fun e=>by subst e;rw [h] at hh;cases hh;exact hne rfl
theorem bld_len (c:SlC):(bldM c).length≤100000∧(bldC c).length≤100000:=by
 unfold bldM bldC;split
 · rename_i h
   obtain ⟨h1,h2⟩:=bldE_seek h;have hL:bLev c≤14:=by
    obtain ⟨S,D,M,hS,hS2,hS4,hS64,hcm,hMD,hDM,hD13,-⟩:=bld_facts (seekE_may h1) h2;rw [bLev,hcm,hMD];omega
   have hp:2^bLev c≤2^14:=Nat.pow_le_pow_right xo hL;have h1:1≤bLev c:=by rw [bLev];omega
   rw [bMax,bCnt,List.length_map,List.length_map,lay_len 1 h1];omega
 · simp
end
section
open Go.RowKit Go.Shelf
attribute [local go_sem] Oper.semAt_some
def FactR.own (base:Nat) (e:TypeId) (n:Nat) (xs:List Value):FactR RB:=
  ⟨fun v w=>∃g,v= .slice (some ⟨g,0,none⟩) n n∧w.ownsRow base e 1 (.slice (some ⟨g,0,none⟩) n n) n xs,fun _ _ _ h ⟨g,e1,k⟩=>⟨g,e1,owns_below k h⟩⟩
theorem made_zero (k:IntKind) (n:Nat):(madeCells (Value.int k 0).cells (n*1)).toList=(List.replicate n (0:Int)).map (Value.int k):=by
 rw [Nat.mul_one,List.map_replicate];exact toList_madeCells_one _ _
def zeroSl (seg many nw nc:Nat):SlC:=⟨seg,List.replicate nw 0,List.replicate many 0,List.replicate many 0,List.replicate nc 0,0⟩
def FreshSl2 (w:World) (c:SlC) (x:Value) (e:Ending) (w':World):Prop:=
  ∃v1 v2 v3 v4,e= .returned (.tuple #[.agg #[.int .i64 c.seg,v1,v2,v3,v4,.int .u64 c.laid],x])∧w'.ownsRow w.heap.size 27 1 v1 c.ws.length (c.ws.map (Value.int .u64))∧w'.ownsRow w.heap.size 2 1 v2 c.ks.length (c.ks.map (Value.int .i64))∧w'.ownsRow w.heap.size 2 1 v3 c.vs.length (c.vs.map (Value.int .i64))∧w'.ownsRow w.heap.size 3 1 v4 c.cs.length (c.cs.map (Value.int .i64))∧Below w.heap.size w w'
theorem slNew_core (w:World) (seg many nw nc:Nat) (hs:4≤seg) (hm:many≤65536) (hs2:seg≤64) (hnw:((many:Int)+63).tdiv 64=nw) (hnc:(many:Int).tdiv seg=nc) (hnw2:nw≤65536) (hnc2:nc≤65536)
    (FT:Hid (∀W,Calls Tryz.prog 116 #[.int .i64 seg,.int .i64 many] W fun e w'=>e= .returned (.bool true)∧W=w')):
    Calls Tryz.prog 80 #[.int .i64 seg,.int .i64 many] w (FreshSl2 w (zeroSl seg many nw nc) (.int .i64 0)):=by
 have hs0:((seg:Int)==0)=false:=by simp;omega
 have hsn:¬(seg:Int)=0:=xo;have hsn2:¬seg=0:=xo;have hw0:IntKind.i64.wrap ((many:Int)+63)=(many:Int)+63:=IntWalk.i64_in _ xo;have hw1:IntKind.i64.wrap (nw:Int)=(nw:Int):=IntWalk.i64_in _ xo;have hw2:IntKind.i64.wrap (nc:Int)=(nc:Int):=IntWalk.i64_in _ xo;go_enter Tryz.func80,Tryz.ntmps80
 go_wp2_with fail
 refine (FT.out _).mono ?_;rintro e w' ⟨rfl,rfl⟩;go_wp2
 generalize hwz:w.alloc _=wz;have hh:=ec6 hwz (al6 (b:=w.heap.size) xsi);obtain ⟨c_r0,c_r1,c_r2,c_r3,c_r4,c_r5⟩:=hh;have hh:=ef6 hwz (alf6 (b:=w.heap.size) xsi);obtain ⟨f_r0,f_r1,f_r2,f_r3,f_r4,f_r5⟩:=hh;have z_r:=elt hwz (alz (b:=w.heap.size) xsi);have HS:Hid (Below w.heap.size w wz):=by rw [←hwz];exact hid (br.alloc (Nat.le_refl _) _)
 have hz:w.heap.size+1=wz.heap.size:=by rw [←hwz];simp
 clear hwz;refine wp_region_late 14 xk (N:=25) rfl xk xk xdd (fun w'=>Below wz.heap.size wz w') RB (factRAt [.is (.int .i64 seg),.is (.int .i64 many),.is (.int .i64 ((many:Int)+63)),.is (.int .i64 nw),.own wz.heap.size 27 nw ((List.replicate nw (0:Int)).map (Value.int .u64)),.is (.int .i64 many),.own wz.heap.size 2 many ((List.replicate many (0:Int)).map (Value.int .i64)),.is (.int .i64 many),.own wz.heap.size 2 many ((List.replicate many (0:Int)).map (Value.int .i64)),.is (.int .i64 many),.is (.int .i64 seg),.is (.int .i64 nc),.own wz.heap.size 3 nc ((List.replicate nc (0:Int)).map (Value.int .i64)),.sl wz.heap.size (zeroSl seg many nw nc)]) (factRAt_stays _) br.drew ?steps ?fin
 case steps=>
  refine ⟨?o0,?o1,?o2,?o3,?o4,?o5,?o6,?o7,?o8,?o9,?o10,?o11,?o12,?o13,trivial⟩<;>intro u a w' ev hJ hd K hK
  case o0=>
   have e0:tg a 0= .int .i64 seg:=ev 0 xdd;have HK:=hid hK;clear hK ev hd;go_simp;exact HK.out _ _ xzc hJ rfl br
  case o1=>
   have e1:tg a 1= .int .i64 many:=ev 1 xdd;have HK:=hid hK;clear hK ev hd;go_simp;exact HK.out _ _ xzc hJ rfl br
  case o2=>
   have e12:tg a 12= .int .i64 many:=(ev 12 xdd).trans (hd 1 _ xk rfl);have HK:=hid hK;clear hK ev hd;go_simp;exact HK.out _ _ xzc hJ rfl br
  case o3=>
   have e13:tg a 13= .int .i64 ((many:Int)+63):=(ev 13 xdd).trans (hd 2 _ xk rfl);have HK:=hid hK;clear hK ev hd;go_simp;exact HK.out _ _ xzc hJ rfl br
  case o4=>
   have e14:tg a 14= .int .i64 nw:=(ev 14 xdd).trans (hd 3 _ xk rfl);exact wp_make (.tmp 14) (.tmp 14) 24 27 _ 1 8 Tryz.underlying24 info4_uint64 xdd wz.heap.size nw _ rfl xo hJ.size rfl e14 e14 (fun g w'' k1 k2 k3=>hK _ _ xzc (hJ.trans (k3.mono hJ.size)) ⟨g,rfl,by rw [made_zero] at k2;exact k2⟩ k3)
  case o5=>
   have e1:tg a 1= .int .i64 many:=ev 1 xdd;have HK:=hid hK;clear hK ev hd;go_simp;exact HK.out _ _ xzc hJ rfl br
  case o6=>
   have e16:tg a 16= .int .i64 many:=(ev 16 xdd).trans (hd 5 _ xk rfl);exact wp_make (.tmp 16) (.tmp 16) 25 2 _ 1 8 Tryz.underlying25 info4_int64 xdd wz.heap.size many _ rfl xo hJ.size rfl e16 e16 (fun g w'' k1 k2 k3=>hK _ _ xzc (hJ.trans (k3.mono hJ.size)) ⟨g,rfl,by rw [made_zero] at k2;exact k2⟩ k3)
  case o7=>
   have e1:tg a 1= .int .i64 many:=ev 1 xdd;have HK:=hid hK;clear hK ev hd;go_simp;exact HK.out _ _ xzc hJ rfl br
  case o8=>
   have e18:tg a 18= .int .i64 many:=(ev 18 xdd).trans (hd 7 _ xk rfl);exact wp_make (.tmp 18) (.tmp 18) 25 2 _ 1 8 Tryz.underlying25 info4_int64 xdd wz.heap.size many _ rfl xo hJ.size rfl e18 e18 (fun g w'' k1 k2 k3=>hK _ _ xzc (hJ.trans (k3.mono hJ.size)) ⟨g,rfl,by rw [made_zero] at k2;exact k2⟩ k3)
  case o9=>
   have e1:tg a 1= .int .i64 many:=ev 1 xdd;have HK:=hid hK;clear hK ev hd;go_simp;exact HK.out _ _ xzc hJ rfl br
  case o10=>
   have e0:tg a 0= .int .i64 seg:=ev 0 xdd;have HK:=hid hK;clear hK ev hd;go_simp;exact HK.out _ _ xzc hJ rfl br
  case o11=>
   have e20:tg a 20= .int .i64 many:=(ev 20 xdd).trans (hd 9 _ xk rfl);have e21:tg a 21= .int .i64 seg:=(ev 21 xdd).trans (hd 10 _ xk rfl);have HK:=hid hK;clear hK ev hd;go_simp;exact HK.out _ _ xzc hJ rfl br
  case o12=>
   have e22:tg a 22= .int .i64 nc:=(ev 22 xdd).trans (hd 11 _ xk rfl);exact wp_make (.tmp 22) (.tmp 22) 26 3 _ 1 8 Tryz.underlying26 info4_int xdd wz.heap.size nc _ rfl xo hJ.size rfl e22 e22 (fun g w'' k1 k2 k3=>hK _ _ xzc (hJ.trans (k3.mono hJ.size)) ⟨g,rfl,by rw [made_zero] at k2;exact k2⟩ k3)
  case o13=>
   have h11:u 11= .int .i64 seg:=hd 0 _ xk rfl;obtain ⟨g15,h15,o15⟩:(FactR.own wz.heap.size 27 nw ((List.replicate nw (0:Int)).map (Value.int .u64))).holds (u 15) w':=hd 4 _ xk rfl;obtain ⟨g17,h17,o17⟩:(FactR.own wz.heap.size 2 many ((List.replicate many (0:Int)).map (Value.int .i64))).holds (u 17) w':=hd 6 _ xk rfl;obtain ⟨g19,h19,o19⟩:(FactR.own wz.heap.size 2 many ((List.replicate many (0:Int)).map (Value.int .i64))).holds (u 19) w':=hd 8 _ xk rfl;obtain ⟨g23,h23,o23⟩:(FactR.own wz.heap.size 3 nc ((List.replicate nc (0:Int)).map (Value.int .i64))).holds (u 23) w':=hd 12 _ xk rfl;have f11:a.tmps[11]?.getD undef= .int .i64 seg:=by rw [←Array.getD_eq_getD_getElem?];exact (ev 11 xdd).trans h11
   have f15:a.tmps[15]?.getD undef= .slice (some ⟨g15,0,none⟩) nw nw:=by rw [←Array.getD_eq_getD_getElem?];exact (ev 15 xdd).trans h15
   have f17:a.tmps[17]?.getD undef= .slice (some ⟨g17,0,none⟩) many many:=by rw [←Array.getD_eq_getD_getElem?];exact (ev 17 xdd).trans h17
   have f19:a.tmps[19]?.getD undef= .slice (some ⟨g19,0,none⟩) many many:=by rw [←Array.getD_eq_getD_getElem?];exact (ev 19 xdd).trans h19
   have f23:a.tmps[23]?.getD undef= .slice (some ⟨g23,0,none⟩) nc nc:=by rw [←Array.getD_eq_getD_getElem?];exact (ev 23 xdd).trans h23
   have HK:=hid hK;have O15:=hid o15;have O17:=hid o17;have O19:=hid o19;have O23:=hid o23;clear hK ev hd h11 h15 h17 h19 h23 o15 o17 o19 o23;go_simp;exact HK.out _ _ xzc hJ ⟨_,_,_,_,rfl,by simpa [zeroSl] using O15.out,by simpa [zeroSl] using O17.out,by simpa [zeroSl] using O19.out,by simpa [zeroSl] using O23.out⟩ br
 case fin=>
  intro u w2 hJ hG;obtain ⟨v1,v2,v3,v4,h24,p1,p2,p3,p4⟩:(FactR.sl wz.heap.size (zeroSl seg many nw nc)).holds (u 24) w2:=hG 13 _ rfl;obtain ⟨a1,c1,rfl,-⟩:=owns_news p1;obtain ⟨a2,c2,rfl,-⟩:=owns_news p2;obtain ⟨a3,c3,rfl,-⟩:=owns_news p3;obtain ⟨a4,c4,rfl,-⟩:=owns_news p4;have HP1:=hid p1;have HP2:=hid p2;have HP3:=hid p3;have HP4:=hid p4;have hz_w2:=hJ.size;simp (disch:=omega) only [xcl hJ,xfr hJ] at *;replace z_r:=blt hJ z_r;have hB2:Below w.heap.size w w2:=below_via hJ HS.out xo;clear hG p1 p2 p3 p4 hJ;simp only [mixFrame,mixL,dstsOf,List.take_succ_cons,List.take_zero,List.filterMap_cons,List.filterMap_nil,List.contains_cons,List.contains_nil,Nat.reduceBEq,Bool.or_false,Bool.false_or,Bool.or_true,Bool.true_or,if_true,if_false,Bool.false_eq_true,Nat.reduceAdd,Nat.zero_add,List.drop_succ_cons,List.drop_zero,h24];go_wp2
  have HQ:Hid (∀q,w.heap.size+1≤q→((((((w2.setCell ⟨w.heap.size,0,none⟩ (.int .i64 (zeroSl seg many nw nc).seg)).setCell ⟨w.heap.size,1,none⟩ (.slice a1 (zeroSl seg many nw nc).ws.length c1)).setCell ⟨w.heap.size,2,none⟩ (.slice a2 (zeroSl seg many nw nc).ks.length c2)).setCell ⟨w.heap.size,3,none⟩ (.slice a3 (zeroSl seg many nw nc).vs.length c3)).setCell ⟨w.heap.size,4,none⟩ (.slice a4 (zeroSl seg many nw nc).cs.length c4)).setCell ⟨w.heap.size,5,none⟩ (.int .u64 (zeroSl seg many nw nc).laid)).heap[q]? =w2.heap[q]?):=hid fun q hq=>by
   rw [heap_setCell_ne _ _ _ xdo,heap_setCell_ne _ _ _ xdo,heap_setCell_ne _ _ _ xdo,heap_setCell_ne _ _ _ xdo,heap_setCell_ne _ _ _ xdo,heap_setCell_ne _ _ _ xdo]
  refine bodyPost_ret (results_ct rfl rfl (run_loadVar_many _ Tryz.underlying29 rfl xk (six_set c_r0 c_r1 c_r2 c_r3 c_r4 c_r5))) rfl ⟨_,_,_,_,rfl,?_,?_,?_,?_,?_⟩
  · exact owns_base (owns_heap HP1.out fun j hj=>HQ.out j (by have:=(HP1.out.lt j hj).1;omega)) xo
  · exact owns_base (owns_heap HP2.out fun j hj=>HQ.out j (by have:=(HP2.out.lt j hj).1;omega)) xo
  · exact owns_base (owns_heap HP3.out fun j hj=>HQ.out j (by have:=(HP3.out.lt j hj).1;omega)) xo
  · exact owns_base (owns_heap HP4.out fun j hj=>HQ.out j (by have:=(HP4.out.lt j hj).1;omega)) xo
  · exact (((((hB2.setCell xdo _).setCell xdo _).setCell xdo _).setCell xdo _).setCell xdo _).setCell xdo _
end
section
open Go.RowKit
section
variable {P:Program} {ops:Array Oper} {Q:Exit→Act→World→Prop}
def updR (u:Nat→Value) (o:Oper) (v:Value):Nat→Value:=match o.dst with|some d=>fun t=>if t=d then v else u t|none=>u
def OpOkR (P:Program) (ops:Array Oper) (Q:Exit→Act→World→Prop) (D:List Nat) (t0:Array Value) (n:Nat) (ds:List Deferred) (J:World→Prop) (Ext:World→World→Prop) (G:Nat→(Nat→Value)→World→Prop) (k:Nat) (o:Oper):Prop:=
  ∀ (u:Nat→Value) (a:Act) (w:World),(∀t,t<n→a.tmps.getD t undef=mixAt D u t0 t)→J w→
    (∀(j:Nat) (p:Oper),(o.after.any fun e=>Region.binds .any e&&e.on==j)=true→ops[j]? =some p→G j u w)→
    ∀K:Act→World→Prop,(∀v w',(o.dst=none→v=undef)→J w'→G k (updR u o v) w'→Ext w w'→K (a.put o.dst v) w')→Oper.wp P o a w K Q
def OpsOkR (P:Program) (ops:Array Oper) (Q:Exit→Act→World→Prop) (D:List Nat) (t0:Array Value) (n:Nat) (ds:List Deferred) (J:World→Prop) (Ext:World→World→Prop) (G:Nat→(Nat→Value)→World→Prop):Nat→List Oper→Prop
  | _,[]=>True
  | k,o::rest=>OpOkR P ops Q D t0 n ds J Ext G k o∧OpsOkR P ops Q D t0 n ds J Ext G (k+1) rest
theorem OpsOkR.at {D:List Nat} {t0:Array Value} {n:Nat} {ds:List Deferred} {J:World→Prop} {Ext:World→World→Prop} {G:Nat→(Nat→Value)→World→Prop}:∀ {l:List Oper} {k:Nat},OpsOkR P ops Q D t0 n ds J Ext G k l→∀ {i:Nat} {o:Oper},l[i]? =some o→OpOkR P ops Q D t0 n ds J Ext G (k+i) o
  | [],_,_,i,o,ho=>by simp at ho
  | x::rest,k,h,0,o,ho=>by simp at ho;subst ho;exact h.1
  | x::rest,k,h,i+1,o,ho=>by
   have:=OpsOkR.at h.2 (i:=i) (o:=o) (by simpa using ho);rwa [Nat.add_assoc,Nat.add_comm 1 i] at this
theorem wp_region_rel {id:Nat} {l:List Oper} {t0:Array Value} {ds:List Deferred} {w0:World} {N:Nat} (n:Nat) (hm:P.follows .mixedOrders=true) (hn:t0.size=N) (hB:regionL (l.take n) N=true) (hT:tailL l n=true) (hle:n≤l.length)
    (J:World→Prop) (Ext:World→World→Prop) (G:Nat→(Nat→Value)→World→Prop) (hst:∀k x w w',Ext w w'→G k x w→G k x w') (hdep:∀(k:Nat) (u u':Nat→Value) (w:World),(∀(j:Nat) (p o:Oper),l[j]? =some p→l[k]? =some o→(j=k∨(o.after.any fun e=>Region.binds .any e&&e.on==j)=true)→valOf u' p=valOf u p)→G k u w→G k u' w) (hJ:J w0.drew)
    (hop:OpsOkR P l.toArray Q (dstsOf (l.take n)) t0 N ds J Ext G 0 (l.take n))
    (hdone:∀(u:Nat→Value) (w:World),J w→(∀(k:Nat) (o:Oper),(l.take n)[k]? =some o→G k u w)→wpList P l.toArray Q (l.drop n) {tmps:=mixFrame (dstsOf (l.take n)) u t0,defers:=ds} w):
    (Code.region id l.toArray true).wp P Q {tmps:=t0,defers:=ds} w0:=by
 subst hn;simp only [regionL,Bool.and_eq_true,List.all_eq_true,decide_eq_true_eq] at hB;obtain ⟨⟨⟨hnd,hlt⟩,hgd⟩,hac⟩:=hB;simp only [tailL,List.all_eq_true,List.mem_range,Bool.or_eq_true,decide_eq_true_eq] at hT;have htk:∀ {k:Nat} {o:Oper},(l.take n)[k]? =some o↔k<n∧l[k]? =some o:=by
  intro k o;rw [List.getElem?_take];by_cases h:k<n
  · rw [if_pos h];exact ⟨fun h1=>⟨h,h1⟩,fun h1=>h1.2⟩
  · rw [if_neg h];exact ⟨fun h1=>(by cases h1),fun h1=>absurd h1.1 h⟩
 refine wp_region_any hm (wpAny_invL (ops:=l.toArray)
   (fun L a w=>((∀i,n≤i→L.getD i false=false)∧∃u:Nat→Value,a= {tmps:=mixFrame (dstsOf (l.take n)) u t0,defers:=ds}∧J w∧∀(k:Nat) (o:Oper),(l.take n)[k]? =some o→L.getD k false=true→G k u w) ∨
     (∃m,n≤m∧m≤l.length∧(∀i,i<m→L.getD i false=true)∧(∀i,m≤i→L.getD i false=false)∧wpList P l.toArray Q (l.drop m) a w))
   ?_ ?_ ?_ _ _ _ _ xsi (leftOf_le _ _) (fun j p hp hj=>by simp [Array.getD] at hj) (.inl ⟨fun i _=>by rw [List.size_toArray];simp [Array.getD],fun t=>t0.getD t undef,by rw [mixFrame_start],hJ,fun k o _ h=> ?_⟩))
 · intro i o ho e he hb;have hi:i<l.length:=(Array.getElem?_eq_some_iff.1 ho).1;rw [List.getElem?_toArray] at ho;by_cases hin:i<n
   · have h1:(l.take n)[i]? =some o:=htk.2 ⟨hin,ho⟩;have:=hac i (List.mem_range.2 (List.getElem?_eq_some_iff.1 h1).1);rw [h1] at this;have h2:=Array.all_eq_true_iff_forall_mem.1 this e he;rw [hb] at h2;simpa using h2
   · have h1:=hT i hi;rcases h1 with h1|h1
     · omega
     · rw [ho] at h1;simp only [Bool.and_eq_true] at h1;have h2:=Array.all_eq_true_iff_forall_mem.1 h1.2 e he;rw [hb] at h2;simpa using h2
 · rintro L a w i o hs ho hi hall hcl hI;rw [List.getElem?_toArray] at ho;have hil:i<l.length:=(List.getElem?_eq_some_iff.1 ho).1;have hilt:i<L.size:=by rw [hs];simpa using hil
   have ahead:n≤i→∀j,j<i→L.getD j false=true:=by
    intro hin j hj;have h1:=hT i hil;rcases h1 with h1|h1
    · omega
    · simp only [Bool.and_eq_true,decide_eq_true_eq] at h1;have hbit:((masksOf l []).getD i 0).testBit j=true:=by
       have h2:=congrArg (fun m=>Nat.testBit m j) h1.1;simp only [Nat.testBit_mod_two_pow,Nat.testBit_two_pow_sub_one,decide_eq_true hj,Bool.true_and] at h2;exact h2
      exact masks_sound hcl l [] 0 rfl (fun j=>by rw [Nat.zero_add]) (fun i hi=>by omega) i o ho hall j hbit
   have later:∀(m:Nat),n≤m→m=i→(∀j,m≤j→L.getD j false=false)→(∀j,j<m→L.getD j false=true)→wpList P l.toArray Q (l.drop m) a w→
       wpOp P l.toArray Q i (fun a' w'=>((∀k,n≤k→(L.setIfInBounds i true).getD k false=false)∧∃u:Nat→Value,a'= {tmps:=mixFrame (dstsOf (l.take n)) u t0,defers:=ds}∧J w'∧∀(k:Nat) (o:Oper),(l.take n)[k]? =some o→(L.setIfInBounds i true).getD k false=true→G k u w') ∨
         (∃m,n≤m∧m≤l.length∧(∀k,k<m→(L.setIfInBounds i true).getD k false=true)∧(∀k,m≤k→(L.setIfInBounds i true).getD k false=false)∧wpList P l.toArray Q (l.drop m) a' w')) a w:=by
    rintro m hnm rfl hno hyes hw;refine wpOp_mono (fun a' w' h=> .inr ⟨m+1,by omega,by omega,fun k hk=> ?_,fun k hk=> ?_,h⟩) (wpOp_of_list ho hw)
    · by_cases e:k=m
      · subst e;exact set_same hilt
      · rw [set_else e];exact hyes k xo
    · rw [set_else xo];exact hno k xo
   rcases hI with ⟨hno,u,rfl,hJw,hG⟩ | ⟨m,hnm,hml,hyes,hno,hw⟩
   · by_cases hin:i<n
     · have htki:(l.take n)[i]? =some o:=htk.2 ⟨hin,ho⟩;have hok:=hop.at htki;rw [Nat.zero_add] at hok;have hg:o.guard=none:=by
        have:=hgd o (List.mem_of_getElem? htki);cases hx:o.guard with
        | none=>rfl
        | some x=>rw [hx] at this;cases this
       unfold wpOp;simp only [List.getElem?_toArray,ho];rw [if_pos (by simp [Region.wanted,hg])];left;refine hok u _ w (fun t ht=>mixFrame_get ht) hJw (fun j p hj hp=> ?_) _ (fun v w' hv hJ' hG' hE=> .inl ⟨fun k hk=>by rw [set_else xo];exact hno k hk,?_⟩)
       · rw [List.getElem?_toArray] at hp;obtain ⟨e,he,hbe⟩:=Array.any_eq_true.1 hj;simp only [Bool.and_eq_true,beq_iff_eq] at hbe;have hl:=hall _ (Array.getElem_mem he) hbe.1;rw [hbe.2] at hl;have hjn:j<n:=by
          by_cases h:j<n
          · exact h
          · rw [hno j xo] at hl;cases hl
         exact hG j p (htk.2 ⟨hjn,hp⟩) hl
       · cases hd:o.dst with
         | none=>
          refine ⟨u,rfl,hJ',fun k p hp hk=> ?_⟩;by_cases e:k=i
          · subst e;have:=hG';unfold updR at this;rw [hd] at this;exact this
          · rw [set_else e] at hk;exact hst _ _ _ _ hE (hG k p hp hk)
         | some d=>
          have hdm:(dstsOf (l.take n)).contains d=true:=by
           simp only [List.contains_iff_mem];exact List.mem_filterMap.2 ⟨o,List.mem_of_getElem? htki,hd⟩
          refine ⟨fun t=>if t=d then v else u t,by simp only [Act.put,mixFrame_put hdm],hJ',fun k p hp hk=> ?_⟩;by_cases e:k=i
          · subst e;have:=hG';unfold updR at this;rw [hd] at this;exact this
          · rw [set_else e] at hk;refine hst _ _ _ _ hE (hdep k u _ w (fun j p' o' hj ho' hor=> ?_) (hG k p hp hk));have hjl:L.getD j false=true:=by
             rcases hor with rfl|hor
             · exact hk
             · obtain ⟨e',he',hbe⟩:=Array.any_eq_true.1 hor;simp only [Bool.and_eq_true,beq_iff_eq] at hbe;have:=hcl k o' (by rw [List.getElem?_toArray];exact ho') hk _ (Array.getElem_mem he') hbe.1;rw [hbe.2] at this;exact this
            have hji:j≠i:=fun h=>by rw [h,hi] at hjl;cases hjl
            have hjn:j<n:=by
             by_cases h:j<n
             · exact h
             · rw [hno j xo] at hjl;cases hjl
            have hne:=nodup_slot hnd htki (htk.2 ⟨hjn,hj⟩) (fun h=>hji h.symm) hd;unfold valOf;cases hpd:p'.dst with
            | none=>rfl
            | some d'=>exact if_neg (fun h=>hne (by rw [hpd,h]))
     · have hin':n=i:=by
         by_cases e:n=i
         · exact e
         · have:=ahead xo n xo;rw [hno n (Nat.le_refl _)] at this;cases this
       refine later n (Nat.le_refl _) hin' hno (fun j hj=>ahead xo j xo) (hdone u w hJw fun k p hp=>hG k p hp (ahead xo k ?_));have:=(htk.1 hp).1;omega
   · have him:m≤i:=by
       by_cases h:m≤i
       · exact h
       · have:=hyes i xo;rw [hi] at this;cases this
     have hmi:m=i:=by
      by_cases e:m=i
      · exact e
      · have:=ahead xo m xo;rw [hno m (Nat.le_refl _)] at this;cases this
     exact later m hnm hmi hno hyes hw
 · rintro L a w hs hall hI;rw [List.size_toArray] at hall;rcases hI with ⟨hno,u,rfl,hJw,hG⟩ | ⟨m,hnm,hml,hyes,hno,hw⟩
   · have hnl:n=l.length:=by
       by_cases e:n=l.length
       · exact e
       · have:=hall n xo;rw [hno n (Nat.le_refl _)] at this;cases this
     have hq:=hdone u w hJw fun k p hp=>hG k p hp (hall k (by have:=(htk.1 hp).1;omega))
     have hd:l.drop n=[]:=by rw [hnl];exact List.drop_length
     rw [hd] at hq;exact hq
   · have hml':m=l.length:=by
       by_cases e:m=l.length
       · exact e
       · have:=hall m xo;rw [hno m (Nat.le_refl _)] at this;cases this
     rw [hml',List.drop_length] at hw;exact hw
 · rw [List.size_toArray] at h;simp [Array.getD] at h
end
end
section
open Go.RowKit Go.Shelf
attribute [local go_sem] Oper.semAt_some
theorem infoR_uint64:(Tryz.prog.info? 27).map (fun i=>(i.zero,i.size,i.bytes))=some (some (.int .u64 0),1,8):=by kernel_rfl
theorem Clone_uint64 (ga:Option Addr) (gc:Nat) (xs:List Int) (w:World) (hg:IsRow .u64 w ga xs) (hl:xs.length≤100000):
    Calls Tryz.prog 78 #[.slice ga xs.length gc] w (FreshRow .u64 27 w xs):=by
 have q22:∀(w:World) (a:Option Addr) (n c n' c':Nat),(binOp .eql 24 (.slice a n c) (.slice none n' c')).run Tryz.prog w= .ok (.bool a.isNone) w:=fun w a n c n' c'=>Lib.run_eql_slice_nil w _ _ a n c n' c' Tryz.underlying24
 have HG:=hid hg;clear hg;cases ga with
 | none=>
  have hx:xs=[]:=row_none HG.out;subst hx;go_enter Tryz.func78,Tryz.ntmps78
  go_wp2
  go_ret
  exact ⟨_,rfl,World.ownsRow_nil _ _ _ _,Below.refl _ _⟩
 | some a=>
  have HN:=hid (row_news HG.out);go_enter Tryz.func78,Tryz.ntmps78
  go_wp2_with (at_builtin;refine wpl_append (.tmp 5) (.tmp 6) 24 27 (.int .u64 0) 1 8 Tryz.underlying24 infoR_uint64 rfl xdd xdd w.heap.size _ 0 [] (some a) xs.length gc (xs.map (Value.int .u64)) (World.ownsRow_made w #[] 0 (Nat.le_refl _) (Nat.zero_le _) rfl) xsi xzc (fun ad h j u hj=>Lib.cell?_alloc_some _ (HN.out ad h j u hj)) (numCells _) xo xsi rfl rfl rfl rfl ?_;intro v' w1 hown hgrow _)
  go_wp2
  go_ret
  refine ⟨v',rfl,by simpa using hown,?_⟩;exact ((Below.refl _ w).alloc (Nat.le_refl _) _).grown hgrow xsi (by intro k hk;simp [Value.ownBlock] at hk;omega)
def FactR.row (base:Nat) (e:TypeId) (n:Nat) (xs:List Value):FactR RB:=⟨fun v w=>w.ownsRow base e 1 v n xs,fun _ _ _ h k=>owns_below k h⟩
def relAt (ds:List Nat) (fs:List (FactR RB)) (k:Nat) (u:Nat→Value) (w:World):Prop:=factRAt fs k (u (ds.getD k 0)) w∧(k=8→∀p q,(u 8).ownBlock=some p→(u 11).ownBlock=some q→p≠q)
theorem relAt_stays (ds:List Nat) (fs:List (FactR RB)) (k:Nat) (u:Nat→Value) (w w':World) (h:RB w w'):relAt ds fs k u w→relAt ds fs k u w':=fun ⟨h1,h2⟩=>⟨factRAt_stays fs k _ w w' h h1,h2⟩
theorem relAt_dep {l:List Oper} (ds:List Nat) (fs:List (FactR RB)) (h:(List.range l.length).all (fun k=>match l[k]? with|some o=>decide (13≤k)||o.dst==some (ds.getD k 0)|none=>true)=true)
    (h8:(match l[8]?,l[5]? with|some o,some p=>o.dst==some 11&&p.dst==some 8&&(o.after.any fun e=>Region.binds .any e&&e.on==5)|_,_=>false)=true) (hfs:fs.length≤13) (hll:13≤l.length):
    ∀(k:Nat) (u u':Nat→Value) (w:World),(∀(j:Nat) (p o:Oper),l[j]? =some p→l[k]? =some o→(j=k∨(o.after.any fun e=>Region.binds .any e&&e.on==j)=true)→valOf u' p=valOf u p)→relAt ds fs k u w→relAt ds fs k u' w:=by
 intro k u u' w hv hg;refine ⟨?_,?_⟩
 · by_cases hk:13≤k
   · have e:factRAt fs k=fun _ _=>True:=by funext v x;unfold factRAt;rw [List.getD_eq_getElem?_getD,List.getElem?_eq_none xo];rfl
     rw [e];trivial
   · by_cases hl:k<l.length
     · have h1:=List.all_eq_true.1 h k (List.mem_range.2 hl);have ho:l[k]? =some l[k]:=List.getElem?_eq_getElem hl;rw [ho] at h1;simp only [Bool.or_eq_true,decide_eq_true_eq,beq_iff_eq] at h1;have h2:=h1.resolve_left hk;have h3:=hv k _ _ ho ho (.inl rfl);simp only [valOf,h2] at h3;rw [h3];exact hg.1
     · omega
 · rintro rfl p q hp hq;cases ho:l[8]? with
   | none=>rw [ho] at h8;cases h8
   | some o=>
    cases hp5:l[5]? with
    | none=>rw [ho,hp5] at h8;cases h8
    | some p5=>
     rw [ho,hp5] at h8;simp only [Bool.and_eq_true,beq_iff_eq] at h8;have e1:=hv 8 _ _ ho ho (.inl rfl);have e2:=hv 5 _ _ hp5 ho (.inr h8.2);simp only [valOf,h8.1.1,h8.1.2] at e1 e2;rw [e1] at hq;rw [e2] at hp;exact hg.2 rfl p q hp hq
theorem slTwin_ok (c:SlC) (a:SlA) (w:World) (hin:SlIn w c a) (hl1:c.ws.length≤100000) (hl2:c.ks.length≤100000) (hl3:c.vs.length≤100000) (hl4:c.cs.length≤100000):
    Calls Tryz.prog 50 #[slV c a] w (FreshSlN w c):=by
 have C1:=hid (fun W (hb:Below w.heap.size w W)=>Clone_uint64 a.wa a.wc c.ws W (hin.w.below hb) hl1);have C2:=hid (fun W (hb:Below w.heap.size w W)=>Clone_int64 a.ka a.kc c.ks W (hin.k.below hb) hl2);have C3:=hid (fun W (hb:Below w.heap.size w W)=>Clone_int64 a.va a.vc c.vs W (hin.v.below hb) hl3);have C4:=hid (fun W (hb:Below w.heap.size w W)=>Clone_int a.ca a.cc c.cs W (hin.n.below hb) hl4);obtain ⟨seg,ws,ks,vs,cs,laid⟩:=c;obtain ⟨wa,ka,va,ca,wc,kc,vc,cc⟩:=a;dsimp only [slV,FreshSlN,FreshRow] at *;obtain ⟨lw,hw⟩:∃n,ws.length=n:=⟨_,rfl⟩
 obtain ⟨lk,hk⟩:∃n,ks.length=n:=⟨_,rfl⟩
 obtain ⟨lv,hv⟩:∃n,vs.length=n:=⟨_,rfl⟩
 obtain ⟨lc,hc⟩:∃n,cs.length=n:=⟨_,rfl⟩
 rw [hw] at C1 ⊢;rw [hk] at C2 ⊢;rw [hv] at C3 ⊢;rw [hc] at C4 ⊢;have HL1:=hid hw;have HL2:=hid hk;have HL3:=hid hv;have HL4:=hid hc;clear hw hk hv hc hin hl1 hl2 hl3 hl4;go_enter Tryz.func50,Tryz.ntmps50
 go_wp2
 generalize hwz:(w.alloc _).alloc _=wz;have hh:=ec6 hwz (au6 (al6 (b:=w.heap.size) xsi));obtain ⟨c_t0,c_t1,c_t2,c_t3,c_t4,c_t5⟩:=hh;have hh:=ef6 hwz (auf6 (alz (b:=w.heap.size) xsi) (alf6 (b:=w.heap.size) xsi));obtain ⟨f_t0,f_t1,f_t2,f_t3,f_t4,f_t5⟩:=hh;have z_t:=elt hwz (auz (alz (b:=w.heap.size) xsi));have hh:=ec6 hwz (al6 (b:=w.heap.size+1) xsi);obtain ⟨c_r0,c_r1,c_r2,c_r3,c_r4,c_r5⟩:=hh;have hh:=ef6 hwz (alf6 (b:=w.heap.size+1) xsi);obtain ⟨f_r0,f_r1,f_r2,f_r3,f_r4,f_r5⟩:=hh;have z_r:=elt hwz (alz (b:=w.heap.size+1) xsi);have HS:Hid (Below w.heap.size w wz):=by rw [←hwz];exact hid ((br.alloc (Nat.le_refl _) _).alloc xsi _)
 have hz:w.heap.size+2=wz.heap.size:=by rw [←hwz];simp
 clear hwz;refine wp_region_rel 13 xk (N:=20) rfl xk xk xdd (fun w'=>Below wz.heap.size wz w') RB (relAt [3,4,5,6,7,8,9,10,11,12,13,14,15] [.is (.pointer (some ⟨w.heap.size,1,none⟩)),.is (.slice wa lw wc),.row wz.heap.size 27 lw (ws.map (Value.int .u64)),.is (.pointer (some ⟨w.heap.size,2,none⟩)),.is (.slice ka lk kc),.row wz.heap.size 2 lk (ks.map (Value.int .i64)),.is (.pointer (some ⟨w.heap.size,3,none⟩)),.is (.slice va lv vc),.row wz.heap.size 2 lv (vs.map (Value.int .i64)),.is (.pointer (some ⟨w.heap.size,4,none⟩)),.is (.slice ca lc cc),.row wz.heap.size 3 lc (cs.map (Value.int .i64)),.is (.pointer (some ⟨w.heap.size,1,none⟩))]) (relAt_stays _ _) ?dep br.drew ?steps ?fin
 case dep=>
  exact relAt_dep _ _ xk xk (Nat.le_refl 13) xdd
 case steps=>
  refine ⟨?o0,?o1,?o2,?o3,?o4,?o5,?o6,?o7,?o8,?o9,?o10,?o11,?o12,trivial⟩<;>intro u a w' ev hJ hd K hK
  case o0=>
   have e1:tg a 1= .pointer (some ⟨w.heap.size,0,none⟩):=ev 1 xdd;have HK:=hid hK;clear hK ev hd;go_simp;exact HK.out _ _ xzc hJ ⟨rfl,fun h=>absurd h xdd⟩ br
  case o1=>
   have e3:tg a 3= .pointer (some ⟨w.heap.size,1,none⟩):=(ev 3 xdd).trans (hd 0 _ xk rfl).1;have g0:=xjc hJ c_t1;have HK:=hid hK;clear hK ev hd;go_simp;exact HK.out _ _ xzc hJ ⟨rfl,fun h=>absurd h xdd⟩ br
  case o2=>
   have e4:tg a 4= .slice wa lw wc:=(ev 4 xdd).trans (hd 1 _ xk rfl).1;have HK:=hid hK;have HC:=hid (C1.out w' (below_via hJ HS.out xo));have hzJ:=hJ.size;clear hK ev hd;go_simp;refine HC.out.mono ?_;rintro e w'' ⟨v,rfl,ho,hb⟩;exact HK.out _ _ xzc (hJ.trans (hb.mono hzJ)) ⟨owns_base (HL1.out ▸ ho) hzJ,fun h=>absurd h xdd⟩ hb
  case o3=>
   have e1:tg a 1= .pointer (some ⟨w.heap.size,0,none⟩):=ev 1 xdd;have HK:=hid hK;clear hK ev hd;go_simp;exact HK.out _ _ xzc hJ ⟨rfl,fun h=>absurd h xdd⟩ br
  case o4=>
   have e6:tg a 6= .pointer (some ⟨w.heap.size,2,none⟩):=(ev 6 xdd).trans (hd 3 _ xk rfl).1;have g0:=xjc hJ c_t2;have HK:=hid hK;clear hK ev hd;go_simp;exact HK.out _ _ xzc hJ ⟨rfl,fun h=>absurd h xdd⟩ br
  case o5=>
   have e7:tg a 7= .slice ka lk kc:=(ev 7 xdd).trans (hd 4 _ xk rfl).1;have HK:=hid hK;have HC:=hid (C2.out w' (below_via hJ HS.out xo));have hzJ:=hJ.size;clear hK ev hd;go_simp;refine HC.out.mono ?_;rintro e w'' ⟨v,rfl,ho,hb⟩;exact HK.out _ _ xzc (hJ.trans (hb.mono hzJ)) ⟨owns_base (HL2.out ▸ ho) hzJ,fun h=>absurd h xdd⟩ hb
  case o6=>
   have e1:tg a 1= .pointer (some ⟨w.heap.size,0,none⟩):=ev 1 xdd;have HK:=hid hK;clear hK ev hd;go_simp;exact HK.out _ _ xzc hJ ⟨rfl,fun h=>absurd h xdd⟩ br
  case o7=>
   have e9:tg a 9= .pointer (some ⟨w.heap.size,3,none⟩):=(ev 9 xdd).trans (hd 6 _ xk rfl).1;have g0:=xjc hJ c_t3;have HK:=hid hK;clear hK ev hd;go_simp;exact HK.out _ _ xzc hJ ⟨rfl,fun h=>absurd h xdd⟩ br
  case o8=>
   have e10:tg a 10= .slice va lv vc:=(ev 10 xdd).trans (hd 7 _ xk rfl).1;have H5:Hid (w'.ownsRow wz.heap.size 2 1 (u 8) lk (ks.map (Value.int .i64))):=hid (hd 5 _ xk rfl).1;have HK:=hid hK;have HC:=hid (C3.out w' (below_via hJ HS.out xo));have hzJ:=hJ.size;clear hK ev hd;go_simp;refine HC.out.mono ?_;rintro e w'' ⟨v,rfl,ho,hb⟩;exact HK.out _ _ xzc (hJ.trans (hb.mono hzJ)) ⟨owns_base (HL3.out ▸ ho) hzJ,fun _ p q hp hq=>by have h1:=(H5.out.lt p hp).2;have h2:=(ho.lt q hq).1;omega⟩ hb
  case o9=>
   have e1:tg a 1= .pointer (some ⟨w.heap.size,0,none⟩):=ev 1 xdd;have HK:=hid hK;clear hK ev hd;go_simp;exact HK.out _ _ xzc hJ ⟨rfl,fun h=>absurd h xdd⟩ br
  case o10=>
   have e12:tg a 12= .pointer (some ⟨w.heap.size,4,none⟩):=(ev 12 xdd).trans (hd 9 _ xk rfl).1;have g0:=xjc hJ c_t4;have HK:=hid hK;clear hK ev hd;go_simp;exact HK.out _ _ xzc hJ ⟨rfl,fun h=>absurd h xdd⟩ br
  case o11=>
   have e13:tg a 13= .slice ca lc cc:=(ev 13 xdd).trans (hd 10 _ xk rfl).1;have HK:=hid hK;have HC:=hid (C4.out w' (below_via hJ HS.out xo));have hzJ:=hJ.size;clear hK ev hd;go_simp;refine HC.out.mono ?_;rintro e w'' ⟨v,rfl,ho,hb⟩;exact HK.out _ _ xzc (hJ.trans (hb.mono hzJ)) ⟨owns_base (HL4.out ▸ ho) hzJ,fun h=>absurd h xdd⟩ hb
  case o12=>
   have e1:tg a 1= .pointer (some ⟨w.heap.size,0,none⟩):=ev 1 xdd;have HK:=hid hK;clear hK ev hd;go_simp;exact HK.out _ _ xzc hJ ⟨rfl,fun h=>absurd h xdd⟩ br
 case fin=>
  intro u w2 hJ hG;have h15:u 15= .pointer (some ⟨w.heap.size,1,none⟩):=(hG 12 _ rfl).1;have p1:(FactR.row wz.heap.size 27 lw (ws.map (Value.int .u64))).holds (u 5) w2:=(hG 2 _ rfl).1;have p2:(FactR.row wz.heap.size 2 lk (ks.map (Value.int .i64))).holds (u 8) w2:=(hG 5 _ rfl).1;have p3:(FactR.row wz.heap.size 2 lv (vs.map (Value.int .i64))).holds (u 11) w2:=(hG 8 _ rfl).1;have p4:(FactR.row wz.heap.size 3 lc (cs.map (Value.int .i64))).holds (u 14) w2:=(hG 11 _ rfl).1;have hne:∀p q,(u 8).ownBlock=some p→(u 11).ownBlock=some q→p≠q:=(hG 8 _ rfl).2 rfl;obtain ⟨a1,c1,h5,-⟩:=owns_news p1;obtain ⟨a2,c2,h8,-⟩:=owns_news p2;obtain ⟨a3,c3,h11,-⟩:=owns_news p3;obtain ⟨a4,c4,h14,-⟩:=owns_news p4;rw [h5] at p1;rw [h8] at p2;rw [h11] at p3;rw [h14] at p4;rw [h8,h11] at hne;have HNE:=hid hne;clear hne;have HP1:Hid (w2.ownsRow wz.heap.size 27 1 (.slice a1 lw c1) lw (ws.map (Value.int .u64))):=hid p1;have HP2:Hid (w2.ownsRow wz.heap.size 2 1 (.slice a2 lk c2) lk (ks.map (Value.int .i64))):=hid p2;have HP3:Hid (w2.ownsRow wz.heap.size 2 1 (.slice a3 lv c3) lv (vs.map (Value.int .i64))):=hid p3;have HP4:Hid (w2.ownsRow wz.heap.size 3 1 (.slice a4 lc c4) lc (cs.map (Value.int .i64))):=hid p4;have hz_w2:=hJ.size;simp (disch:=omega) only [xcl hJ,xfr hJ] at *;replace z_t:=blt hJ z_t;replace z_r:=blt hJ z_r;have hB2:Below w.heap.size w w2:=below_via hJ HS.out xo;clear hG p1 p2 p3 p4 hJ;simp only [mixFrame,mixL,dstsOf,List.take_succ_cons,List.take_zero,List.filterMap_cons,List.filterMap_nil,List.contains_cons,List.contains_nil,Nat.reduceBEq,Bool.or_false,Bool.false_or,Bool.or_true,Bool.true_or,if_true,if_false,Bool.false_eq_true,Nat.reduceAdd,Nat.zero_add,List.drop_succ_cons,List.drop_zero,h15,h5,h8,h11,h14];go_wp2
  have hb5:Below w.heap.size w ((((w2.setCell ⟨w.heap.size,1,none⟩ (.slice a1 lw c1)).setCell ⟨w.heap.size,2,none⟩ (.slice a2 lk c2)).setCell ⟨w.heap.size,3,none⟩ (.slice a3 lv c3)).setCell ⟨w.heap.size,4,none⟩ (.slice a4 lc c4)):=(((hB2.setCell xdo _).setCell xdo _).setCell xdo _).setCell xdo _;have k0:((((w2.setCell ⟨w.heap.size,1,none⟩ (.slice a1 lw c1)).setCell ⟨w.heap.size,2,none⟩ (.slice a2 lk c2)).setCell ⟨w.heap.size,3,none⟩ (.slice a3 lv c3)).setCell ⟨w.heap.size,4,none⟩ (.slice a4 lc c4)).cell? ⟨w.heap.size+1,0,none⟩=some (.int .i64 0):=set_keep xsi (set_keep xsi (set_keep xsi (set_keep xsi c_r0)));have k1:((((w2.setCell ⟨w.heap.size,1,none⟩ (.slice a1 lw c1)).setCell ⟨w.heap.size,2,none⟩ (.slice a2 lk c2)).setCell ⟨w.heap.size,3,none⟩ (.slice a3 lv c3)).setCell ⟨w.heap.size,4,none⟩ (.slice a4 lc c4)).cell? ⟨w.heap.size+1,1,none⟩=some (.slice none 0 0):=set_keep xsi (set_keep xsi (set_keep xsi (set_keep xsi c_r1)));have k2:((((w2.setCell ⟨w.heap.size,1,none⟩ (.slice a1 lw c1)).setCell ⟨w.heap.size,2,none⟩ (.slice a2 lk c2)).setCell ⟨w.heap.size,3,none⟩ (.slice a3 lv c3)).setCell ⟨w.heap.size,4,none⟩ (.slice a4 lc c4)).cell? ⟨w.heap.size+1,2,none⟩=some (.slice none 0 0):=set_keep xsi (set_keep xsi (set_keep xsi (set_keep xsi c_r2)));have k3:((((w2.setCell ⟨w.heap.size,1,none⟩ (.slice a1 lw c1)).setCell ⟨w.heap.size,2,none⟩ (.slice a2 lk c2)).setCell ⟨w.heap.size,3,none⟩ (.slice a3 lv c3)).setCell ⟨w.heap.size,4,none⟩ (.slice a4 lc c4)).cell? ⟨w.heap.size+1,3,none⟩=some (.slice none 0 0):=set_keep xsi (set_keep xsi (set_keep xsi (set_keep xsi c_r3)));have k4:((((w2.setCell ⟨w.heap.size,1,none⟩ (.slice a1 lw c1)).setCell ⟨w.heap.size,2,none⟩ (.slice a2 lk c2)).setCell ⟨w.heap.size,3,none⟩ (.slice a3 lv c3)).setCell ⟨w.heap.size,4,none⟩ (.slice a4 lc c4)).cell? ⟨w.heap.size+1,4,none⟩=some (.slice none 0 0):=set_keep xsi (set_keep xsi (set_keep xsi (set_keep xsi c_r4)));have k5:((((w2.setCell ⟨w.heap.size,1,none⟩ (.slice a1 lw c1)).setCell ⟨w.heap.size,2,none⟩ (.slice a2 lk c2)).setCell ⟨w.heap.size,3,none⟩ (.slice a3 lv c3)).setCell ⟨w.heap.size,4,none⟩ (.slice a4 lc c4)).cell? ⟨w.heap.size+1,5,none⟩=some (.int .u64 0):=set_keep xsi (set_keep xsi (set_keep xsi (set_keep xsi c_r5)));have HQ:Hid (∀q,w.heap.size+2≤q→((((((((((w2.setCell ⟨w.heap.size,1,none⟩ (.slice a1 lw c1)).setCell ⟨w.heap.size,2,none⟩ (.slice a2 lk c2)).setCell ⟨w.heap.size,3,none⟩ (.slice a3 lv c3)).setCell ⟨w.heap.size,4,none⟩ (.slice a4 lc c4)).setCell ⟨w.heap.size+1,0,none⟩ (.int .i64 seg)).setCell ⟨w.heap.size+1,1,none⟩ (.slice a1 lw c1)).setCell ⟨w.heap.size+1,2,none⟩ (.slice a2 lk c2)).setCell ⟨w.heap.size+1,3,none⟩ (.slice a3 lv c3)).setCell ⟨w.heap.size+1,4,none⟩ (.slice a4 lc c4)).setCell ⟨w.heap.size+1,5,none⟩ (.int .u64 laid)).heap[q]? =w2.heap[q]?):=hid fun q hq=>by
   rw [heap_setCell_ne _ _ _ xdo,heap_setCell_ne _ _ _ xdo,heap_setCell_ne _ _ _ xdo,heap_setCell_ne _ _ _ xdo,heap_setCell_ne _ _ _ xdo,heap_setCell_ne _ _ _ xdo,heap_setCell_ne _ _ _ xdo,heap_setCell_ne _ _ _ xdo,heap_setCell_ne _ _ _ xdo,heap_setCell_ne _ _ _ xdo]
  refine bodyPost_ret (results_c rfl rfl (run_loadVar_many _ Tryz.underlying29 rfl xk (six_set k0 k1 k2 k3 k4 k5))) rfl ⟨_,_,_,_,rfl,?_,?_,?_,?_,?_,HNE.out⟩
  · rw [HL1.out];exact owns_base (owns_heap HP1.out fun j hj=>HQ.out j (by have:=(HP1.out.lt j hj).1;omega)) xo
  · rw [HL2.out];exact owns_base (owns_heap HP2.out fun j hj=>HQ.out j (by have:=(HP2.out.lt j hj).1;omega)) xo
  · rw [HL3.out];exact owns_base (owns_heap HP3.out fun j hj=>HQ.out j (by have:=(HP3.out.lt j hj).1;omega)) xo
  · rw [HL4.out];exact owns_base (owns_heap HP4.out fun j hj=>HQ.out j (by have:=(HP4.out.lt j hj).1;omega)) xo
  · exact (((((hb5.setCell xdo _).setCell xdo _).setCell xdo _).setCell xdo _).setCell xdo _).setCell xdo _
structure KeptA (g1 g2 g3 g4:Nat) (w W:World):Prop where
 os:W.os=w.os
 tape:W.tape=w.tape
 output:W.output=w.output
 size:w.heap.size≤W.heap.size
 block:∀q,q<w.heap.size→q≠g1→q≠g2→q≠g3→q≠g4→W.heap[q]? =w.heap[q]?
theorem KeptA.below {g1 g2 g3 g4:Nat} {w W:World} (h:Below w.heap.size w W):KeptA g1 g2 g3 g4 w W:=⟨h.os,h.tape,h.output,h.size,fun q hq _ _ _ _=>h.block q hq⟩
theorem KeptA.step {g1 g2 g3 g4:Nat} {w W W':World} (h:KeptA g1 g2 g3 g4 w W) (h0:W'.heap.size=W.heap.size) (h1:W'.os=W.os) (h2:W'.tape=W.tape) (h3:W'.output=W.output) (hb:∀q,q<w.heap.size→q≠g1→q≠g2→q≠g3→q≠g4→W'.heap[q]? =W.heap[q]?):KeptA g1 g2 g3 g4 w W':=
  ⟨h1.trans h.os,h2.trans h.tape,h3.trans h.output,by rw [h0];exact h.size,fun q hq a b c d=>(hb q hq a b c d).trans (h.block q hq a b c d)⟩
structure ArrOn (B:Nat) (W:World) (b g1 g2 g3 g4 k1 k2 k3 k4 lw n lc:Nat) (seg laid:Int) (ws ks vs cs:List Int):Prop where
 c0:W.cell? ⟨b,0,none⟩=some (.int .i64 seg)
 c1:W.cell? ⟨b,1,none⟩=some (.slice (some ⟨g1,0,none⟩) lw k1)
 c2:W.cell? ⟨b,2,none⟩=some (.slice (some ⟨g2,0,none⟩) n k2)
 c3:W.cell? ⟨b,3,none⟩=some (.slice (some ⟨g3,0,none⟩) n k3)
 c4:W.cell? ⟨b,4,none⟩=some (.slice (some ⟨g4,0,none⟩) lc k4)
 c5:W.cell? ⟨b,5,none⟩=some (.int .u64 laid)
 f5:W.frozen? ⟨b,5,none⟩=false
 o1:W.ownsRow B 27 1 (.slice (some ⟨g1,0,none⟩) lw k1) lw ((ws).map (Value.int .u64))
 o2:W.ownsRow B 2 1 (.slice (some ⟨g2,0,none⟩) n k2) n ((ks).map (Value.int .i64))
 o3:W.ownsRow B 2 1 (.slice (some ⟨g3,0,none⟩) n k3) n ((vs).map (Value.int .i64))
 o4:W.ownsRow B 3 1 (.slice (some ⟨g4,0,none⟩) lc k4) lc ((cs).map (Value.int .i64))
end
section
open Go.RowKit
def clrX (x:Int) (r:Nat):Int:=bits BinOp.andNot IntKind.u64 x (IntKind.u64.wrap (2^r))
def setX (x:Int) (r:Nat):Int:=bits BinOp.or IntKind.u64 x (IntKind.u64.wrap (2^r))
def clrL (ws:List Int) (i:Nat):List Int:=ws.set (i/64) (clrX (ws.getD (i/64) 0) (i%64))
def setL (ws:List Int) (i:Nat):List Int:=ws.set (i/64) (setX (ws.getD (i/64) 0) (i%64))
end
section
open Go.RowKit Go.Shelf
attribute [local go_sem] Oper.semAt_some
structure Kept5 (b g1 g2 g3 g4:Nat) (w W:World):Prop where
 os:W.os=w.os
 tape:W.tape=w.tape
 output:W.output=w.output
 size:w.heap.size≤W.heap.size
 block:∀q,q<w.heap.size→q≠b→q≠g1→q≠g2→q≠g3→q≠g4→W.heap[q]? =w.heap[q]?
theorem Kept5.of {b g1 g2 g3 g4:Nat} {w W W':World} (h:Below w.heap.size w W) (k:KeptA g1 g2 g3 g4 W W'):Kept5 b g1 g2 g3 g4 w W':=
  ⟨k.os.trans h.os,k.tape.trans h.tape,k.output.trans h.output,Nat.le_trans h.size k.size,fun q hq _ h1 h2 h3 h4=>(k.block q (Nat.lt_of_lt_of_le hq h.size) h1 h2 h3 h4).trans (h.block q hq)⟩
theorem Kept5.step {b g1 g2 g3 g4:Nat} {w W W':World} (h:Kept5 b g1 g2 g3 g4 w W) (h0:W'.heap.size=W.heap.size) (h1:W'.os=W.os) (h2:W'.tape=W.tape) (h3:W'.output=W.output) (hb:∀q,q<w.heap.size→q≠b→q≠g1→q≠g2→q≠g3→q≠g4→W'.heap[q]? =W.heap[q]?):Kept5 b g1 g2 g3 g4 w W':=
  ⟨h1.trans h.os,h2.trans h.tape,h3.trans h.output,by rw [h0];exact h.size,fun q hq z a b c d=>(hb q hq z a b c d).trans (h.block q hq z a b c d)⟩
end
section
open Go.RowKit
def tkC (c:SlC) (i:Nat):SlC:=⟨c.seg,clrL c.ws i,c.ks.set i 0,c.vs.set i 0,(if bitW c.ws i=true then c.cs.set (i/c.seg.toNat) (c.cs.getD (i/c.seg.toNat) 0-1) else c.cs),c.laid⟩
def lyC (c:SlC) (i:Nat) (key val:Int):SlC:=⟨c.seg,setL (tkC c i).ws i,(tkC c i).ks.set i key,(tkC c i).vs.set i val,(tkC c i).cs.set (i/c.seg.toNat) ((tkC c i).cs.getD (i/c.seg.toNat) 0+1),IntKind.u64.wrap (c.laid+1)⟩
def okC (c:SlC):Bool:=c.ws.all (fun x=>decide (0≤x)&&decide (x<18446744073709551616))&&c.cs.all (fun x=>decide (0≤x)&&decide (x≤65535))
theorem ArrOn.blocks {B:Nat} {W:World} {b g1 g2 g3 g4 k1 k2 k3 k4 lw n lc:Nat} {seg laid:Int} {ws ks vs cs:List Int} (h:ArrOn B W b g1 g2 g3 g4 k1 k2 k3 k4 lw n lc seg laid ws ks vs cs):b<W.heap.size∧g1<W.heap.size∧g2<W.heap.size∧g3<W.heap.size∧g4<W.heap.size:=
  ⟨World.block_lt_of_cell? _ _ h.c0,(h.o1.lt g1 rfl).2,(h.o2.lt g2 rfl).2,(h.o3.lt g3 rfl).2,(h.o4.lt g4 rfl).2⟩
theorem ArrOn.below {B:Nat} {W W':World} {b g1 g2 g3 g4 k1 k2 k3 k4 lw n lc:Nat} {seg laid:Int} {ws ks vs cs:List Int} (h:ArrOn B W b g1 g2 g3 g4 k1 k2 k3 k4 lw n lc seg laid ws ks vs cs) (hb:Below W.heap.size W W'):ArrOn B W' b g1 g2 g3 g4 k1 k2 k3 k4 lw n lc seg laid ws ks vs cs:=by
 have hl:=h.blocks.1;exact ⟨(hb.cell (p:=⟨b,0,none⟩) hl).trans h.c0,(hb.cell (p:=⟨b,1,none⟩) hl).trans h.c1,(hb.cell (p:=⟨b,2,none⟩) hl).trans h.c2,(hb.cell (p:=⟨b,3,none⟩) hl).trans h.c3,(hb.cell (p:=⟨b,4,none⟩) hl).trans h.c4,(hb.cell (p:=⟨b,5,none⟩) hl).trans h.c5,(hb.frozen (p:=⟨b,5,none⟩) hl).trans h.f5,owns_below h.o1 hb,owns_below h.o2 hb,owns_below h.o3 hb,owns_below h.o4 hb⟩
def tks (c:SlC) (lo:Nat):Nat→SlC
  | 0=>c
  | j+1=>tkC (tks c lo j) (lo+j)
def lys (c:SlC) (ps:List Nat) (L:List (Int×Int)):Nat→SlC
  | 0=>c
  | k+1=>lyC (lys c ps L k) (ps.getD k 0) (L.getD k (0,0)).1 (L.getD k (0,0)).2
end
end Go.Proofs.YtbedhbpgnfffmaaGreat

/- Merged: IdxFacts, SlNew, InvRel, SlTwin, SlTake, SlTakeOk, SlLay, SlLayOk. -/
import Derived.Test.YtbedhbpgnfffmaaGreatDoorCobAnswersP4
namespace Go.Proofs.YtbedhbpgnfffmaaGreatDoor
set_option maxRecDepth 100000
set_option maxHeartbeats 40000000
set_option linter.unusedVariables false
set_option linter.unusedSimpArgs false
section
open Go.RowKit
abbrev RB:World->World->Prop:=fun w w'=>Below w.heap.size w w'
def dN.sl (base:Nat) (c:aW):dN RB:=
  ⟨fun v w=>∃v1 v2 v3 v4,v= .agg #[.int .i64 c.ai,v1,v2,v3,v4,.int .u64 c.laid]/\w.ownsRow base 27 1 v1 c.ws.length (c.ws.map (Value.int .u64))/\w.ownsRow base 2 1 v2 c.ks.length (c.ks.map (Value.int .i64))/\w.ownsRow base 2 1 v3 c.vs.length (c.vs.map (Value.int .i64))/\w.ownsRow base 3 1 v4 c.cs.length (c.cs.map (Value.int .i64)),
    fun _ _ _ h ⟨v1,v2,v3,v4,e,h1,h2,h3,h4⟩=>⟨v1,v2,v3,v4,e,ay h1 h,ay h2 h,ay h3 h,ay h4 h⟩⟩
def dN.box (base:Nat) (t:TypeId) (n:Nat):dN RB:=
  ⟨fun v w=>∃b cs,v= .pointer (some ⟨b,0,none⟩)/\base<=b/\w.heap[b]? =some (.cells cs t (0,0))/\cs.size=n,fun _ _ _ h ⟨b,cs,e,hb,hh,hn⟩=>⟨b,cs,e,hb,(h.block b (Array.getElem?_eq_some_iff.1 hh).1).trans hh,hn⟩⟩
theorem Rf {w:World} {b:Nat} {cs:Array Value} {t e:TypeId} {B s n:Nat} {v:Value} {xs:List Value} (h:w.heap[b]? =some (.cells cs t (0,0))) (ho:w.ownsRow B e s v n xs) (hne:e≠t):∀k,v.ownBlock=some k->k≠b:=by
 intro k hk;obtain ⟨_,⟨rfl,_⟩ | ⟨g',c',cur',rfl,_,hh,_⟩⟩:=ho
 . cases hk
 . cases hk;exact fun e=>by subst e;rw [h] at hh;cases hh;exact hne rfl
theorem Qq (c:aW):(gy c).length<=100000/\(fZ c).length<=100000:=by
 unfold gy fZ;split
 . rename_i h
   obtain ⟨h1,h2⟩:=sO h;have hL:u_ c<=14:=by
    obtain ⟨S,D,M,hS,hS2,hS4,Eh,hcm,hMD,hDM,aed,-⟩:=sN (nX h1) h2;rw [u_,hcm,hMD];omega
   have hp:2^u_ c<=2^14:=Nat.pow_le_pow_right xo hL;have h1:1<=u_ c:=by rw [u_];omega
   rw [Xf,Xg,List.length_map,List.length_map,fG 1 h1];omega
 . simp
end
section
open Go.RowKit Go.Shelf
attribute [local go_sem] Oper.semAt_some
def dN.own (base:Nat) (e:TypeId) (n:Nat) (xs:List Value):dN RB:=
  ⟨fun v w=>∃g,v= .slice (some ⟨g,0,none⟩) n n/\w.ownsRow base e 1 (.slice (some ⟨g,0,none⟩) n n) n xs,fun _ _ _ h ⟨g,e1,k⟩=>⟨g,e1,ay k h⟩⟩
theorem vU (k:IntKind) (n:Nat):(madeCells (Value.int k 0).cells (n*1)).toList=(List.replicate n (0:Int)).map (Value.int k):=by
 rw [Nat.mul_one,List.map_replicate];exact toList_madeCells_one _ _
def iF (ai many nw nc:Nat):aW:=⟨ai,List.replicate nw 0,List.replicate many 0,List.replicate many 0,List.replicate nc 0,0⟩
def dm (w:World) (c:aW) (x:Value) (e:Ending) (w':World):Prop:=
  ∃v1 v2 v3 v4,e= .returned (.tuple #[.agg #[.int .i64 c.ai,v1,v2,v3,v4,.int .u64 c.laid],x])/\w'.ownsRow w.heap.size 27 1 v1 c.ws.length (c.ws.map (Value.int .u64))/\w'.ownsRow w.heap.size 2 1 v2 c.ks.length (c.ks.map (Value.int .i64))/\w'.ownsRow w.heap.size 2 1 v3 c.vs.length (c.vs.map (Value.int .i64))/\w'.ownsRow w.heap.size 3 1 v4 c.cs.length (c.cs.map (Value.int .i64))/\Below w.heap.size w w'
theorem Cb (w:World) (ai many nw nc:Nat) (hs:4<=ai) (hm:many<=65536) (hs2:ai<=64) (hnw:((many:Int)+63).tdiv 64=nw) (hnc:(many:Int).tdiv ai=nc) (ajd:nw<=65536) (aje:nc<=65536)
    (FT:Hid (∀W,Calls Tryz.prog 167 #[.int .i64 ai,.int .i64 many] W fun e w'=>e= .returned (.bool true)/\W=w')):
    Calls Tryz.prog 184 #[.int .i64 ai,.int .i64 many] w (dm w (iF ai many nw nc) (.int .i64 0)):=by
 have hs0:((ai:Int)==0)=false:=by simp;omega
 have hsn:¬(ai:Int)=0:=xo;have ai7:¬ai=0:=xo;have hw0:IntKind.i64.wrap ((many:Int)+63)=(many:Int)+63:=IntWalk.i64_in _ xo;have hw1:IntKind.i64.wrap (nw:Int)=(nw:Int):=IntWalk.i64_in _ xo;have hw2:IntKind.i64.wrap (nc:Int)=(nc:Int):=IntWalk.i64_in _ xo;go_enter Tryz.func184,Tryz.ntmps184
 go_wp2_with fail
 refine (FT.out _).mono ?_;rintro e w' ⟨rfl,rfl⟩;go_wp2
 generalize hwz:w.alloc _=wz;have a_:wz.cell? ⟨w.heap.size,0,none⟩=some (.int .i64 0):=by rw [<-hwz];(exact dC)
 have bQ:wz.frozen? ⟨w.heap.size,0,none⟩=false:=by rw [<-hwz];(exact dC)
 have aZ:wz.cell? ⟨w.heap.size,1,none⟩=some (.slice none 0 0):=by rw [<-hwz];(exact dC)
 have bP:wz.frozen? ⟨w.heap.size,1,none⟩=false:=by rw [<-hwz];(exact dC)
 have bf:wz.cell? ⟨w.heap.size,2,none⟩=some (.slice none 0 0):=by rw [<-hwz];(exact dC)
 have bT:wz.frozen? ⟨w.heap.size,2,none⟩=false:=by rw [<-hwz];(exact dC)
 have dh:wz.cell? ⟨w.heap.size,3,none⟩=some (.slice none 0 0):=by rw [<-hwz];(exact dC)
 have dQ:wz.frozen? ⟨w.heap.size,3,none⟩=false:=by rw [<-hwz];(exact dC)
 have df:wz.cell? ⟨w.heap.size,4,none⟩=some (.slice none 0 0):=by rw [<-hwz];(exact dC)
 have dP:wz.frozen? ⟨w.heap.size,4,none⟩=false:=by rw [<-hwz];(exact dC)
 have cZ:wz.cell? ⟨w.heap.size,5,none⟩=some (.int .u64 0):=by rw [<-hwz];(exact dC)
 have dO:wz.frozen? ⟨w.heap.size,5,none⟩=false:=by rw [<-hwz];(exact dC)
 have bW:w.heap.size<wz.heap.size:=by rw [<-hwz];(exact gW)
 have HS:Hid (Below w.heap.size w wz):=by rw [<-hwz];exact hid (br.alloc (Nat.le_refl _) _)
 have hz:w.heap.size+1=wz.heap.size:=by rw [<-hwz];simp
 clear hwz;refine di 14 xk (N:=25) rfl xk xk au (fun w'=>Below wz.heap.size wz w') RB (gU [.is (.int .i64 ai),.is (.int .i64 many),.is (.int .i64 ((many:Int)+63)),.is (.int .i64 nw),.own wz.heap.size 27 nw ((List.replicate nw (0:Int)).map (Value.int .u64)),.is (.int .i64 many),.own wz.heap.size 2 many ((List.replicate many (0:Int)).map (Value.int .i64)),.is (.int .i64 many),.own wz.heap.size 2 many ((List.replicate many (0:Int)).map (Value.int .i64)),.is (.int .i64 many),.is (.int .i64 ai),.is (.int .i64 nc),.own wz.heap.size 3 nc ((List.replicate nc (0:Int)).map (Value.int .i64)),.sl wz.heap.size (iF ai many nw nc)]) (dA _) br.drew ?steps ?fin
 case steps=>
  refine ⟨?o0,?o1,?o2,?o3,?o4,?o5,?o6,?o7,?o8,?o9,?o10,?o11,?o12,?o13,trivial⟩<;>intro u a w' ev hJ hd K hK
  case o0=>
   have e0:tg a 0= .int .i64 ai:=ev 0 au;have HK:=hid hK;clear hK ev hd;go_simp;exact HK.out _ _ aS hJ rfl br
  case o1=>
   have e1:tg a 1= .int .i64 many:=ev 1 au;have HK:=hid hK;clear hK ev hd;go_simp;exact HK.out _ _ aS hJ rfl br
  case o2=>
   have e12:tg a 12= .int .i64 many:=(ev 12 au).trans (hd 1 _ xk rfl);have HK:=hid hK;clear hK ev hd;go_simp;exact HK.out _ _ aS hJ rfl br
  case o3=>
   have e13:tg a 13= .int .i64 ((many:Int)+63):=(ev 13 au).trans (hd 2 _ xk rfl);have HK:=hid hK;clear hK ev hd;go_simp;exact HK.out _ _ aS hJ rfl br
  case o4=>
   have e14:tg a 14= .int .i64 nw:=(ev 14 au).trans (hd 3 _ xk rfl);exact vC (.tmp 14) (.tmp 14) 24 27 _ 1 8 Tryz.underlying24 G8 au wz.heap.size nw _ rfl xo hJ.size rfl e14 e14 (fun g w'' k1 k2 k3=>hK _ _ aS (hJ.trans (k3.mono hJ.size)) ⟨g,rfl,by rw [vU] at k2;exact k2⟩ k3)
  case o5=>
   have e1:tg a 1= .int .i64 many:=ev 1 au;have HK:=hid hK;clear hK ev hd;go_simp;exact HK.out _ _ aS hJ rfl br
  case o6=>
   have e16:tg a 16= .int .i64 many:=(ev 16 au).trans (hd 5 _ xk rfl);exact vC (.tmp 16) (.tmp 16) 25 2 _ 1 8 Tryz.underlying25 zW au wz.heap.size many _ rfl xo hJ.size rfl e16 e16 (fun g w'' k1 k2 k3=>hK _ _ aS (hJ.trans (k3.mono hJ.size)) ⟨g,rfl,by rw [vU] at k2;exact k2⟩ k3)
  case o7=>
   have e1:tg a 1= .int .i64 many:=ev 1 au;have HK:=hid hK;clear hK ev hd;go_simp;exact HK.out _ _ aS hJ rfl br
  case o8=>
   have e18:tg a 18= .int .i64 many:=(ev 18 au).trans (hd 7 _ xk rfl);exact vC (.tmp 18) (.tmp 18) 25 2 _ 1 8 Tryz.underlying25 zW au wz.heap.size many _ rfl xo hJ.size rfl e18 e18 (fun g w'' k1 k2 k3=>hK _ _ aS (hJ.trans (k3.mono hJ.size)) ⟨g,rfl,by rw [vU] at k2;exact k2⟩ k3)
  case o9=>
   have e1:tg a 1= .int .i64 many:=ev 1 au;have HK:=hid hK;clear hK ev hd;go_simp;exact HK.out _ _ aS hJ rfl br
  case o10=>
   have e0:tg a 0= .int .i64 ai:=ev 0 au;have HK:=hid hK;clear hK ev hd;go_simp;exact HK.out _ _ aS hJ rfl br
  case o11=>
   have e20:tg a 20= .int .i64 many:=(ev 20 au).trans (hd 9 _ xk rfl);have e21:tg a 21= .int .i64 ai:=(ev 21 au).trans (hd 10 _ xk rfl);have HK:=hid hK;clear hK ev hd;go_simp;exact HK.out _ _ aS hJ rfl br
  case o12=>
   have e22:tg a 22= .int .i64 nc:=(ev 22 au).trans (hd 11 _ xk rfl);exact vC (.tmp 22) (.tmp 22) 26 3 _ 1 8 Tryz.underlying26 SA au wz.heap.size nc _ rfl xo hJ.size rfl e22 e22 (fun g w'' k1 k2 k3=>hK _ _ aS (hJ.trans (k3.mono hJ.size)) ⟨g,rfl,by rw [vU] at k2;exact k2⟩ k3)
  case o13=>
   have h11:u 11= .int .i64 ai:=hd 0 _ xk rfl;obtain ⟨g15,h15,PX⟩:(dN.own wz.heap.size 27 nw ((List.replicate nw (0:Int)).map (Value.int .u64))).holds (u 15) w':=hd 4 _ xk rfl;obtain ⟨g17,h17,Uj⟩:(dN.own wz.heap.size 2 many ((List.replicate many (0:Int)).map (Value.int .i64))).holds (u 17) w':=hd 6 _ xk rfl;obtain ⟨g19,h19,o19⟩:(dN.own wz.heap.size 2 many ((List.replicate many (0:Int)).map (Value.int .i64))).holds (u 19) w':=hd 8 _ xk rfl;obtain ⟨g23,h23,o23⟩:(dN.own wz.heap.size 3 nc ((List.replicate nc (0:Int)).map (Value.int .i64))).holds (u 23) w':=hd 12 _ xk rfl;have f11:a.tmps[11]?.getD undef= .int .i64 ai:=by rw [<-Array.getD_eq_getD_getElem?];exact (ev 11 au).trans h11
   have f15:a.tmps[15]?.getD undef= .slice (some ⟨g15,0,none⟩) nw nw:=by rw [<-Array.getD_eq_getD_getElem?];exact (ev 15 au).trans h15
   have f17:a.tmps[17]?.getD undef= .slice (some ⟨g17,0,none⟩) many many:=by rw [<-Array.getD_eq_getD_getElem?];exact (ev 17 au).trans h17
   have f19:a.tmps[19]?.getD undef= .slice (some ⟨g19,0,none⟩) many many:=by rw [<-Array.getD_eq_getD_getElem?];exact (ev 19 au).trans h19
   have f23:a.tmps[23]?.getD undef= .slice (some ⟨g23,0,none⟩) nc nc:=by rw [<-Array.getD_eq_getD_getElem?];exact (ev 23 au).trans h23
   have HK:=hid hK;have O15:=hid PX;have O17:=hid Uj;have O19:=hid o19;have O23:=hid o23;clear hK ev hd h11 h15 h17 h19 h23 PX Uj o19 o23;go_simp;exact HK.out _ _ aS hJ ⟨_,_,_,_,rfl,by simpa [iF] using O15.out,by simpa [iF] using O17.out,by simpa [iF] using O19.out,by simpa [iF] using O23.out⟩ br
 case fin=>
  intro u w2 hJ hG;obtain ⟨v1,v2,v3,v4,h24,p1,p2,p3,p4⟩:(dN.sl wz.heap.size (iF ai many nw nc)).holds (u 24) w2:=hG 13 _ rfl;obtain ⟨a1,c1,rfl,-⟩:=aG p1;obtain ⟨a2,c2,rfl,-⟩:=aG p2;obtain ⟨a3,c3,rfl,-⟩:=aG p3;obtain ⟨a4,c4,rfl,-⟩:=aG p4;have Ls:=hid p1;have HP2:=hid p2;have Iw:=hid p3;have Lr:=hid p4;have fH:=hJ.size;replace a_:w2.cell? ⟨w.heap.size,0,none⟩=some (.int .i64 0):=rW hJ gW dL;replace bQ:w2.frozen? ⟨w.heap.size,0,none⟩=false:=IL hJ gW dL;replace aZ:w2.cell? ⟨w.heap.size,1,none⟩=some (.slice none 0 0):=rW hJ gW dL;replace bP:w2.frozen? ⟨w.heap.size,1,none⟩=false:=IL hJ gW dL;replace bf:w2.cell? ⟨w.heap.size,2,none⟩=some (.slice none 0 0):=rW hJ gW dL;replace bT:w2.frozen? ⟨w.heap.size,2,none⟩=false:=IL hJ gW dL;replace dh:w2.cell? ⟨w.heap.size,3,none⟩=some (.slice none 0 0):=rW hJ gW dL;replace dQ:w2.frozen? ⟨w.heap.size,3,none⟩=false:=IL hJ gW dL;replace df:w2.cell? ⟨w.heap.size,4,none⟩=some (.slice none 0 0):=rW hJ gW dL;replace dP:w2.frozen? ⟨w.heap.size,4,none⟩=false:=IL hJ gW dL;replace cZ:w2.cell? ⟨w.heap.size,5,none⟩=some (.int .u64 0):=rW hJ gW dL;replace dO:w2.frozen? ⟨w.heap.size,5,none⟩=false:=IL hJ gW dL;replace bW:w.heap.size<w2.heap.size:=xo;have hB2:Below w.heap.size w w2:=aj hJ HS.out xo;clear hG p1 p2 p3 p4 hJ;simp only [aX,kR,dstsOf,List.take_succ_cons,List.take_zero,List.filterMap_cons,List.filterMap_nil,List.contains_cons,List.contains_nil,Nat.reduceBEq,Bool.or_false,Bool.false_or,Bool.or_true,Bool.true_or,if_true,if_false,Bool.false_eq_true,Nat.reduceAdd,Nat.zero_add,List.drop_succ_cons,List.drop_zero,h24];go_wp2
  have HQ:Hid (∀q,w.heap.size+1<=q->((((((w2.setCell ⟨w.heap.size,0,none⟩ (.int .i64 (iF ai many nw nc).ai)).setCell ⟨w.heap.size,1,none⟩ (.slice a1 (iF ai many nw nc).ws.length c1)).setCell ⟨w.heap.size,2,none⟩ (.slice a2 (iF ai many nw nc).ks.length c2)).setCell ⟨w.heap.size,3,none⟩ (.slice a3 (iF ai many nw nc).vs.length c3)).setCell ⟨w.heap.size,4,none⟩ (.slice a4 (iF ai many nw nc).cs.length c4)).setCell ⟨w.heap.size,5,none⟩ (.int .u64 (iF ai many nw nc).laid)).heap[q]? =w2.heap[q]?):=hid fun q hq=>by
   rw [ae _ _ _ dG,ae _ _ _ dG,ae _ _ _ dG,ae _ _ _ dG,ae _ _ _ dG,ae _ _ _ dG]
  refine bodyPost_ret (aF rfl rfl (ag _ Tryz.underlying29 rfl xk (tH a_ aZ bf dh df cZ))) rfl ⟨_,_,_,_,rfl,?_,?_,?_,?_,?_⟩
  . exact az (af Ls.out fun j hj=>HQ.out j (by have:=(Ls.out.lt j hj).1;omega)) xo
  . exact az (af HP2.out fun j hj=>HQ.out j (by have:=(HP2.out.lt j hj).1;omega)) xo
  . exact az (af Iw.out fun j hj=>HQ.out j (by have:=(Iw.out.lt j hj).1;omega)) xo
  . exact az (af Lr.out fun j hj=>HQ.out j (by have:=(Lr.out.lt j hj).1;omega)) xo
  . exact (((((hB2.setCell dG _).setCell dG _).setCell dG _).setCell dG _).setCell dG _).setCell dG _
end
section
open Go.RowKit
section
variable {P:Program} {ops:Array Oper} {Q:Exit->Act->World->Prop}
def wu (u:Nat->Value) (o:Oper) (v:Value):Nat->Value:=match o.dst with|some d=>fun t=>if t=d then v else u t|none=>u
def Qy (P:Program) (ops:Array Oper) (Q:Exit->Act->World->Prop) (D:List Nat) (t0:Array Value) (n:Nat) (ds:List Deferred) (J:World->Prop) (Ext:World->World->Prop) (G:Nat->(Nat->Value)->World->Prop) (k:Nat) (o:Oper):Prop:=
  ∀ (u:Nat->Value) (a:Act) (w:World),(∀t,t<n->a.tmps.getD t undef=wO D u t0 t)->J w->
    (∀(j:Nat) (p:Oper),(o.after.any fun e=>Region.binds .any e&&e.on==j)=true->ops[j]? =some p->G j u w)->
    ∀K:Act->World->Prop,(∀v w',(o.dst=none->v=undef)->J w'->G k (wu u o v) w'->Ext w w'->K (a.put o.dst v) w')->Oper.wp P o a w K Q
def DU (P:Program) (ops:Array Oper) (Q:Exit->Act->World->Prop) (D:List Nat) (t0:Array Value) (n:Nat) (ds:List Deferred) (J:World->Prop) (Ext:World->World->Prop) (G:Nat->(Nat->Value)->World->Prop):Nat->List Oper->Prop
  | _,[]=>True
  | k,o::rest=>Qy P ops Q D t0 n ds J Ext G k o/\DU P ops Q D t0 n ds J Ext G (k+1) rest
theorem DU.at {D:List Nat} {t0:Array Value} {n:Nat} {ds:List Deferred} {J:World->Prop} {Ext:World->World->Prop} {G:Nat->(Nat->Value)->World->Prop}:∀ {l:List Oper} {k:Nat},DU P ops Q D t0 n ds J Ext G k l->∀ {i:Nat} {o:Oper},l[i]? =some o->Qy P ops Q D t0 n ds J Ext G (k+i) o
  | [],_,_,i,o,ho=>by simp at ho
  | x::rest,k,h,0,o,ho=>by simp at ho;subst ho;exact h.1
  | x::rest,k,h,i+1,o,ho=>by
   have:=DU.at h.2 (i:=i) (o:=o) (by simpa using ho);rwa [Nat.add_assoc,Nat.add_comm 1 i] at this
theorem D8 {id:Nat} {l:List Oper} {t0:Array Value} {ds:List Deferred} {w0:World} {N:Nat} (n:Nat) (hm:P.follows .mixedOrders=true) (hn:t0.size=N) (hB:vN (l.take n) N=true) (hT:EL l n=true) (hle:n<=l.length)
    (J:World->Prop) (Ext:World->World->Prop) (G:Nat->(Nat->Value)->World->Prop) (hst:∀k x w w',Ext w w'->G k x w->G k x w') (abT:∀(k:Nat) (u u':Nat->Value) (w:World),(∀(j:Nat) (p o:Oper),l[j]? =some p->l[k]? =some o->(j=k\/(o.after.any fun e=>Region.binds .any e&&e.on==j)=true)->valOf u' p=valOf u p)->G k u w->G k u' w) (hJ:J w0.drew)
    (hop:DU P l.toArray Q (dstsOf (l.take n)) t0 N ds J Ext G 0 (l.take n))
    (hdone:∀(u:Nat->Value) (w:World),J w->(∀(k:Nat) (o:Oper),(l.take n)[k]? =some o->G k u w)->wpList P l.toArray Q (l.drop n) {tmps:=aX (dstsOf (l.take n)) u t0,defers:=ds} w):
    (Code.region id l.toArray true).wp P Q {tmps:=t0,defers:=ds} w0:=by
 subst hn;simp only [vN,Bool.and_eq_true,List.all_eq_true,decide_eq_true_eq] at hB;obtain ⟨⟨⟨hnd,hlt⟩,hgd⟩,hac⟩:=hB;simp only [EL,List.all_eq_true,List.mem_range,Bool.or_eq_true,decide_eq_true_eq] at hT;have htk:∀ {k:Nat} {o:Oper},(l.take n)[k]? =some o↔k<n/\l[k]? =some o:=by
  intro k o;rw [List.getElem?_take];by_cases h:k<n
  . rw [if_pos h];exact ⟨fun h1=>⟨h,h1⟩,fun h1=>h1.2⟩
  . rw [if_neg h];exact ⟨fun h1=>(by cases h1),fun h1=>absurd h1.1 h⟩
 refine wp_region_any hm (wU (ops:=l.toArray)
   (fun L a w=>((∀i,n<=i->L.getD i false=false)/\∃u:Nat->Value,a= {tmps:=aX (dstsOf (l.take n)) u t0,defers:=ds}/\J w/\∀(k:Nat) (o:Oper),(l.take n)[k]? =some o->L.getD k false=true->G k u w) \/
     (∃m,n<=m/\m<=l.length/\(∀i,i<m->L.getD i false=true)/\(∀i,m<=i->L.getD i false=false)/\wpList P l.toArray Q (l.drop m) a w))
   ?_ ?_ ?_ _ _ _ _ ax (su _ _) (fun j p hp hj=>by simp [Array.getD] at hj) (.inl ⟨fun i _=>by rw [List.size_toArray];simp [Array.getD],fun t=>t0.getD t undef,by rw [kS],hJ,fun k o _ h=> ?_⟩))
 . intro i o ho e he hb;have hi:i<l.length:=(Array.getElem?_eq_some_iff.1 ho).1;rw [List.getElem?_toArray] at ho;by_cases hin:i<n
   . have h1:(l.take n)[i]? =some o:=htk.2 ⟨hin,ho⟩;have:=hac i (List.mem_range.2 (List.getElem?_eq_some_iff.1 h1).1);rw [h1] at this;have h2:=Array.all_eq_true_iff_forall_mem.1 this e he;rw [hb] at h2;simpa using h2
   . have h1:=hT i hi;rcases h1 with h1|h1
     . omega
     . rw [ho] at h1;simp only [Bool.and_eq_true] at h1;have h2:=Array.all_eq_true_iff_forall_mem.1 h1.2 e he;rw [hb] at h2;simpa using h2
 . rintro L a w i o hs ho hi hall hcl hI;rw [List.getElem?_toArray] at ho;have hil:i<l.length:=(List.getElem?_eq_some_iff.1 ho).1;have hilt:i<L.size:=by rw [hs];simpa using hil
   have ahead:n<=i->∀j,j<i->L.getD j false=true:=by
    intro hin j hj;have h1:=hT i hil;rcases h1 with h1|h1
    . omega
    . simp only [Bool.and_eq_true,decide_eq_true_eq] at h1;have hbit:((oD l []).getD i 0).testBit j=true:=by
       have h2:=congrArg (fun m=>Nat.testBit m j) h1.1;simp only [Nat.testBit_mod_two_pow,Nat.testBit_two_pow_sub_one,decide_eq_true hj,Bool.true_and] at h2;exact h2
      exact qX hcl l [] 0 rfl (fun j=>by rw [Nat.zero_add]) (fun i hi=>by omega) i o ho hall j hbit
   have later:∀(m:Nat),n<=m->m=i->(∀j,m<=j->L.getD j false=false)->(∀j,j<m->L.getD j false=true)->wpList P l.toArray Q (l.drop m) a w->
       wpOp P l.toArray Q i (fun a' w'=>((∀k,n<=k->(L.setIfInBounds i true).getD k false=false)/\∃u:Nat->Value,a'= {tmps:=aX (dstsOf (l.take n)) u t0,defers:=ds}/\J w'/\∀(k:Nat) (o:Oper),(l.take n)[k]? =some o->(L.setIfInBounds i true).getD k false=true->G k u w') \/
         (∃m,n<=m/\m<=l.length/\(∀k,k<m->(L.setIfInBounds i true).getD k false=true)/\(∀k,m<=k->(L.setIfInBounds i true).getD k false=false)/\wpList P l.toArray Q (l.drop m) a' w')) a w:=by
    rintro m hnm rfl hno hyes hw;refine wpOp_mono (fun a' w' h=> .inr ⟨m+1,by omega,by omega,fun k hk=> ?_,fun k hk=> ?_,h⟩) (pG ho hw)
    . by_cases e:k=m
      . subst e;exact qm hilt
      . rw [dF e];exact hyes k xo
    . rw [dF xo];exact hno k xo
   rcases hI with ⟨hno,u,rfl,hJw,hG⟩ | ⟨m,hnm,hml,hyes,hno,hw⟩
   . by_cases hin:i<n
     . have nz:(l.take n)[i]? =some o:=htk.2 ⟨hin,ho⟩;have hok:=hop.at nz;rw [Nat.zero_add] at hok;have hg:o.guard=none:=by
        have:=hgd o (List.mem_of_getElem? nz);cases hx:o.guard with
        | none=>rfl
        | some x=>rw [hx] at this;cases this
       unfold wpOp;simp only [List.getElem?_toArray,ho];rw [if_pos (by simp [Region.wanted,hg])];left;refine hok u _ w (fun t ht=>iU ht) hJw (fun j p hj hp=> ?_) _ (fun v w' hv hJ' hG' hE=> .inl ⟨fun k hk=>by rw [dF xo];exact hno k hk,?_⟩)
       . rw [List.getElem?_toArray] at hp;obtain ⟨e,he,hbe⟩:=Array.any_eq_true.1 hj;simp only [Bool.and_eq_true,beq_iff_eq] at hbe;have hl:=hall _ (Array.getElem_mem he) hbe.1;rw [hbe.2] at hl;have hjn:j<n:=by
          by_cases h:j<n
          . exact h
          . rw [hno j xo] at hl;cases hl
         exact hG j p (htk.2 ⟨hjn,hp⟩) hl
       . cases hd:o.dst with
         | none=>
          refine ⟨u,rfl,hJ',fun k p hp hk=> ?_⟩;by_cases e:k=i
          . subst e;have:=hG';unfold wu at this;rw [hd] at this;exact this
          . rw [dF e] at hk;exact hst _ _ _ _ hE (hG k p hp hk)
         | some d=>
          have hdm:(dstsOf (l.take n)).contains d=true:=by
           simp only [List.contains_iff_mem];exact List.mem_filterMap.2 ⟨o,List.mem_of_getElem? nz,hd⟩
          refine ⟨fun t=>if t=d then v else u t,by simp only [Act.put,ng hdm],hJ',fun k p hp hk=> ?_⟩;by_cases e:k=i
          . subst e;have:=hG';unfold wu at this;rw [hd] at this;exact this
          . rw [dF e] at hk;refine hst _ _ _ _ hE (abT k u _ w (fun j p' o' hj ho' hor=> ?_) (hG k p hp hk));have hjl:L.getD j false=true:=by
             rcases hor with rfl|hor
             . exact hk
             . obtain ⟨e',he',hbe⟩:=Array.any_eq_true.1 hor;simp only [Bool.and_eq_true,beq_iff_eq] at hbe;have:=hcl k o' (by rw [List.getElem?_toArray];exact ho') hk _ (Array.getElem_mem he') hbe.1;rw [hbe.2] at this;exact this
            have hji:j≠i:=fun h=>by rw [h,hi] at hjl;cases hjl
            have hjn:j<n:=by
             by_cases h:j<n
             . exact h
             . rw [hno j xo] at hjl;cases hjl
            have hne:=qy hnd nz (htk.2 ⟨hjn,hj⟩) (fun h=>hji h.symm) hd;unfold valOf;cases hpd:p'.dst with
            | none=>rfl
            | some d'=>exact if_neg (fun h=>hne (by rw [hpd,h]))
     . have hin':n=i:=by
         by_cases e:n=i
         . exact e
         . have:=ahead xo n xo;rw [hno n (Nat.le_refl _)] at this;cases this
       refine later n (Nat.le_refl _) hin' hno (fun j hj=>ahead xo j xo) (hdone u w hJw fun k p hp=>hG k p hp (ahead xo k ?_));have:=(htk.1 hp).1;omega
   . have him:m<=i:=by
       by_cases h:m<=i
       . exact h
       . have:=hyes i xo;rw [hi] at this;cases this
     have Qd:m=i:=by
      by_cases e:m=i
      . exact e
      . have:=ahead xo m xo;rw [hno m (Nat.le_refl _)] at this;cases this
     exact later m hnm Qd hno hyes hw
 . rintro L a w hs hall hI;rw [List.size_toArray] at hall;rcases hI with ⟨hno,u,rfl,hJw,hG⟩ | ⟨m,hnm,hml,hyes,hno,hw⟩
   . have hnl:n=l.length:=by
       by_cases e:n=l.length
       . exact e
       . have:=hall n xo;rw [hno n (Nat.le_refl _)] at this;cases this
     have hq:=hdone u w hJw fun k p hp=>hG k p hp (hall k (by have:=(htk.1 hp).1;omega))
     have hd:l.drop n=[]:=by rw [hnl];exact List.drop_length
     rw [hd] at hq;exact hq
   . have Ha:m=l.length:=by
       by_cases e:m=l.length
       . exact e
       . have:=hall m xo;rw [hno m (Nat.le_refl _)] at this;cases this
     rw [Ha,List.drop_length] at hw;exact hw
 . rw [List.size_toArray] at h;simp [Array.getD] at h
end
end
section
open Go.RowKit Go.Shelf
attribute [local go_sem] Oper.semAt_some
theorem G7:(Tryz.prog.info? 27).map (fun i=>(i.zero,i.size,i.bytes))=some (some (.int .u64 0),1,8):=by kernel_rfl
theorem IC (ga:Option Addr) (gc:Nat) (xs:List Int) (w:World) (hg:aQ .u64 w ga xs) (hl:xs.length<=100000):
    Calls Tryz.prog 157 #[.slice ga xs.length gc] w (yB .u64 27 w xs):=by
 have q22:∀(w:World) (a:Option Addr) (n c n' c':Nat),(binOp .eql 24 (.slice a n c) (.slice none n' c')).run Tryz.prog w= .ok (.bool a.isNone) w:=fun w a n c n' c'=>Lib.run_eql_slice_nil w _ _ a n c n' c' Tryz.underlying24
 have HG:=hid hg;clear hg;cases ga with
 | none=>
  have hx:xs=[]:=Cf HG.out;subst hx;go_enter Tryz.func157,Tryz.ntmps157
  go_wp2
  go_ret
  exact ⟨_,rfl,World.ownsRow_nil _ _ _ _,Below.refl _ _⟩
 | some a=>
  have HN:=hid (xH HG.out);go_enter Tryz.func157,Tryz.ntmps157
  go_wp2_with (at_builtin;refine nU (.tmp 5) (.tmp 6) 24 27 (.int .u64 0) 1 8 Tryz.underlying24 G7 rfl au au w.heap.size _ 0 [] (some a) xs.length gc (xs.map (Value.int .u64)) (World.ownsRow_made w #[] 0 (Nat.le_refl _) (Nat.zero_le _) rfl) ax aS (fun ad h j u hj=>Lib.cell?_alloc_some _ (HN.out ad h j u hj)) (numCells _) xo ax rfl rfl rfl rfl ?_;intro v' w1 hown hgrow _)
  go_wp2
  go_ret
  refine ⟨v',rfl,by simpa using hown,?_⟩;exact ((Below.refl _ w).alloc (Nat.le_refl _) _).grown hgrow ax (by intro k hk;simp [Value.ownBlock] at hk;omega)
def dN.row (base:Nat) (e:TypeId) (n:Nat) (xs:List Value):dN RB:=⟨fun v w=>w.ownsRow base e 1 v n xs,fun _ _ _ h k=>ay k h⟩
def Jp (ds:List Nat) (fs:List (dN RB)) (k:Nat) (u:Nat->Value) (w:World):Prop:=gU fs k (u (ds.getD k 0)) w/\(k=8->∀p q,(u 8).ownBlock=some p->(u 11).ownBlock=some q->p≠q)
theorem Jo (ds:List Nat) (fs:List (dN RB)) (k:Nat) (u:Nat->Value) (w w':World) (h:RB w w'):Jp ds fs k u w->Jp ds fs k u w':=fun ⟨h1,h2⟩=>⟨dA fs k _ w w' h h1,h2⟩
theorem Rk {l:List Oper} (ds:List Nat) (fs:List (dN RB)) (h:(List.range l.length).all (fun k=>match l[k]? with|some o=>decide (13<=k)||o.dst==some (ds.getD k 0)|none=>true)=true)
    (h8:(match l[8]?,l[5]? with|some o,some p=>o.dst==some 11&&p.dst==some 8&&(o.after.any fun e=>Region.binds .any e&&e.on==5)|_,_=>false)=true) (hfs:fs.length<=13) (hll:13<=l.length):
    ∀(k:Nat) (u u':Nat->Value) (w:World),(∀(j:Nat) (p o:Oper),l[j]? =some p->l[k]? =some o->(j=k\/(o.after.any fun e=>Region.binds .any e&&e.on==j)=true)->valOf u' p=valOf u p)->Jp ds fs k u w->Jp ds fs k u' w:=by
 intro k u u' w hv hg;refine ⟨?_,?_⟩
 . by_cases hk:13<=k
   . have e:gU fs k=fun _ _=>True:=by funext v x;unfold gU;rw [List.getD_eq_getElem?_getD,List.getElem?_eq_none xo];rfl
     rw [e];trivial
   . by_cases hl:k<l.length
     . have h1:=List.all_eq_true.1 h k (List.mem_range.2 hl);have ho:l[k]? =some l[k]:=List.getElem?_eq_getElem hl;rw [ho] at h1;simp only [Bool.or_eq_true,decide_eq_true_eq,beq_iff_eq] at h1;have h2:=h1.resolve_left hk;have h3:=hv k _ _ ho ho (.inl rfl);simp only [valOf,h2] at h3;rw [h3];exact hg.1
     . omega
 . rintro rfl p q hp hq;cases ho:l[8]? with
   | none=>rw [ho] at h8;cases h8
   | some o=>
    cases hp5:l[5]? with
    | none=>rw [ho,hp5] at h8;cases h8
    | some p5=>
     rw [ho,hp5] at h8;simp only [Bool.and_eq_true,beq_iff_eq] at h8;have e1:=hv 8 _ _ ho ho (.inl rfl);have e2:=hv 5 _ _ hp5 ho (.inr h8.2);simp only [valOf,h8.1.1,h8.1.2] at e1 e2;rw [e1] at hq;rw [e2] at hp;exact hg.2 rfl p q hp hq
theorem yK (c:aW) (a:jJ) (w:World) (hin:iy w c a) (hl1:c.ws.length<=100000) (hl2:c.ks.length<=100000) (hl3:c.vs.length<=100000) (hl4:c.cs.length<=100000):
    Calls Tryz.prog 85 #[jB c a] w (vk w c):=by
 have C1:=hid (fun W (hb:Below w.heap.size w W)=>IC a.wa a.wc c.ws W (hin.w.below hb) hl1);have C2:=hid (fun W (hb:Below w.heap.size w W)=>vz a.ka a.kc c.ks W (hin.k.below hb) hl2);have C3:=hid (fun W (hb:Below w.heap.size w W)=>vz a.va a.vc c.vs W (hin.v.below hb) hl3);have C4:=hid (fun W (hb:Below w.heap.size w W)=>F9 a.ca a.cc c.cs W (hin.n.below hb) hl4);obtain ⟨ai,ws,ks,vs,cs,laid⟩:=c;obtain ⟨wa,ka,va,ca,wc,kc,vc,cc⟩:=a;dsimp only [jB,vk,yB] at *;obtain ⟨lw,hw⟩:∃n,ws.length=n:=⟨_,rfl⟩
 obtain ⟨lk,hk⟩:∃n,ks.length=n:=⟨_,rfl⟩
 obtain ⟨lv,hv⟩:∃n,vs.length=n:=⟨_,rfl⟩
 obtain ⟨lc,hc⟩:∃n,cs.length=n:=⟨_,rfl⟩
 rw [hw] at C1 ⊢;rw [hk] at C2 ⊢;rw [hv] at C3 ⊢;rw [hc] at C4 ⊢;have HL1:=hid hw;have HL2:=hid hk;have HL3:=hid hv;have HL4:=hid hc;clear hw hk hv hc hin hl1 hl2 hl3 hl4;go_enter Tryz.func85,Tryz.ntmps85
 go_wp2
 generalize hwz:(w.alloc _).alloc _=wz;have aO:wz.cell? ⟨w.heap.size,0,none⟩=some (.int .i64 ai):=by rw [<-hwz];(exact dC)
 have aek:wz.frozen? ⟨w.heap.size,0,none⟩=false:=by rw [<-hwz];(exact dC)
 have aN:wz.cell? ⟨w.heap.size,1,none⟩=some (.slice wa lw wc):=by rw [<-hwz];(exact dC)
 have aej:wz.frozen? ⟨w.heap.size,1,none⟩=false:=by rw [<-hwz];(exact dC)
 have aK:wz.cell? ⟨w.heap.size,2,none⟩=some (.slice ka lk kc):=by rw [<-hwz];(exact dC)
 have aei:wz.frozen? ⟨w.heap.size,2,none⟩=false:=by rw [<-hwz];(exact dC)
 have aU:wz.cell? ⟨w.heap.size,3,none⟩=some (.slice va lv vc):=by rw [<-hwz];(exact dC)
 have aeh:wz.frozen? ⟨w.heap.size,3,none⟩=false:=by rw [<-hwz];(exact dC)
 have aT:wz.cell? ⟨w.heap.size,4,none⟩=some (.slice ca lc cc):=by rw [<-hwz];(exact dC)
 have aeg:wz.frozen? ⟨w.heap.size,4,none⟩=false:=by rw [<-hwz];(exact dC)
 have aV:wz.cell? ⟨w.heap.size,5,none⟩=some (.int .u64 laid):=by rw [<-hwz];(exact dC)
 have aef:wz.frozen? ⟨w.heap.size,5,none⟩=false:=by rw [<-hwz];(exact dC)
 have bF:w.heap.size<wz.heap.size:=by rw [<-hwz];(exact gW)
 have a_:wz.cell? ⟨w.heap.size+1,0,none⟩=some (.int .i64 0):=by rw [<-hwz];(exact dC)
 have bQ:wz.frozen? ⟨w.heap.size+1,0,none⟩=false:=by rw [<-hwz];(exact dC)
 have aZ:wz.cell? ⟨w.heap.size+1,1,none⟩=some (.slice none 0 0):=by rw [<-hwz];(exact dC)
 have bP:wz.frozen? ⟨w.heap.size+1,1,none⟩=false:=by rw [<-hwz];(exact dC)
 have bf:wz.cell? ⟨w.heap.size+1,2,none⟩=some (.slice none 0 0):=by rw [<-hwz];(exact dC)
 have bT:wz.frozen? ⟨w.heap.size+1,2,none⟩=false:=by rw [<-hwz];(exact dC)
 have dh:wz.cell? ⟨w.heap.size+1,3,none⟩=some (.slice none 0 0):=by rw [<-hwz];(exact dC)
 have dQ:wz.frozen? ⟨w.heap.size+1,3,none⟩=false:=by rw [<-hwz];(exact dC)
 have df:wz.cell? ⟨w.heap.size+1,4,none⟩=some (.slice none 0 0):=by rw [<-hwz];(exact dC)
 have dP:wz.frozen? ⟨w.heap.size+1,4,none⟩=false:=by rw [<-hwz];(exact dC)
 have cZ:wz.cell? ⟨w.heap.size+1,5,none⟩=some (.int .u64 0):=by rw [<-hwz];(exact dC)
 have dO:wz.frozen? ⟨w.heap.size+1,5,none⟩=false:=by rw [<-hwz];(exact dC)
 have bW:w.heap.size+1<wz.heap.size:=by rw [<-hwz];(exact gW)
 have HS:Hid (Below w.heap.size w wz):=by rw [<-hwz];exact hid ((br.alloc (Nat.le_refl _) _).alloc ax _)
 have hz:w.heap.size+2=wz.heap.size:=by rw [<-hwz];simp
 clear hwz;refine D8 13 xk (N:=20) rfl xk xk au (fun w'=>Below wz.heap.size wz w') RB (Jp [3,4,5,6,7,8,9,10,11,12,13,14,15] [.is (.pointer (some ⟨w.heap.size,1,none⟩)),.is (.slice wa lw wc),.row wz.heap.size 27 lw (ws.map (Value.int .u64)),.is (.pointer (some ⟨w.heap.size,2,none⟩)),.is (.slice ka lk kc),.row wz.heap.size 2 lk (ks.map (Value.int .i64)),.is (.pointer (some ⟨w.heap.size,3,none⟩)),.is (.slice va lv vc),.row wz.heap.size 2 lv (vs.map (Value.int .i64)),.is (.pointer (some ⟨w.heap.size,4,none⟩)),.is (.slice ca lc cc),.row wz.heap.size 3 lc (cs.map (Value.int .i64)),.is (.pointer (some ⟨w.heap.size,1,none⟩))]) (Jo _ _) ?dep br.drew ?steps ?fin
 case dep=>
  exact Rk _ _ xk xk (Nat.le_refl 13) au
 case steps=>
  refine ⟨?o0,?o1,?o2,?o3,?o4,?o5,?o6,?o7,?o8,?o9,?o10,?o11,?o12,trivial⟩<;>intro u a w' ev hJ hd K hK
  case o0=>
   have e1:tg a 1= .pointer (some ⟨w.heap.size,0,none⟩):=ev 1 au;have HK:=hid hK;clear hK ev hd;go_simp;exact HK.out _ _ aS hJ ⟨rfl,fun h=>absurd h au⟩ br
  case o1=>
   have e3:tg a 3= .pointer (some ⟨w.heap.size,1,none⟩):=(ev 3 au).trans (hd 0 _ xk rfl).1;have g0:=jb hJ aN;have HK:=hid hK;clear hK ev hd;go_simp;exact HK.out _ _ aS hJ ⟨rfl,fun h=>absurd h au⟩ br
  case o2=>
   have e4:tg a 4= .slice wa lw wc:=(ev 4 au).trans (hd 1 _ xk rfl).1;have HK:=hid hK;have HC:=hid (C1.out w' (aj hJ HS.out xo));have lY:=hJ.size;clear hK ev hd;go_simp;refine HC.out.mono ?_;rintro e w'' ⟨v,rfl,ho,hb⟩;exact HK.out _ _ aS (hJ.trans (hb.mono lY)) ⟨az (HL1.out ▸ ho) lY,fun h=>absurd h au⟩ hb
  case o3=>
   have e1:tg a 1= .pointer (some ⟨w.heap.size,0,none⟩):=ev 1 au;have HK:=hid hK;clear hK ev hd;go_simp;exact HK.out _ _ aS hJ ⟨rfl,fun h=>absurd h au⟩ br
  case o4=>
   have e6:tg a 6= .pointer (some ⟨w.heap.size,2,none⟩):=(ev 6 au).trans (hd 3 _ xk rfl).1;have g0:=jb hJ aK;have HK:=hid hK;clear hK ev hd;go_simp;exact HK.out _ _ aS hJ ⟨rfl,fun h=>absurd h au⟩ br
  case o5=>
   have e7:tg a 7= .slice ka lk kc:=(ev 7 au).trans (hd 4 _ xk rfl).1;have HK:=hid hK;have HC:=hid (C2.out w' (aj hJ HS.out xo));have lY:=hJ.size;clear hK ev hd;go_simp;refine HC.out.mono ?_;rintro e w'' ⟨v,rfl,ho,hb⟩;exact HK.out _ _ aS (hJ.trans (hb.mono lY)) ⟨az (HL2.out ▸ ho) lY,fun h=>absurd h au⟩ hb
  case o6=>
   have e1:tg a 1= .pointer (some ⟨w.heap.size,0,none⟩):=ev 1 au;have HK:=hid hK;clear hK ev hd;go_simp;exact HK.out _ _ aS hJ ⟨rfl,fun h=>absurd h au⟩ br
  case o7=>
   have e9:tg a 9= .pointer (some ⟨w.heap.size,3,none⟩):=(ev 9 au).trans (hd 6 _ xk rfl).1;have g0:=jb hJ aU;have HK:=hid hK;clear hK ev hd;go_simp;exact HK.out _ _ aS hJ ⟨rfl,fun h=>absurd h au⟩ br
  case o8=>
   have e10:tg a 10= .slice va lv vc:=(ev 10 au).trans (hd 7 _ xk rfl).1;have H5:Hid (w'.ownsRow wz.heap.size 2 1 (u 8) lk (ks.map (Value.int .i64))):=hid (hd 5 _ xk rfl).1;have HK:=hid hK;have HC:=hid (C3.out w' (aj hJ HS.out xo));have lY:=hJ.size;clear hK ev hd;go_simp;refine HC.out.mono ?_;rintro e w'' ⟨v,rfl,ho,hb⟩;exact HK.out _ _ aS (hJ.trans (hb.mono lY)) ⟨az (HL3.out ▸ ho) lY,fun _ p q hp hq=>by have h1:=(H5.out.lt p hp).2;have h2:=(ho.lt q hq).1;omega⟩ hb
  case o9=>
   have e1:tg a 1= .pointer (some ⟨w.heap.size,0,none⟩):=ev 1 au;have HK:=hid hK;clear hK ev hd;go_simp;exact HK.out _ _ aS hJ ⟨rfl,fun h=>absurd h au⟩ br
  case o10=>
   have e12:tg a 12= .pointer (some ⟨w.heap.size,4,none⟩):=(ev 12 au).trans (hd 9 _ xk rfl).1;have g0:=jb hJ aT;have HK:=hid hK;clear hK ev hd;go_simp;exact HK.out _ _ aS hJ ⟨rfl,fun h=>absurd h au⟩ br
  case o11=>
   have e13:tg a 13= .slice ca lc cc:=(ev 13 au).trans (hd 10 _ xk rfl).1;have HK:=hid hK;have HC:=hid (C4.out w' (aj hJ HS.out xo));have lY:=hJ.size;clear hK ev hd;go_simp;refine HC.out.mono ?_;rintro e w'' ⟨v,rfl,ho,hb⟩;exact HK.out _ _ aS (hJ.trans (hb.mono lY)) ⟨az (HL4.out ▸ ho) lY,fun h=>absurd h au⟩ hb
  case o12=>
   have e1:tg a 1= .pointer (some ⟨w.heap.size,0,none⟩):=ev 1 au;have HK:=hid hK;clear hK ev hd;go_simp;exact HK.out _ _ aS hJ ⟨rfl,fun h=>absurd h au⟩ br
 case fin=>
  intro u w2 hJ hG;have h15:u 15= .pointer (some ⟨w.heap.size,1,none⟩):=(hG 12 _ rfl).1;have p1:(dN.row wz.heap.size 27 lw (ws.map (Value.int .u64))).holds (u 5) w2:=(hG 2 _ rfl).1;have p2:(dN.row wz.heap.size 2 lk (ks.map (Value.int .i64))).holds (u 8) w2:=(hG 5 _ rfl).1;have p3:(dN.row wz.heap.size 2 lv (vs.map (Value.int .i64))).holds (u 11) w2:=(hG 8 _ rfl).1;have p4:(dN.row wz.heap.size 3 lc (cs.map (Value.int .i64))).holds (u 14) w2:=(hG 11 _ rfl).1;have hne:∀p q,(u 8).ownBlock=some p->(u 11).ownBlock=some q->p≠q:=(hG 8 _ rfl).2 rfl;obtain ⟨a1,c1,h5,-⟩:=aG p1;obtain ⟨a2,c2,h8,-⟩:=aG p2;obtain ⟨a3,c3,h11,-⟩:=aG p3;obtain ⟨a4,c4,EZ,-⟩:=aG p4;rw [h5] at p1;rw [h8] at p2;rw [h11] at p3;rw [EZ] at p4;rw [h8,h11] at hne;have HNE:=hid hne;clear hne;have Ls:Hid (w2.ownsRow wz.heap.size 27 1 (.slice a1 lw c1) lw (ws.map (Value.int .u64))):=hid p1;have HP2:Hid (w2.ownsRow wz.heap.size 2 1 (.slice a2 lk c2) lk (ks.map (Value.int .i64))):=hid p2;have Iw:Hid (w2.ownsRow wz.heap.size 2 1 (.slice a3 lv c3) lv (vs.map (Value.int .i64))):=hid p3;have Lr:Hid (w2.ownsRow wz.heap.size 3 1 (.slice a4 lc c4) lc (cs.map (Value.int .i64))):=hid p4;have fH:=hJ.size;replace aO:w2.cell? ⟨w.heap.size,0,none⟩=some (.int .i64 ai):=rW hJ gW dL;replace aek:w2.frozen? ⟨w.heap.size,0,none⟩=false:=IL hJ gW dL;replace aN:w2.cell? ⟨w.heap.size,1,none⟩=some (.slice wa lw wc):=rW hJ gW dL;replace aej:w2.frozen? ⟨w.heap.size,1,none⟩=false:=IL hJ gW dL;replace aK:w2.cell? ⟨w.heap.size,2,none⟩=some (.slice ka lk kc):=rW hJ gW dL;replace aei:w2.frozen? ⟨w.heap.size,2,none⟩=false:=IL hJ gW dL;replace aU:w2.cell? ⟨w.heap.size,3,none⟩=some (.slice va lv vc):=rW hJ gW dL;replace aeh:w2.frozen? ⟨w.heap.size,3,none⟩=false:=IL hJ gW dL;replace aT:w2.cell? ⟨w.heap.size,4,none⟩=some (.slice ca lc cc):=rW hJ gW dL;replace aeg:w2.frozen? ⟨w.heap.size,4,none⟩=false:=IL hJ gW dL;replace aV:w2.cell? ⟨w.heap.size,5,none⟩=some (.int .u64 laid):=rW hJ gW dL;replace aef:w2.frozen? ⟨w.heap.size,5,none⟩=false:=IL hJ gW dL;replace bF:w.heap.size<w2.heap.size:=xo;replace a_:w2.cell? ⟨w.heap.size+1,0,none⟩=some (.int .i64 0):=rW hJ gW dL;replace bQ:w2.frozen? ⟨w.heap.size+1,0,none⟩=false:=IL hJ gW dL;replace aZ:w2.cell? ⟨w.heap.size+1,1,none⟩=some (.slice none 0 0):=rW hJ gW dL;replace bP:w2.frozen? ⟨w.heap.size+1,1,none⟩=false:=IL hJ gW dL;replace bf:w2.cell? ⟨w.heap.size+1,2,none⟩=some (.slice none 0 0):=rW hJ gW dL;replace bT:w2.frozen? ⟨w.heap.size+1,2,none⟩=false:=IL hJ gW dL;replace dh:w2.cell? ⟨w.heap.size+1,3,none⟩=some (.slice none 0 0):=rW hJ gW dL;replace dQ:w2.frozen? ⟨w.heap.size+1,3,none⟩=false:=IL hJ gW dL;replace df:w2.cell? ⟨w.heap.size+1,4,none⟩=some (.slice none 0 0):=rW hJ gW dL;replace dP:w2.frozen? ⟨w.heap.size+1,4,none⟩=false:=IL hJ gW dL;replace cZ:w2.cell? ⟨w.heap.size+1,5,none⟩=some (.int .u64 0):=rW hJ gW dL;replace dO:w2.frozen? ⟨w.heap.size+1,5,none⟩=false:=IL hJ gW dL;replace bW:w.heap.size+1<w2.heap.size:=xo;have hB2:Below w.heap.size w w2:=aj hJ HS.out xo;clear hG p1 p2 p3 p4 hJ;simp only [aX,kR,dstsOf,List.take_succ_cons,List.take_zero,List.filterMap_cons,List.filterMap_nil,List.contains_cons,List.contains_nil,Nat.reduceBEq,Bool.or_false,Bool.false_or,Bool.or_true,Bool.true_or,if_true,if_false,Bool.false_eq_true,Nat.reduceAdd,Nat.zero_add,List.drop_succ_cons,List.drop_zero,h15,h5,h8,h11,EZ];go_wp2
  have hb5:Below w.heap.size w ((((w2.setCell ⟨w.heap.size,1,none⟩ (.slice a1 lw c1)).setCell ⟨w.heap.size,2,none⟩ (.slice a2 lk c2)).setCell ⟨w.heap.size,3,none⟩ (.slice a3 lv c3)).setCell ⟨w.heap.size,4,none⟩ (.slice a4 lc c4)):=(((hB2.setCell dG _).setCell dG _).setCell dG _).setCell dG _;have k0:((((w2.setCell ⟨w.heap.size,1,none⟩ (.slice a1 lw c1)).setCell ⟨w.heap.size,2,none⟩ (.slice a2 lk c2)).setCell ⟨w.heap.size,3,none⟩ (.slice a3 lv c3)).setCell ⟨w.heap.size,4,none⟩ (.slice a4 lc c4)).cell? ⟨w.heap.size+1,0,none⟩=some (.int .i64 0):=aB ax (aB ax (aB ax (aB ax a_)));have k1:((((w2.setCell ⟨w.heap.size,1,none⟩ (.slice a1 lw c1)).setCell ⟨w.heap.size,2,none⟩ (.slice a2 lk c2)).setCell ⟨w.heap.size,3,none⟩ (.slice a3 lv c3)).setCell ⟨w.heap.size,4,none⟩ (.slice a4 lc c4)).cell? ⟨w.heap.size+1,1,none⟩=some (.slice none 0 0):=aB ax (aB ax (aB ax (aB ax aZ)));have k2:((((w2.setCell ⟨w.heap.size,1,none⟩ (.slice a1 lw c1)).setCell ⟨w.heap.size,2,none⟩ (.slice a2 lk c2)).setCell ⟨w.heap.size,3,none⟩ (.slice a3 lv c3)).setCell ⟨w.heap.size,4,none⟩ (.slice a4 lc c4)).cell? ⟨w.heap.size+1,2,none⟩=some (.slice none 0 0):=aB ax (aB ax (aB ax (aB ax bf)));have k3:((((w2.setCell ⟨w.heap.size,1,none⟩ (.slice a1 lw c1)).setCell ⟨w.heap.size,2,none⟩ (.slice a2 lk c2)).setCell ⟨w.heap.size,3,none⟩ (.slice a3 lv c3)).setCell ⟨w.heap.size,4,none⟩ (.slice a4 lc c4)).cell? ⟨w.heap.size+1,3,none⟩=some (.slice none 0 0):=aB ax (aB ax (aB ax (aB ax dh)));have k4:((((w2.setCell ⟨w.heap.size,1,none⟩ (.slice a1 lw c1)).setCell ⟨w.heap.size,2,none⟩ (.slice a2 lk c2)).setCell ⟨w.heap.size,3,none⟩ (.slice a3 lv c3)).setCell ⟨w.heap.size,4,none⟩ (.slice a4 lc c4)).cell? ⟨w.heap.size+1,4,none⟩=some (.slice none 0 0):=aB ax (aB ax (aB ax (aB ax df)));have k5:((((w2.setCell ⟨w.heap.size,1,none⟩ (.slice a1 lw c1)).setCell ⟨w.heap.size,2,none⟩ (.slice a2 lk c2)).setCell ⟨w.heap.size,3,none⟩ (.slice a3 lv c3)).setCell ⟨w.heap.size,4,none⟩ (.slice a4 lc c4)).cell? ⟨w.heap.size+1,5,none⟩=some (.int .u64 0):=aB ax (aB ax (aB ax (aB ax cZ)));have HQ:Hid (∀q,w.heap.size+2<=q->((((((((((w2.setCell ⟨w.heap.size,1,none⟩ (.slice a1 lw c1)).setCell ⟨w.heap.size,2,none⟩ (.slice a2 lk c2)).setCell ⟨w.heap.size,3,none⟩ (.slice a3 lv c3)).setCell ⟨w.heap.size,4,none⟩ (.slice a4 lc c4)).setCell ⟨w.heap.size+1,0,none⟩ (.int .i64 ai)).setCell ⟨w.heap.size+1,1,none⟩ (.slice a1 lw c1)).setCell ⟨w.heap.size+1,2,none⟩ (.slice a2 lk c2)).setCell ⟨w.heap.size+1,3,none⟩ (.slice a3 lv c3)).setCell ⟨w.heap.size+1,4,none⟩ (.slice a4 lc c4)).setCell ⟨w.heap.size+1,5,none⟩ (.int .u64 laid)).heap[q]? =w2.heap[q]?):=hid fun q hq=>by
   rw [ae _ _ _ dG,ae _ _ _ dG,ae _ _ _ dG,ae _ _ _ dG,ae _ _ _ dG,ae _ _ _ dG,ae _ _ _ dG,ae _ _ _ dG,ae _ _ _ dG,ae _ _ _ dG]
  refine bodyPost_ret (iO rfl rfl (ag _ Tryz.underlying29 rfl xk (tH k0 k1 k2 k3 k4 k5))) rfl ⟨_,_,_,_,rfl,?_,?_,?_,?_,?_,HNE.out⟩
  . rw [HL1.out];exact az (af Ls.out fun j hj=>HQ.out j (by have:=(Ls.out.lt j hj).1;omega)) xo
  . rw [HL2.out];exact az (af HP2.out fun j hj=>HQ.out j (by have:=(HP2.out.lt j hj).1;omega)) xo
  . rw [HL3.out];exact az (af Iw.out fun j hj=>HQ.out j (by have:=(Iw.out.lt j hj).1;omega)) xo
  . rw [HL4.out];exact az (af Lr.out fun j hj=>HQ.out j (by have:=(Lr.out.lt j hj).1;omega)) xo
  . exact (((((hb5.setCell dG _).setCell dG _).setCell dG _).setCell dG _).setCell dG _).setCell dG _
structure kV (g1 g2 g3 g4:Nat) (w W:World):Prop where
 os:W.os=w.os
 tape:W.tape=w.tape
 output:W.output=w.output
 size:w.heap.size<=W.heap.size
 block:∀q,q<w.heap.size->q≠g1->q≠g2->q≠g3->q≠g4->W.heap[q]? =w.heap[q]?
theorem kV.below {g1 g2 g3 g4:Nat} {w W:World} (h:Below w.heap.size w W):kV g1 g2 g3 g4 w W:=⟨h.os,h.tape,h.output,h.size,fun q hq _ _ _ _=>h.block q hq⟩
theorem kV.step {g1 g2 g3 g4:Nat} {w W W':World} (h:kV g1 g2 g3 g4 w W) (h0:W'.heap.size=W.heap.size) (h1:W'.os=W.os) (h2:W'.tape=W.tape) (h3:W'.output=W.output) (hb:∀q,q<w.heap.size->q≠g1->q≠g2->q≠g3->q≠g4->W'.heap[q]? =W.heap[q]?):kV g1 g2 g3 g4 w W':=
  ⟨h1.trans h.os,h2.trans h.tape,h3.trans h.output,by rw [h0];exact h.size,fun q hq a b c d=>(hb q hq a b c d).trans (h.block q hq a b c d)⟩
theorem l_ {w:World} {B:Nat} {e:TypeId} {s:Nat} {v:Value} {n:Nat} {xs:List Value} (h:w.ownsRow B e s v n xs):w.drew.ownsRow B e s v n xs:=af h fun _ _=>rfl
theorem ik {k:IntKind} {w:World} {B:Nat} {e:TypeId} {v:Value} {n:Nat} {xs:List Int} (h:w.ownsRow B e 1 v n (xs.map (Value.int k))):xs.length=n:=by have:=h.1;simpa using this
theorem bU {w w':World} {b:Nat} (h:w'.heap[b]? =w.heap[b]?) (i:Nat):w'.frozen? ⟨b,i,none⟩=w.frozen? ⟨b,i,none⟩:=by simp only [World.frozen?,h]
structure rD (B:Nat) (W:World) (b g1 g2 g3 g4 k1 k2 k3 k4 lw n lc:Nat) (ai laid:Int) (ws ks vs cs:List Int):Prop where
 c0:W.cell? ⟨b,0,none⟩=some (.int .i64 ai)
 c1:W.cell? ⟨b,1,none⟩=some (.slice (some ⟨g1,0,none⟩) lw k1)
 c2:W.cell? ⟨b,2,none⟩=some (.slice (some ⟨g2,0,none⟩) n k2)
 c3:W.cell? ⟨b,3,none⟩=some (.slice (some ⟨g3,0,none⟩) n k3)
 c4:W.cell? ⟨b,4,none⟩=some (.slice (some ⟨g4,0,none⟩) lc k4)
 c5:W.cell? ⟨b,5,none⟩=some (.int .u64 laid)
 f5:W.frozen? ⟨b,5,none⟩=false
 o1:W.ownsRow B 27 1 (.slice (some ⟨g1,0,none⟩) lw k1) lw ((ws).map (Value.int .u64))
 o2:W.ownsRow B 2 1 (.slice (some ⟨g2,0,none⟩) n k2) n ((ks).map (Value.int .i64))
 o3:W.ownsRow B 2 1 (.slice (some ⟨g3,0,none⟩) n k3) n ((vs).map (Value.int .i64))
 o4:W.ownsRow B 3 1 (.slice (some ⟨g4,0,none⟩) lc k4) lc ((cs).map (Value.int .i64))
theorem MN (w:World) (B b g1 g2 g3 g4 k1 k2 k3 k4 lw n lc i qi r s:Nat) (ai x kx vx nx:Int) (laid:Int) (ws ks vs cs:List Int)
    (c0:w.cell? ⟨b,0,none⟩=some (.int .i64 ai)) (c1:w.cell? ⟨b,1,none⟩=some (.slice (some ⟨g1,0,none⟩) lw k1)) (c2:w.cell? ⟨b,2,none⟩=some (.slice (some ⟨g2,0,none⟩) n k2)) (c3:w.cell? ⟨b,3,none⟩=some (.slice (some ⟨g3,0,none⟩) n k3)) (c4:w.cell? ⟨b,4,none⟩=some (.slice (some ⟨g4,0,none⟩) lc k4)) (c5:w.cell? ⟨b,5,none⟩=some (.int .u64 laid)) (f5:w.frozen? ⟨b,5,none⟩=false)
    (O1:Hid (w.ownsRow B 27 1 (.slice (some ⟨g1,0,none⟩) lw k1) lw ((ws).map (Value.int .u64)))) (O2:Hid (w.ownsRow B 2 1 (.slice (some ⟨g2,0,none⟩) n k2) n ((ks).map (Value.int .i64)))) (O3:Hid (w.ownsRow B 2 1 (.slice (some ⟨g3,0,none⟩) n k3) n ((vs).map (Value.int .i64)))) (O4:Hid (w.ownsRow B 3 1 (.slice (some ⟨g4,0,none⟩) lc k4) lc ((cs).map (Value.int .i64))))
    (d1:w.cell? ⟨g1,qi,none⟩=some (.int .u64 x)) (d2:w.cell? ⟨g2,i,none⟩=some (.int .i64 kx)) (d3:w.cell? ⟨g3,i,none⟩=some (.int .i64 vx)) (d4:w.cell? ⟨g4,s,none⟩=some (.int .i64 nx))
    (f1:w.frozen? ⟨g1,qi,none⟩=false) (f2:w.frozen? ⟨g2,i,none⟩=false) (f3:w.frozen? ⟨g3,i,none⟩=false) (f4:w.frozen? ⟨g4,s,none⟩=false)
    (hin:i<n) (hn:n<=65536) (VY:(i:Int)/64=qi) (hrI:(i:Int)%64=r) (hrT:(i:Int).tmod 64=r) (hr:r<64) (hqi:qi<lw) (hs:s<lc) (hsI:(i:Int)/ai=s) (hsg:(ai==0)=false) (adR:¬ai=0) (adQ:4<=ai) (hlc:lc<=65536) (wF:lw<=65536)
    (n1:g1≠b) (n2:g2≠b) (n3:g3≠b) (n4:g4≠b) (n12:g1≠g2) (n13:g1≠g3) (n14:g1≠g4) (n23:g2≠g3) (n24:g2≠g4) (n34:g3≠g4) (hnx:0<=nx) (hnx2:nx<=65536)
    (IS:Hid (∀W,W.cell? ⟨b,1,none⟩=some (.slice (some ⟨g1,0,none⟩) lw k1)->W.cell? ⟨g1,qi,none⟩=some (.int .u64 x)->Calls Tryz.prog 215 #[.pointer (some ⟨b,0,none⟩),.int .i64 i] W fun e w'=>e= .returned (.bool true)/\W=w')) (ne:True):
    Calls Tryz.prog 181 #[.pointer (some ⟨b,0,none⟩),.int .i64 i] w fun e W=>e= .returned (.agg #[.int .i64 kx,.int .i64 vx])/\rD B W b g1 g2 g3 g4 k1 k2 k3 k4 lw n lc ai laid (ws.set qi (bits BinOp.andNot IntKind.u64 x (IntKind.u64.wrap (2^r)))) (ks.set i 0) (vs.set i 0) (cs.set s (nx-1))/\kV g1 g2 g3 g4 w W:=by
 have y0:=World.block_lt_of_cell? _ _ c0;have y1:=World.block_lt_of_cell? _ _ d1;have y2:=World.block_lt_of_cell? _ _ d2;have y3:=World.block_lt_of_cell? _ _ d3;have y4:=World.block_lt_of_cell? _ _ d4;dsimp only at y0 y1 y2 y3 y4;go_enter Tryz.func181,Tryz.ntmps181
 go_wp2
 have hba:Below w.heap.size w (w.alloc (.cells #[.int .i64 0,.int .i64 0] 60)):=br.alloc (Nat.le_refl _) _;have hz1:(w.alloc (.cells #[.int .i64 0,.int .i64 0] 60)).heap.size=w.heap.size+1:=by simp
 have r0:(w.alloc (.cells #[.int .i64 0,.int .i64 0] 60)).cell? ⟨w.heap.size,0,none⟩=some (.int .i64 0):=iP;have r1:(w.alloc (.cells #[.int .i64 0,.int .i64 0] 60)).cell? ⟨w.heap.size,1,none⟩=some (.int .i64 0):=iP;have p0:(w.alloc (.cells #[.int .i64 0,.int .i64 0] 60)).frozen? ⟨w.heap.size,0,none⟩=false:=iP;have p1:(w.alloc (.cells #[.int .i64 0,.int .i64 0] 60)).frozen? ⟨w.heap.size,1,none⟩=false:=iP;generalize (w.alloc (.cells #[.int .i64 0,.int .i64 0] 60))=w1 at *;replace c0:w1.cell? ⟨b,0,none⟩=some (.int .i64 ai):=jb hba c0;replace c1:w1.cell? ⟨b,1,none⟩=some (.slice (some ⟨g1,0,none⟩) lw k1):=jb hba c1;replace c2:w1.cell? ⟨b,2,none⟩=some (.slice (some ⟨g2,0,none⟩) n k2):=jb hba c2;replace c3:w1.cell? ⟨b,3,none⟩=some (.slice (some ⟨g3,0,none⟩) n k3):=jb hba c3;replace c4:w1.cell? ⟨b,4,none⟩=some (.slice (some ⟨g4,0,none⟩) lc k4):=jb hba c4;replace c5:w1.cell? ⟨b,5,none⟩=some (.int .u64 laid):=jb hba c5;replace d1:w1.cell? ⟨g1,qi,none⟩=some (.int .u64 x):=jb hba d1;replace d2:w1.cell? ⟨g2,i,none⟩=some (.int .i64 kx):=jb hba d2;replace d3:w1.cell? ⟨g3,i,none⟩=some (.int .i64 vx):=jb hba d3;replace d4:w1.cell? ⟨g4,s,none⟩=some (.int .i64 nx):=jb hba d4;replace f1:w1.frozen? ⟨g1,qi,none⟩=false:=XK hba f1;replace f2:w1.frozen? ⟨g2,i,none⟩=false:=XK hba f2;replace f3:w1.frozen? ⟨g3,i,none⟩=false:=XK hba f3;replace f4:w1.frozen? ⟨g4,s,none⟩=false:=XK hba f4;replace f5:w1.frozen? ⟨b,5,none⟩=false:=XK hba f5;replace O1:=hid (ay O1.out hba);replace O2:=hid (ay O2.out hba);replace O3:=hid (ay O3.out hba);replace O4:=hid (ay O4.out hba);have K1:Hid (kV g1 g2 g3 g4 w w1):=hid (kV.below hba);clear hba;have hiI:(i:Int)<n:=xo;go_still_tail 17,xk
 go_wp2_with fail
 have hk2:∀q,q≠w.heap.size->(((w1.setCell ⟨w.heap.size,0,none⟩ (.int .i64 kx)).setCell ⟨w.heap.size,1,none⟩ (.int .i64 vx)).drew).heap[q]? =w1.heap[q]? :=fun q hq=>(ae _ _ _ hq).trans (ae _ _ _ hq)
 have hf2:∀a:Addr,(((w1.setCell ⟨w.heap.size,0,none⟩ (.int .i64 kx)).setCell ⟨w.heap.size,1,none⟩ (.int .i64 vx)).drew).frozen? a=w1.frozen? a:=fun a=>by rw [World.frozen?_drew,World.frozen?_setCell,World.frozen?_setCell]
 replace r0:(((w1.setCell ⟨w.heap.size,0,none⟩ (.int .i64 kx)).setCell ⟨w.heap.size,1,none⟩ (.int .i64 vx)).drew).cell? ⟨w.heap.size,0,none⟩=some (.int .i64 kx):=(aB ax (World.cell?_setCell_same _ _ _ r0))
 replace r1:(((w1.setCell ⟨w.heap.size,0,none⟩ (.int .i64 kx)).setCell ⟨w.heap.size,1,none⟩ (.int .i64 vx)).drew).cell? ⟨w.heap.size,1,none⟩=some (.int .i64 vx):=(World.cell?_setCell_same _ _ _ (aB ax r1))
 have K2:Hid (kV g1 g2 g3 g4 w (((w1.setCell ⟨w.heap.size,0,none⟩ (.int .i64 kx)).setCell ⟨w.heap.size,1,none⟩ (.int .i64 vx)).drew)):=hid (K1.out.step ax rfl rfl rfl fun q hq _ _ _ _=>hk2 q xo);have hz2:(((w1.setCell ⟨w.heap.size,0,none⟩ (.int .i64 kx)).setCell ⟨w.heap.size,1,none⟩ (.int .i64 vx)).drew).heap.size=w1.heap.size:=by simp
 generalize (((w1.setCell ⟨w.heap.size,0,none⟩ (.int .i64 kx)).setCell ⟨w.heap.size,1,none⟩ (.int .i64 vx)).drew)=w2 at *;replace c0:w2.cell? ⟨b,0,none⟩=some (.int .i64 ai):=fF c0 (hk2 b xo);replace c1:w2.cell? ⟨b,1,none⟩=some (.slice (some ⟨g1,0,none⟩) lw k1):=fF c1 (hk2 b xo);replace c2:w2.cell? ⟨b,2,none⟩=some (.slice (some ⟨g2,0,none⟩) n k2):=fF c2 (hk2 b xo);replace c3:w2.cell? ⟨b,3,none⟩=some (.slice (some ⟨g3,0,none⟩) n k3):=fF c3 (hk2 b xo);replace c4:w2.cell? ⟨b,4,none⟩=some (.slice (some ⟨g4,0,none⟩) lc k4):=fF c4 (hk2 b xo);replace c5:w2.cell? ⟨b,5,none⟩=some (.int .u64 laid):=fF c5 (hk2 b xo);replace d1:w2.cell? ⟨g1,qi,none⟩=some (.int .u64 x):=fF d1 (hk2 g1 xo);replace d2:w2.cell? ⟨g2,i,none⟩=some (.int .i64 kx):=fF d2 (hk2 g2 xo);replace d3:w2.cell? ⟨g3,i,none⟩=some (.int .i64 vx):=fF d3 (hk2 g3 xo);replace d4:w2.cell? ⟨g4,s,none⟩=some (.int .i64 nx):=fF d4 (hk2 g4 xo);replace f1:w2.frozen? ⟨g1,qi,none⟩=false:=(hf2 _).trans f1;replace f2:w2.frozen? ⟨g2,i,none⟩=false:=(hf2 _).trans f2;replace f3:w2.frozen? ⟨g3,i,none⟩=false:=(hf2 _).trans f3;replace f4:w2.frozen? ⟨g4,s,none⟩=false:=(hf2 _).trans f4;replace f5:w2.frozen? ⟨b,5,none⟩=false:=(hf2 _).trans f5;replace p0:=(hf2 _).trans p0;replace p1:=(hf2 _).trans p1;replace O1:=hid (af (W':=w2) O1.out fun j hj=>by cases hj;exact hk2 g1 xo);replace O2:=hid (af (W':=w2) O2.out fun j hj=>by cases hj;exact hk2 g2 xo);replace O3:=hid (af (W':=w2) O3.out fun j hj=>by cases hj;exact hk2 g3 xo);replace O4:=hid (af (W':=w2) O4.out fun j hj=>by cases hj;exact hk2 g4 xo);clear hk2 hf2 K1;refine (IS.out _ c1 d1).mono ?_;rintro e w' ⟨rfl,rfl⟩;have VX:(qi:Int)<lw:=xo;have adS:(s:Int)<lc:=xo;have hws:IntKind.i64.wrap (s:Int)=(s:Int):=IntWalk.i64_in _ xo;have hwq:IntKind.i64.wrap (qi:Int)=(qi:Int):=IntWalk.i64_in _ xo;have hwr:IntKind.i64.wrap (r:Int)=(r:Int):=IntWalk.i64_in _ xo;have hwn:IntKind.i64.wrap (nx-1)=nx-1:=IntWalk.i64_in _ xo;go_wp2
 go_still_tail 15,xk
 go_wp2
 have h_:∀q,q≠g4->((w2.setCell ⟨g4,s,none⟩ (.int .i64 (nx-1))).drew).heap[q]? =w2.heap[q]? :=fun q hq=>ae _ _ _ hq
 have qC:∀a:Addr,((w2.setCell ⟨g4,s,none⟩ (.int .i64 (nx-1))).drew).frozen? a=w2.frozen? a:=fun a=>by rw [World.frozen?_drew,World.frozen?_setCell]
 have K3:Hid (kV g1 g2 g3 g4 w ((w2.setCell ⟨g4,s,none⟩ (.int .i64 (nx-1))).drew)):=hid (K2.out.step ax rfl rfl rfl fun q hq h1 h2 h3 h4=>h_ q xo);have kD:((w2.setCell ⟨g4,s,none⟩ (.int .i64 (nx-1))).drew).heap.size=w2.heap.size:=by simp
 have nO4:Hid (((w2.setCell ⟨g4,s,none⟩ (.int .i64 (nx-1))).drew).ownsRow B 3 1 (.slice (some ⟨g4,0,none⟩) lc k4) lc ((cs.set s (nx-1)).map (Value.int .i64))):=hid (l_ (dX O4.out s (nx-1)));generalize ((w2.setCell ⟨g4,s,none⟩ (.int .i64 (nx-1))).drew)=w3 at *;clear d4;replace c0:w3.cell? ⟨b,0,none⟩=some (.int .i64 ai):=fF c0 (h_ b xo);replace c1:w3.cell? ⟨b,1,none⟩=some (.slice (some ⟨g1,0,none⟩) lw k1):=fF c1 (h_ b xo);replace c2:w3.cell? ⟨b,2,none⟩=some (.slice (some ⟨g2,0,none⟩) n k2):=fF c2 (h_ b xo);replace c3:w3.cell? ⟨b,3,none⟩=some (.slice (some ⟨g3,0,none⟩) n k3):=fF c3 (h_ b xo);replace c4:w3.cell? ⟨b,4,none⟩=some (.slice (some ⟨g4,0,none⟩) lc k4):=fF c4 (h_ b xo);replace c5:w3.cell? ⟨b,5,none⟩=some (.int .u64 laid):=fF c5 (h_ b xo);replace d1:w3.cell? ⟨g1,qi,none⟩=some (.int .u64 x):=fF d1 (h_ g1 xo);replace d2:w3.cell? ⟨g2,i,none⟩=some (.int .i64 kx):=fF d2 (h_ g2 xo);replace d3:w3.cell? ⟨g3,i,none⟩=some (.int .i64 vx):=fF d3 (h_ g3 xo);replace f1:w3.frozen? ⟨g1,qi,none⟩=false:=(qC _).trans f1;replace f2:w3.frozen? ⟨g2,i,none⟩=false:=(qC _).trans f2;replace f3:w3.frozen? ⟨g3,i,none⟩=false:=(qC _).trans f3;replace f4:w3.frozen? ⟨g4,s,none⟩=false:=(qC _).trans f4;replace f5:w3.frozen? ⟨b,5,none⟩=false:=(qC _).trans f5;replace r0:=fF r0 (h_ w.heap.size xo);replace p0:=(qC _).trans p0;replace r1:=fF r1 (h_ w.heap.size xo);replace p1:=(qC _).trans p1;replace O1:=hid (af (W':=w3) O1.out fun j hj=>by cases hj;exact h_ g1 xo);replace O2:=hid (af (W':=w3) O2.out fun j hj=>by cases hj;exact h_ g2 xo);replace O3:=hid (af (W':=w3) O3.out fun j hj=>by cases hj;exact h_ g3 xo);replace O4:=nO4;clear nO4 h_ qC K2;go_still_tail 13,xk
 go_wp2
 have eu:∀q,q≠g1->((w3.setCell ⟨g1,qi,none⟩ (.int .u64 (bits BinOp.andNot IntKind.u64 x (IntKind.u64.wrap (2^r))))).drew).heap[q]? =w3.heap[q]? :=fun q hq=>ae _ _ _ hq
 have kF:∀a:Addr,((w3.setCell ⟨g1,qi,none⟩ (.int .u64 (bits BinOp.andNot IntKind.u64 x (IntKind.u64.wrap (2^r))))).drew).frozen? a=w3.frozen? a:=fun a=>by rw [World.frozen?_drew,World.frozen?_setCell]
 have K4:Hid (kV g1 g2 g3 g4 w ((w3.setCell ⟨g1,qi,none⟩ (.int .u64 (bits BinOp.andNot IntKind.u64 x (IntKind.u64.wrap (2^r))))).drew)):=hid (K3.out.step ax rfl rfl rfl fun q hq h1 h2 h3 h4=>eu q xo);have Dj:((w3.setCell ⟨g1,qi,none⟩ (.int .u64 (bits BinOp.andNot IntKind.u64 x (IntKind.u64.wrap (2^r))))).drew).heap.size=w3.heap.size:=by simp
 have nO1:Hid (((w3.setCell ⟨g1,qi,none⟩ (.int .u64 (bits BinOp.andNot IntKind.u64 x (IntKind.u64.wrap (2^r))))).drew).ownsRow B 27 1 (.slice (some ⟨g1,0,none⟩) lw k1) lw ((ws.set qi (bits BinOp.andNot IntKind.u64 x (IntKind.u64.wrap (2^r)))).map (Value.int .u64))):=hid (l_ (dX O1.out qi (bits BinOp.andNot IntKind.u64 x (IntKind.u64.wrap (2^r)))));generalize ((w3.setCell ⟨g1,qi,none⟩ (.int .u64 (bits BinOp.andNot IntKind.u64 x (IntKind.u64.wrap (2^r))))).drew)=w4 at *;clear d1;replace c0:w4.cell? ⟨b,0,none⟩=some (.int .i64 ai):=fF c0 (eu b xo);replace c1:w4.cell? ⟨b,1,none⟩=some (.slice (some ⟨g1,0,none⟩) lw k1):=fF c1 (eu b xo);replace c2:w4.cell? ⟨b,2,none⟩=some (.slice (some ⟨g2,0,none⟩) n k2):=fF c2 (eu b xo);replace c3:w4.cell? ⟨b,3,none⟩=some (.slice (some ⟨g3,0,none⟩) n k3):=fF c3 (eu b xo);replace c4:w4.cell? ⟨b,4,none⟩=some (.slice (some ⟨g4,0,none⟩) lc k4):=fF c4 (eu b xo);replace c5:w4.cell? ⟨b,5,none⟩=some (.int .u64 laid):=fF c5 (eu b xo);replace d2:w4.cell? ⟨g2,i,none⟩=some (.int .i64 kx):=fF d2 (eu g2 xo);replace d3:w4.cell? ⟨g3,i,none⟩=some (.int .i64 vx):=fF d3 (eu g3 xo);replace f1:w4.frozen? ⟨g1,qi,none⟩=false:=(kF _).trans f1;replace f2:w4.frozen? ⟨g2,i,none⟩=false:=(kF _).trans f2;replace f3:w4.frozen? ⟨g3,i,none⟩=false:=(kF _).trans f3;replace f4:w4.frozen? ⟨g4,s,none⟩=false:=(kF _).trans f4;replace f5:w4.frozen? ⟨b,5,none⟩=false:=(kF _).trans f5;replace r0:=fF r0 (eu w.heap.size xo);replace p0:=(kF _).trans p0;replace r1:=fF r1 (eu w.heap.size xo);replace p1:=(kF _).trans p1;replace O2:=hid (af (W':=w4) O2.out fun j hj=>by cases hj;exact eu g2 xo);replace O3:=hid (af (W':=w4) O3.out fun j hj=>by cases hj;exact eu g3 xo);replace O4:=hid (af (W':=w4) O4.out fun j hj=>by cases hj;exact eu g4 xo);replace O1:=nO1;clear nO1 eu kF K3;obtain ⟨BA,Hl⟩:∃P:World->Prop,P=fun W=>W.ownsRow B 2 1 (.slice (some ⟨g2,0,none⟩) n k2) n ((ks).map (Value.int .i64)):=⟨_,rfl⟩
 obtain ⟨oI,x_⟩:∃P:World->Prop,P=fun W=>W.ownsRow B 2 1 (.slice (some ⟨g2,0,none⟩) n k2) n ((ks.set i 0).map (Value.int .i64)):=⟨_,rfl⟩
 have QC:Hid (JB g2 w4.drew BA oI w4.drew):=hid ⟨fun _ _=>rfl,rfl,⟨rfl,rfl,rfl⟩,.inl (by rw [Hl];exact l_ O2.out)⟩;have hkl:ks.length=n:=ik O2.out;have QB:Hid (∀w',JB g2 w4.drew BA oI w'->(∃y,w'.cell? ⟨g2,i,none⟩=some (.int .i64 y))/\w'.frozen? ⟨g2,i,none⟩=false/\JB g2 w4.drew BA oI (w'.setCell ⟨g2,i,none⟩ (.int .i64 0))/\oI (w'.setCell ⟨g2,i,none⟩ (.int .i64 0))):=hid (by
  rintro w' ⟨j1,j2,j4,j3⟩;have key:(∃y,w'.cell? ⟨g2,i,none⟩=some (.int .i64 y))/\w'.frozen? ⟨g2,i,none⟩=false/\oI (w'.setCell ⟨g2,i,none⟩ (.int .i64 0)):=by
   rcases j3 with j3|j3
   . rw [Hl] at j3;obtain ⟨y0,y1⟩:=bM j3 (j:=i) xo;have y2:=dX j3 i 0;rw [x_];exact ⟨⟨_,y0⟩,y1,y2⟩
   . rw [x_] at j3;obtain ⟨y0,y1⟩:=bM j3 (j:=i) (by rw [List.length_set];omega);have y2:=dX j3 i 0;rw [List.set_set] at y2;rw [x_];exact ⟨⟨_,y0⟩,y1,y2⟩
  exact ⟨key.1,key.2.1,⟨fun q hq=>(ae _ _ _ hq).trans (j1 q hq),by rw [World.size_setCell];exact j2,j4,.inr key.2.2⟩,key.2.2⟩)
 have XD:=hid x_;clear Hl x_ d2 f2;refine di 14 xk (N:=70) rfl xk xk au (fun w'=>JB g2 w4.drew BA oI w') (fun W W'=>oI W->oI W') (gU [.is (.pointer (some ⟨b,0,none⟩)),.is (.pointer (some ⟨b,0,none⟩)),.is (.pointer (some ⟨b,0,none⟩)),.is (.pointer (some ⟨b,2,none⟩)),.is (.slice (some ⟨g2,0,none⟩) n k2),.is (.int .i64 i),.is (.pointer (some ⟨b,0,none⟩)),.is (.pointer (some ⟨b,0,none⟩)),.is (.pointer (some ⟨b,0,none⟩)),.is (.pointer (some ⟨b,3,none⟩)),.is (.slice (some ⟨g3,0,none⟩) n k3),.is (.int .i64 i),.is (.pointer (some ⟨g2,i,none⟩)),.now oI (fun _ _ h k=>h k)]) (dA _) QC.out ?steps ?fin
 case steps=>
  refine ⟨?o0,?o1,?o2,?o3,?o4,?o5,?o6,?o7,?o8,?o9,?o10,?o11,?o12,?o13,trivial⟩<;>intro u a w' ev hJ hd K hK
  case o0=>
   have e0:tg a 0= .pointer (some ⟨b,0,none⟩):=ev 0 au;have HK:=hid hK;clear hK ev hd;go_simp;exact HK.out _ _ aS hJ rfl id
  case o1=>
   have e55:tg a 55= .pointer (some ⟨b,0,none⟩):=(ev 55 au).trans (hd 0 _ xk rfl);have HK:=hid hK;clear hK ev hd;go_simp;exact HK.out _ _ aS hJ rfl id
  case o2=>
   have e56:tg a 56= .pointer (some ⟨b,0,none⟩):=(ev 56 au).trans (hd 1 _ xk rfl);have HK:=hid hK;clear hK ev hd;go_simp;exact HK.out _ _ aS hJ rfl id
  case o3=>
   have e57:tg a 57= .pointer (some ⟨b,0,none⟩):=(ev 57 au).trans (hd 2 _ xk rfl);have HK:=hid hK;clear hK ev hd;go_simp;exact HK.out _ _ aS hJ rfl id
  case o4=>
   have e58:tg a 58= .pointer (some ⟨b,2,none⟩):=(ev 58 au).trans (hd 3 _ xk rfl);have g0:=fF c2 (hJ.1 b xo);have HK:=hid hK;clear hK ev hd;go_simp;exact HK.out _ _ aS hJ rfl id
  case o5=>
   have e1:tg a 1= .int .i64 i:=ev 1 au;have HK:=hid hK;clear hK ev hd;go_simp;exact HK.out _ _ aS hJ rfl id
  case o6=>
   have e0:tg a 0= .pointer (some ⟨b,0,none⟩):=ev 0 au;have HK:=hid hK;clear hK ev hd;go_simp;exact HK.out _ _ aS hJ rfl id
  case o7=>
   have e61:tg a 61= .pointer (some ⟨b,0,none⟩):=(ev 61 au).trans (hd 6 _ xk rfl);have HK:=hid hK;clear hK ev hd;go_simp;exact HK.out _ _ aS hJ rfl id
  case o8=>
   have e62:tg a 62= .pointer (some ⟨b,0,none⟩):=(ev 62 au).trans (hd 7 _ xk rfl);have HK:=hid hK;clear hK ev hd;go_simp;exact HK.out _ _ aS hJ rfl id
  case o9=>
   have e63:tg a 63= .pointer (some ⟨b,0,none⟩):=(ev 63 au).trans (hd 8 _ xk rfl);have HK:=hid hK;clear hK ev hd;go_simp;exact HK.out _ _ aS hJ rfl id
  case o10=>
   have e64:tg a 64= .pointer (some ⟨b,3,none⟩):=(ev 64 au).trans (hd 9 _ xk rfl);have g0:=fF c3 (hJ.1 b xo);have HK:=hid hK;clear hK ev hd;go_simp;exact HK.out _ _ aS hJ rfl id
  case o11=>
   have e1:tg a 1= .int .i64 i:=ev 1 au;have HK:=hid hK;clear hK ev hd;go_simp;exact HK.out _ _ aS hJ rfl id
  case o12=>
   have e59:tg a 59= .slice (some ⟨g2,0,none⟩) n k2:=(ev 59 au).trans (hd 4 _ xk rfl);have e60:tg a 60= .int .i64 i:=(ev 60 au).trans (hd 5 _ xk rfl);have HK:=hid hK;clear hK ev hd;go_simp;exact HK.out _ _ aS hJ rfl id
  case o13=>
   have e67:tg a 67= .pointer (some ⟨g2,i,none⟩):=(ev 67 au).trans (hd 12 _ xk rfl);obtain ⟨⟨y,hy⟩,hf,hj⟩:=QB.out w' hJ;have HK:=hid hK;clear hK ev hd;go_simp;exact HK.out _ _ (fun h=>rfl) hj.1 hj.2 (fun _=>hj.2)
 case fin=>
  intro u w7 hJ hG;have h65:u 65= .slice (some ⟨g3,0,none⟩) n k3:=hG 10 _ rfl;have h66:u 66= .int .i64 i:=hG 11 _ rfl;have hnew:oI w7:=hG 13 _ rfl;rw [XD.out] at hnew;have O27:=hid hnew;have hz7:w7.heap.size=w4.heap.size:=hJ.2.1;have nC:∀q,q≠g2->w7.heap[q]? =w4.heap[q]? :=hJ.1;have K7:Hid (kV g1 g2 g3 g4 w w7):=hid (K4.out.step xo hJ.2.2.1.1 hJ.2.2.1.2.1 hJ.2.2.1.2.2 fun q hq h1 h2 h3 h4=>nC q xo);replace c0:w7.cell? ⟨b,0,none⟩=some (.int .i64 ai):=fF c0 (nC b xo);replace c1:w7.cell? ⟨b,1,none⟩=some (.slice (some ⟨g1,0,none⟩) lw k1):=fF c1 (nC b xo);replace c2:w7.cell? ⟨b,2,none⟩=some (.slice (some ⟨g2,0,none⟩) n k2):=fF c2 (nC b xo);replace c3:w7.cell? ⟨b,3,none⟩=some (.slice (some ⟨g3,0,none⟩) n k3):=fF c3 (nC b xo);replace c4:w7.cell? ⟨b,4,none⟩=some (.slice (some ⟨g4,0,none⟩) lc k4):=fF c4 (nC b xo);replace c5:w7.cell? ⟨b,5,none⟩=some (.int .u64 laid):=fF c5 (nC b xo);replace d3:w7.cell? ⟨g3,i,none⟩=some (.int .i64 vx):=fF d3 (nC g3 xo);replace f1:w7.frozen? ⟨g1,qi,none⟩=false:=(bU (nC g1 xo) _).trans f1;replace f3:w7.frozen? ⟨g3,i,none⟩=false:=(bU (nC g3 xo) _).trans f3;replace f4:w7.frozen? ⟨g4,s,none⟩=false:=(bU (nC g4 xo) _).trans f4;replace f5:w7.frozen? ⟨b,5,none⟩=false:=(bU (nC b xo) _).trans f5;replace r0:=fF r0 (nC w.heap.size xo);replace p0:=(bU (nC w.heap.size xo) 0).trans p0;replace r1:=fF r1 (nC w.heap.size xo);replace p1:=(bU (nC w.heap.size xo) 1).trans p1;replace O1:=hid (af (W':=w7) O1.out fun j hj=>by cases hj;exact nC g1 xo);replace O3:=hid (af (W':=w7) O3.out fun j hj=>by cases hj;exact nC g3 xo);replace O4:=hid (af (W':=w7) O4.out fun j hj=>by cases hj;exact nC g4 xo);clear hG hJ hnew nC QC QB K4 O2 XD;simp only [aX,kR,dstsOf,List.take_succ_cons,List.take_zero,List.filterMap_cons,List.filterMap_nil,List.contains_cons,List.contains_nil,Nat.reduceBEq,Bool.or_false,Bool.false_or,Bool.or_true,Bool.true_or,if_true,if_false,Bool.false_eq_true,Nat.reduceAdd,Nat.zero_add,List.drop_succ_cons,List.drop_zero,h65,h66];go_wp2
  have rJ:∀q,q≠g3->q≠w.heap.size->(((w7.setCell ⟨g3,i,none⟩ (.int .i64 0)).setCell ⟨w.heap.size,0,none⟩ (.int .i64 kx)).setCell ⟨w.heap.size,1,none⟩ (.int .i64 vx)).heap[q]? =w7.heap[q]? :=fun q h1 h2=>by rw [ae _ _ _ h2,ae _ _ _ h2,ae _ _ _ h1]
  have hkR:∀q,q≠w.heap.size->(((w7.setCell ⟨g3,i,none⟩ (.int .i64 0)).setCell ⟨w.heap.size,0,none⟩ (.int .i64 kx)).setCell ⟨w.heap.size,1,none⟩ (.int .i64 vx)).heap[q]? =(w7.setCell ⟨g3,i,none⟩ (.int .i64 0)).heap[q]? :=fun q h2=>by rw [ae _ _ _ h2,ae _ _ _ h2]
  refine bodyPost_ret (iO rfl rfl (iM Tryz.underlying60 rfl xk (v:= .int .i64 kx) (u:= .int .i64 vx) (aB ax (World.cell?_setCell_same _ _ _ (aB (by simp<;>omega) r0))) (World.cell?_setCell_same _ _ _ (aB ax (aB (by simp<;>omega) r1))))) rfl ⟨rfl,?_,?_⟩
  . refine ⟨?_,?_,?_,?_,?_,?_,?_,?_,?_,?_,?_⟩
    . exact (World.cell?_of_block (a:=⟨b,0,none⟩) (rJ b xo xo)).trans c0
    . exact (World.cell?_of_block (a:=⟨b,1,none⟩) (rJ b xo xo)).trans c1
    . exact (World.cell?_of_block (a:=⟨b,2,none⟩) (rJ b xo xo)).trans c2
    . exact (World.cell?_of_block (a:=⟨b,3,none⟩) (rJ b xo xo)).trans c3
    . exact (World.cell?_of_block (a:=⟨b,4,none⟩) (rJ b xo xo)).trans c4
    . exact (World.cell?_of_block (a:=⟨b,5,none⟩) (rJ b xo xo)).trans c5
    . exact (bU (rJ b xo xo) 5).trans f5
    . exact af O1.out fun j hj=>by cases hj;exact rJ g1 xo xo
    . exact af O27.out fun j hj=>by cases hj;exact rJ g2 xo xo
    . exact af (dX O3.out i 0) fun j hj=>by cases hj;exact hkR g3 xo
    . exact af O4.out fun j hj=>by cases hj;exact rJ g4 xo xo
  . exact K7.out.step ax rfl rfl rfl fun q hq h1 h2 h3 h4=>rJ q h3 xo
theorem MO (w:World) (B b g1 g2 g3 g4 k1 k2 k3 k4 lw n lc i qi r s:Nat) (ai x kx vx nx:Int) (laid:Int) (ws ks vs cs:List Int)
    (c0:w.cell? ⟨b,0,none⟩=some (.int .i64 ai)) (c1:w.cell? ⟨b,1,none⟩=some (.slice (some ⟨g1,0,none⟩) lw k1)) (c2:w.cell? ⟨b,2,none⟩=some (.slice (some ⟨g2,0,none⟩) n k2)) (c3:w.cell? ⟨b,3,none⟩=some (.slice (some ⟨g3,0,none⟩) n k3)) (c4:w.cell? ⟨b,4,none⟩=some (.slice (some ⟨g4,0,none⟩) lc k4)) (c5:w.cell? ⟨b,5,none⟩=some (.int .u64 laid)) (f5:w.frozen? ⟨b,5,none⟩=false)
    (O1:Hid (w.ownsRow B 27 1 (.slice (some ⟨g1,0,none⟩) lw k1) lw ((ws).map (Value.int .u64)))) (O2:Hid (w.ownsRow B 2 1 (.slice (some ⟨g2,0,none⟩) n k2) n ((ks).map (Value.int .i64)))) (O3:Hid (w.ownsRow B 2 1 (.slice (some ⟨g3,0,none⟩) n k3) n ((vs).map (Value.int .i64)))) (O4:Hid (w.ownsRow B 3 1 (.slice (some ⟨g4,0,none⟩) lc k4) lc ((cs).map (Value.int .i64))))
    (d1:w.cell? ⟨g1,qi,none⟩=some (.int .u64 x)) (d2:w.cell? ⟨g2,i,none⟩=some (.int .i64 kx)) (d3:w.cell? ⟨g3,i,none⟩=some (.int .i64 vx)) (d4:w.cell? ⟨g4,s,none⟩=some (.int .i64 nx))
    (f1:w.frozen? ⟨g1,qi,none⟩=false) (f2:w.frozen? ⟨g2,i,none⟩=false) (f3:w.frozen? ⟨g3,i,none⟩=false) (f4:w.frozen? ⟨g4,s,none⟩=false)
    (hin:i<n) (hn:n<=65536) (VY:(i:Int)/64=qi) (hrI:(i:Int)%64=r) (hrT:(i:Int).tmod 64=r) (hr:r<64) (hqi:qi<lw) (hs:s<lc) (hsI:(i:Int)/ai=s) (hsg:(ai==0)=false) (adR:¬ai=0) (adQ:4<=ai) (hlc:lc<=65536) (wF:lw<=65536)
    (n1:g1≠b) (n2:g2≠b) (n3:g3≠b) (n4:g4≠b) (n12:g1≠g2) (n13:g1≠g3) (n14:g1≠g4) (n23:g2≠g3) (n24:g2≠g4) (n34:g3≠g4) (hnx:0<=nx) (hnx2:nx<=65536)
    (IS:Hid (∀W,W.cell? ⟨b,1,none⟩=some (.slice (some ⟨g1,0,none⟩) lw k1)->W.cell? ⟨g1,qi,none⟩=some (.int .u64 x)->Calls Tryz.prog 215 #[.pointer (some ⟨b,0,none⟩),.int .i64 i] W fun e w'=>e= .returned (.bool false)/\W=w')) (ne:True):
    Calls Tryz.prog 181 #[.pointer (some ⟨b,0,none⟩),.int .i64 i] w fun e W=>e= .returned (.agg #[.int .i64 kx,.int .i64 vx])/\rD B W b g1 g2 g3 g4 k1 k2 k3 k4 lw n lc ai laid (ws.set qi (bits BinOp.andNot IntKind.u64 x (IntKind.u64.wrap (2^r)))) (ks.set i 0) (vs.set i 0) (cs)/\kV g1 g2 g3 g4 w W:=by
 have y0:=World.block_lt_of_cell? _ _ c0;have y1:=World.block_lt_of_cell? _ _ d1;have y2:=World.block_lt_of_cell? _ _ d2;have y3:=World.block_lt_of_cell? _ _ d3;have y4:=World.block_lt_of_cell? _ _ d4;dsimp only at y0 y1 y2 y3 y4;go_enter Tryz.func181,Tryz.ntmps181
 go_wp2
 have hba:Below w.heap.size w (w.alloc (.cells #[.int .i64 0,.int .i64 0] 60)):=br.alloc (Nat.le_refl _) _;have hz1:(w.alloc (.cells #[.int .i64 0,.int .i64 0] 60)).heap.size=w.heap.size+1:=by simp
 have r0:(w.alloc (.cells #[.int .i64 0,.int .i64 0] 60)).cell? ⟨w.heap.size,0,none⟩=some (.int .i64 0):=iP;have r1:(w.alloc (.cells #[.int .i64 0,.int .i64 0] 60)).cell? ⟨w.heap.size,1,none⟩=some (.int .i64 0):=iP;have p0:(w.alloc (.cells #[.int .i64 0,.int .i64 0] 60)).frozen? ⟨w.heap.size,0,none⟩=false:=iP;have p1:(w.alloc (.cells #[.int .i64 0,.int .i64 0] 60)).frozen? ⟨w.heap.size,1,none⟩=false:=iP;generalize (w.alloc (.cells #[.int .i64 0,.int .i64 0] 60))=w1 at *;replace c0:w1.cell? ⟨b,0,none⟩=some (.int .i64 ai):=jb hba c0;replace c1:w1.cell? ⟨b,1,none⟩=some (.slice (some ⟨g1,0,none⟩) lw k1):=jb hba c1;replace c2:w1.cell? ⟨b,2,none⟩=some (.slice (some ⟨g2,0,none⟩) n k2):=jb hba c2;replace c3:w1.cell? ⟨b,3,none⟩=some (.slice (some ⟨g3,0,none⟩) n k3):=jb hba c3;replace c4:w1.cell? ⟨b,4,none⟩=some (.slice (some ⟨g4,0,none⟩) lc k4):=jb hba c4;replace c5:w1.cell? ⟨b,5,none⟩=some (.int .u64 laid):=jb hba c5;replace d1:w1.cell? ⟨g1,qi,none⟩=some (.int .u64 x):=jb hba d1;replace d2:w1.cell? ⟨g2,i,none⟩=some (.int .i64 kx):=jb hba d2;replace d3:w1.cell? ⟨g3,i,none⟩=some (.int .i64 vx):=jb hba d3;replace d4:w1.cell? ⟨g4,s,none⟩=some (.int .i64 nx):=jb hba d4;replace f1:w1.frozen? ⟨g1,qi,none⟩=false:=XK hba f1;replace f2:w1.frozen? ⟨g2,i,none⟩=false:=XK hba f2;replace f3:w1.frozen? ⟨g3,i,none⟩=false:=XK hba f3;replace f4:w1.frozen? ⟨g4,s,none⟩=false:=XK hba f4;replace f5:w1.frozen? ⟨b,5,none⟩=false:=XK hba f5;replace O1:=hid (ay O1.out hba);replace O2:=hid (ay O2.out hba);replace O3:=hid (ay O3.out hba);replace O4:=hid (ay O4.out hba);have K1:Hid (kV g1 g2 g3 g4 w w1):=hid (kV.below hba);clear hba;have hiI:(i:Int)<n:=xo;go_still_tail 17,xk
 go_wp2_with fail
 have hk2:∀q,q≠w.heap.size->(((w1.setCell ⟨w.heap.size,0,none⟩ (.int .i64 kx)).setCell ⟨w.heap.size,1,none⟩ (.int .i64 vx)).drew).heap[q]? =w1.heap[q]? :=fun q hq=>(ae _ _ _ hq).trans (ae _ _ _ hq)
 have hf2:∀a:Addr,(((w1.setCell ⟨w.heap.size,0,none⟩ (.int .i64 kx)).setCell ⟨w.heap.size,1,none⟩ (.int .i64 vx)).drew).frozen? a=w1.frozen? a:=fun a=>by rw [World.frozen?_drew,World.frozen?_setCell,World.frozen?_setCell]
 replace r0:(((w1.setCell ⟨w.heap.size,0,none⟩ (.int .i64 kx)).setCell ⟨w.heap.size,1,none⟩ (.int .i64 vx)).drew).cell? ⟨w.heap.size,0,none⟩=some (.int .i64 kx):=(aB ax (World.cell?_setCell_same _ _ _ r0))
 replace r1:(((w1.setCell ⟨w.heap.size,0,none⟩ (.int .i64 kx)).setCell ⟨w.heap.size,1,none⟩ (.int .i64 vx)).drew).cell? ⟨w.heap.size,1,none⟩=some (.int .i64 vx):=(World.cell?_setCell_same _ _ _ (aB ax r1))
 have K2:Hid (kV g1 g2 g3 g4 w (((w1.setCell ⟨w.heap.size,0,none⟩ (.int .i64 kx)).setCell ⟨w.heap.size,1,none⟩ (.int .i64 vx)).drew)):=hid (K1.out.step ax rfl rfl rfl fun q hq _ _ _ _=>hk2 q xo);have hz2:(((w1.setCell ⟨w.heap.size,0,none⟩ (.int .i64 kx)).setCell ⟨w.heap.size,1,none⟩ (.int .i64 vx)).drew).heap.size=w1.heap.size:=by simp
 generalize (((w1.setCell ⟨w.heap.size,0,none⟩ (.int .i64 kx)).setCell ⟨w.heap.size,1,none⟩ (.int .i64 vx)).drew)=w2 at *;replace c0:w2.cell? ⟨b,0,none⟩=some (.int .i64 ai):=fF c0 (hk2 b xo);replace c1:w2.cell? ⟨b,1,none⟩=some (.slice (some ⟨g1,0,none⟩) lw k1):=fF c1 (hk2 b xo);replace c2:w2.cell? ⟨b,2,none⟩=some (.slice (some ⟨g2,0,none⟩) n k2):=fF c2 (hk2 b xo);replace c3:w2.cell? ⟨b,3,none⟩=some (.slice (some ⟨g3,0,none⟩) n k3):=fF c3 (hk2 b xo);replace c4:w2.cell? ⟨b,4,none⟩=some (.slice (some ⟨g4,0,none⟩) lc k4):=fF c4 (hk2 b xo);replace c5:w2.cell? ⟨b,5,none⟩=some (.int .u64 laid):=fF c5 (hk2 b xo);replace d1:w2.cell? ⟨g1,qi,none⟩=some (.int .u64 x):=fF d1 (hk2 g1 xo);replace d2:w2.cell? ⟨g2,i,none⟩=some (.int .i64 kx):=fF d2 (hk2 g2 xo);replace d3:w2.cell? ⟨g3,i,none⟩=some (.int .i64 vx):=fF d3 (hk2 g3 xo);replace d4:w2.cell? ⟨g4,s,none⟩=some (.int .i64 nx):=fF d4 (hk2 g4 xo);replace f1:w2.frozen? ⟨g1,qi,none⟩=false:=(hf2 _).trans f1;replace f2:w2.frozen? ⟨g2,i,none⟩=false:=(hf2 _).trans f2;replace f3:w2.frozen? ⟨g3,i,none⟩=false:=(hf2 _).trans f3;replace f4:w2.frozen? ⟨g4,s,none⟩=false:=(hf2 _).trans f4;replace f5:w2.frozen? ⟨b,5,none⟩=false:=(hf2 _).trans f5;replace p0:=(hf2 _).trans p0;replace p1:=(hf2 _).trans p1;replace O1:=hid (af (W':=w2) O1.out fun j hj=>by cases hj;exact hk2 g1 xo);replace O2:=hid (af (W':=w2) O2.out fun j hj=>by cases hj;exact hk2 g2 xo);replace O3:=hid (af (W':=w2) O3.out fun j hj=>by cases hj;exact hk2 g3 xo);replace O4:=hid (af (W':=w2) O4.out fun j hj=>by cases hj;exact hk2 g4 xo);clear hk2 hf2 K1;refine (IS.out _ c1 d1).mono ?_;rintro e w' ⟨rfl,rfl⟩;have VX:(qi:Int)<lw:=xo;have adS:(s:Int)<lc:=xo;have hws:IntKind.i64.wrap (s:Int)=(s:Int):=IntWalk.i64_in _ xo;have hwq:IntKind.i64.wrap (qi:Int)=(qi:Int):=IntWalk.i64_in _ xo;have hwr:IntKind.i64.wrap (r:Int)=(r:Int):=IntWalk.i64_in _ xo;have hwn:IntKind.i64.wrap (nx-1)=nx-1:=IntWalk.i64_in _ xo;go_wp2
 go_still_tail 13,xk
 go_wp2
 have eu:∀q,q≠g1->((w2.setCell ⟨g1,qi,none⟩ (.int .u64 (bits BinOp.andNot IntKind.u64 x (IntKind.u64.wrap (2^r))))).drew).heap[q]? =w2.heap[q]? :=fun q hq=>ae _ _ _ hq
 have kF:∀a:Addr,((w2.setCell ⟨g1,qi,none⟩ (.int .u64 (bits BinOp.andNot IntKind.u64 x (IntKind.u64.wrap (2^r))))).drew).frozen? a=w2.frozen? a:=fun a=>by rw [World.frozen?_drew,World.frozen?_setCell]
 have K4:Hid (kV g1 g2 g3 g4 w ((w2.setCell ⟨g1,qi,none⟩ (.int .u64 (bits BinOp.andNot IntKind.u64 x (IntKind.u64.wrap (2^r))))).drew)):=hid (K2.out.step ax rfl rfl rfl fun q hq h1 h2 h3 h4=>eu q xo);have Dj:((w2.setCell ⟨g1,qi,none⟩ (.int .u64 (bits BinOp.andNot IntKind.u64 x (IntKind.u64.wrap (2^r))))).drew).heap.size=w2.heap.size:=by simp
 have nO1:Hid (((w2.setCell ⟨g1,qi,none⟩ (.int .u64 (bits BinOp.andNot IntKind.u64 x (IntKind.u64.wrap (2^r))))).drew).ownsRow B 27 1 (.slice (some ⟨g1,0,none⟩) lw k1) lw ((ws.set qi (bits BinOp.andNot IntKind.u64 x (IntKind.u64.wrap (2^r)))).map (Value.int .u64))):=hid (l_ (dX O1.out qi (bits BinOp.andNot IntKind.u64 x (IntKind.u64.wrap (2^r)))));generalize ((w2.setCell ⟨g1,qi,none⟩ (.int .u64 (bits BinOp.andNot IntKind.u64 x (IntKind.u64.wrap (2^r))))).drew)=w4 at *;clear d1;replace c0:w4.cell? ⟨b,0,none⟩=some (.int .i64 ai):=fF c0 (eu b xo);replace c1:w4.cell? ⟨b,1,none⟩=some (.slice (some ⟨g1,0,none⟩) lw k1):=fF c1 (eu b xo);replace c2:w4.cell? ⟨b,2,none⟩=some (.slice (some ⟨g2,0,none⟩) n k2):=fF c2 (eu b xo);replace c3:w4.cell? ⟨b,3,none⟩=some (.slice (some ⟨g3,0,none⟩) n k3):=fF c3 (eu b xo);replace c4:w4.cell? ⟨b,4,none⟩=some (.slice (some ⟨g4,0,none⟩) lc k4):=fF c4 (eu b xo);replace c5:w4.cell? ⟨b,5,none⟩=some (.int .u64 laid):=fF c5 (eu b xo);replace d2:w4.cell? ⟨g2,i,none⟩=some (.int .i64 kx):=fF d2 (eu g2 xo);replace d3:w4.cell? ⟨g3,i,none⟩=some (.int .i64 vx):=fF d3 (eu g3 xo);replace d4:w4.cell? ⟨g4,s,none⟩=some (.int .i64 nx):=fF d4 (eu g4 xo);replace f1:w4.frozen? ⟨g1,qi,none⟩=false:=(kF _).trans f1;replace f2:w4.frozen? ⟨g2,i,none⟩=false:=(kF _).trans f2;replace f3:w4.frozen? ⟨g3,i,none⟩=false:=(kF _).trans f3;replace f4:w4.frozen? ⟨g4,s,none⟩=false:=(kF _).trans f4;replace f5:w4.frozen? ⟨b,5,none⟩=false:=(kF _).trans f5;replace r0:=fF r0 (eu w.heap.size xo);replace p0:=(kF _).trans p0;replace r1:=fF r1 (eu w.heap.size xo);replace p1:=(kF _).trans p1;replace O2:=hid (af (W':=w4) O2.out fun j hj=>by cases hj;exact eu g2 xo);replace O3:=hid (af (W':=w4) O3.out fun j hj=>by cases hj;exact eu g3 xo);replace O4:=hid (af (W':=w4) O4.out fun j hj=>by cases hj;exact eu g4 xo);replace O1:=nO1;clear nO1 eu kF K2;obtain ⟨BA,Hl⟩:∃P:World->Prop,P=fun W=>W.ownsRow B 2 1 (.slice (some ⟨g2,0,none⟩) n k2) n ((ks).map (Value.int .i64)):=⟨_,rfl⟩
 obtain ⟨oI,x_⟩:∃P:World->Prop,P=fun W=>W.ownsRow B 2 1 (.slice (some ⟨g2,0,none⟩) n k2) n ((ks.set i 0).map (Value.int .i64)):=⟨_,rfl⟩
 have QC:Hid (JB g2 w4.drew BA oI w4.drew):=hid ⟨fun _ _=>rfl,rfl,⟨rfl,rfl,rfl⟩,.inl (by rw [Hl];exact l_ O2.out)⟩;have hkl:ks.length=n:=ik O2.out;have QB:Hid (∀w',JB g2 w4.drew BA oI w'->(∃y,w'.cell? ⟨g2,i,none⟩=some (.int .i64 y))/\w'.frozen? ⟨g2,i,none⟩=false/\JB g2 w4.drew BA oI (w'.setCell ⟨g2,i,none⟩ (.int .i64 0))/\oI (w'.setCell ⟨g2,i,none⟩ (.int .i64 0))):=hid (by
  rintro w' ⟨j1,j2,j4,j3⟩;have key:(∃y,w'.cell? ⟨g2,i,none⟩=some (.int .i64 y))/\w'.frozen? ⟨g2,i,none⟩=false/\oI (w'.setCell ⟨g2,i,none⟩ (.int .i64 0)):=by
   rcases j3 with j3|j3
   . rw [Hl] at j3;obtain ⟨y0,y1⟩:=bM j3 (j:=i) xo;have y2:=dX j3 i 0;rw [x_];exact ⟨⟨_,y0⟩,y1,y2⟩
   . rw [x_] at j3;obtain ⟨y0,y1⟩:=bM j3 (j:=i) (by rw [List.length_set];omega);have y2:=dX j3 i 0;rw [List.set_set] at y2;rw [x_];exact ⟨⟨_,y0⟩,y1,y2⟩
  exact ⟨key.1,key.2.1,⟨fun q hq=>(ae _ _ _ hq).trans (j1 q hq),by rw [World.size_setCell];exact j2,j4,.inr key.2.2⟩,key.2.2⟩)
 have XD:=hid x_;clear Hl x_ d2 f2;refine di 14 xk (N:=70) rfl xk xk au (fun w'=>JB g2 w4.drew BA oI w') (fun W W'=>oI W->oI W') (gU [.is (.pointer (some ⟨b,0,none⟩)),.is (.pointer (some ⟨b,0,none⟩)),.is (.pointer (some ⟨b,0,none⟩)),.is (.pointer (some ⟨b,2,none⟩)),.is (.slice (some ⟨g2,0,none⟩) n k2),.is (.int .i64 i),.is (.pointer (some ⟨b,0,none⟩)),.is (.pointer (some ⟨b,0,none⟩)),.is (.pointer (some ⟨b,0,none⟩)),.is (.pointer (some ⟨b,3,none⟩)),.is (.slice (some ⟨g3,0,none⟩) n k3),.is (.int .i64 i),.is (.pointer (some ⟨g2,i,none⟩)),.now oI (fun _ _ h k=>h k)]) (dA _) QC.out ?steps ?fin
 case steps=>
  refine ⟨?o0,?o1,?o2,?o3,?o4,?o5,?o6,?o7,?o8,?o9,?o10,?o11,?o12,?o13,trivial⟩<;>intro u a w' ev hJ hd K hK
  case o0=>
   have e0:tg a 0= .pointer (some ⟨b,0,none⟩):=ev 0 au;have HK:=hid hK;clear hK ev hd;go_simp;exact HK.out _ _ aS hJ rfl id
  case o1=>
   have e55:tg a 55= .pointer (some ⟨b,0,none⟩):=(ev 55 au).trans (hd 0 _ xk rfl);have HK:=hid hK;clear hK ev hd;go_simp;exact HK.out _ _ aS hJ rfl id
  case o2=>
   have e56:tg a 56= .pointer (some ⟨b,0,none⟩):=(ev 56 au).trans (hd 1 _ xk rfl);have HK:=hid hK;clear hK ev hd;go_simp;exact HK.out _ _ aS hJ rfl id
  case o3=>
   have e57:tg a 57= .pointer (some ⟨b,0,none⟩):=(ev 57 au).trans (hd 2 _ xk rfl);have HK:=hid hK;clear hK ev hd;go_simp;exact HK.out _ _ aS hJ rfl id
  case o4=>
   have e58:tg a 58= .pointer (some ⟨b,2,none⟩):=(ev 58 au).trans (hd 3 _ xk rfl);have g0:=fF c2 (hJ.1 b xo);have HK:=hid hK;clear hK ev hd;go_simp;exact HK.out _ _ aS hJ rfl id
  case o5=>
   have e1:tg a 1= .int .i64 i:=ev 1 au;have HK:=hid hK;clear hK ev hd;go_simp;exact HK.out _ _ aS hJ rfl id
  case o6=>
   have e0:tg a 0= .pointer (some ⟨b,0,none⟩):=ev 0 au;have HK:=hid hK;clear hK ev hd;go_simp;exact HK.out _ _ aS hJ rfl id
  case o7=>
   have e61:tg a 61= .pointer (some ⟨b,0,none⟩):=(ev 61 au).trans (hd 6 _ xk rfl);have HK:=hid hK;clear hK ev hd;go_simp;exact HK.out _ _ aS hJ rfl id
  case o8=>
   have e62:tg a 62= .pointer (some ⟨b,0,none⟩):=(ev 62 au).trans (hd 7 _ xk rfl);have HK:=hid hK;clear hK ev hd;go_simp;exact HK.out _ _ aS hJ rfl id
  case o9=>
   have e63:tg a 63= .pointer (some ⟨b,0,none⟩):=(ev 63 au).trans (hd 8 _ xk rfl);have HK:=hid hK;clear hK ev hd;go_simp;exact HK.out _ _ aS hJ rfl id
  case o10=>
   have e64:tg a 64= .pointer (some ⟨b,3,none⟩):=(ev 64 au).trans (hd 9 _ xk rfl);have g0:=fF c3 (hJ.1 b xo);have HK:=hid hK;clear hK ev hd;go_simp;exact HK.out _ _ aS hJ rfl id
  case o11=>
   have e1:tg a 1= .int .i64 i:=ev 1 au;have HK:=hid hK;clear hK ev hd;go_simp;exact HK.out _ _ aS hJ rfl id
  case o12=>
   have e59:tg a 59= .slice (some ⟨g2,0,none⟩) n k2:=(ev 59 au).trans (hd 4 _ xk rfl);have e60:tg a 60= .int .i64 i:=(ev 60 au).trans (hd 5 _ xk rfl);have HK:=hid hK;clear hK ev hd;go_simp;exact HK.out _ _ aS hJ rfl id
  case o13=>
   have e67:tg a 67= .pointer (some ⟨g2,i,none⟩):=(ev 67 au).trans (hd 12 _ xk rfl);obtain ⟨⟨y,hy⟩,hf,hj⟩:=QB.out w' hJ;have HK:=hid hK;clear hK ev hd;go_simp;exact HK.out _ _ (fun h=>rfl) hj.1 hj.2 (fun _=>hj.2)
 case fin=>
  intro u w7 hJ hG;have h65:u 65= .slice (some ⟨g3,0,none⟩) n k3:=hG 10 _ rfl;have h66:u 66= .int .i64 i:=hG 11 _ rfl;have hnew:oI w7:=hG 13 _ rfl;rw [XD.out] at hnew;have O27:=hid hnew;have hz7:w7.heap.size=w4.heap.size:=hJ.2.1;have nC:∀q,q≠g2->w7.heap[q]? =w4.heap[q]? :=hJ.1;have K7:Hid (kV g1 g2 g3 g4 w w7):=hid (K4.out.step xo hJ.2.2.1.1 hJ.2.2.1.2.1 hJ.2.2.1.2.2 fun q hq h1 h2 h3 h4=>nC q xo);replace c0:w7.cell? ⟨b,0,none⟩=some (.int .i64 ai):=fF c0 (nC b xo);replace c1:w7.cell? ⟨b,1,none⟩=some (.slice (some ⟨g1,0,none⟩) lw k1):=fF c1 (nC b xo);replace c2:w7.cell? ⟨b,2,none⟩=some (.slice (some ⟨g2,0,none⟩) n k2):=fF c2 (nC b xo);replace c3:w7.cell? ⟨b,3,none⟩=some (.slice (some ⟨g3,0,none⟩) n k3):=fF c3 (nC b xo);replace c4:w7.cell? ⟨b,4,none⟩=some (.slice (some ⟨g4,0,none⟩) lc k4):=fF c4 (nC b xo);replace c5:w7.cell? ⟨b,5,none⟩=some (.int .u64 laid):=fF c5 (nC b xo);replace d3:w7.cell? ⟨g3,i,none⟩=some (.int .i64 vx):=fF d3 (nC g3 xo);replace d4:w7.cell? ⟨g4,s,none⟩=some (.int .i64 nx):=fF d4 (nC g4 xo);replace f1:w7.frozen? ⟨g1,qi,none⟩=false:=(bU (nC g1 xo) _).trans f1;replace f3:w7.frozen? ⟨g3,i,none⟩=false:=(bU (nC g3 xo) _).trans f3;replace f4:w7.frozen? ⟨g4,s,none⟩=false:=(bU (nC g4 xo) _).trans f4;replace f5:w7.frozen? ⟨b,5,none⟩=false:=(bU (nC b xo) _).trans f5;replace r0:=fF r0 (nC w.heap.size xo);replace p0:=(bU (nC w.heap.size xo) 0).trans p0;replace r1:=fF r1 (nC w.heap.size xo);replace p1:=(bU (nC w.heap.size xo) 1).trans p1;replace O1:=hid (af (W':=w7) O1.out fun j hj=>by cases hj;exact nC g1 xo);replace O3:=hid (af (W':=w7) O3.out fun j hj=>by cases hj;exact nC g3 xo);replace O4:=hid (af (W':=w7) O4.out fun j hj=>by cases hj;exact nC g4 xo);clear hG hJ hnew nC QC QB K4 O2 XD;simp only [aX,kR,dstsOf,List.take_succ_cons,List.take_zero,List.filterMap_cons,List.filterMap_nil,List.contains_cons,List.contains_nil,Nat.reduceBEq,Bool.or_false,Bool.false_or,Bool.or_true,Bool.true_or,if_true,if_false,Bool.false_eq_true,Nat.reduceAdd,Nat.zero_add,List.drop_succ_cons,List.drop_zero,h65,h66];go_wp2
  have rJ:∀q,q≠g3->q≠w.heap.size->(((w7.setCell ⟨g3,i,none⟩ (.int .i64 0)).setCell ⟨w.heap.size,0,none⟩ (.int .i64 kx)).setCell ⟨w.heap.size,1,none⟩ (.int .i64 vx)).heap[q]? =w7.heap[q]? :=fun q h1 h2=>by rw [ae _ _ _ h2,ae _ _ _ h2,ae _ _ _ h1]
  have hkR:∀q,q≠w.heap.size->(((w7.setCell ⟨g3,i,none⟩ (.int .i64 0)).setCell ⟨w.heap.size,0,none⟩ (.int .i64 kx)).setCell ⟨w.heap.size,1,none⟩ (.int .i64 vx)).heap[q]? =(w7.setCell ⟨g3,i,none⟩ (.int .i64 0)).heap[q]? :=fun q h2=>by rw [ae _ _ _ h2,ae _ _ _ h2]
  refine bodyPost_ret (iO rfl rfl (iM Tryz.underlying60 rfl xk (v:= .int .i64 kx) (u:= .int .i64 vx) (aB ax (World.cell?_setCell_same _ _ _ (aB (by simp<;>omega) r0))) (World.cell?_setCell_same _ _ _ (aB ax (aB (by simp<;>omega) r1))))) rfl ⟨rfl,?_,?_⟩
  . refine ⟨?_,?_,?_,?_,?_,?_,?_,?_,?_,?_,?_⟩
    . exact (World.cell?_of_block (a:=⟨b,0,none⟩) (rJ b xo xo)).trans c0
    . exact (World.cell?_of_block (a:=⟨b,1,none⟩) (rJ b xo xo)).trans c1
    . exact (World.cell?_of_block (a:=⟨b,2,none⟩) (rJ b xo xo)).trans c2
    . exact (World.cell?_of_block (a:=⟨b,3,none⟩) (rJ b xo xo)).trans c3
    . exact (World.cell?_of_block (a:=⟨b,4,none⟩) (rJ b xo xo)).trans c4
    . exact (World.cell?_of_block (a:=⟨b,5,none⟩) (rJ b xo xo)).trans c5
    . exact (bU (rJ b xo xo) 5).trans f5
    . exact af O1.out fun j hj=>by cases hj;exact rJ g1 xo xo
    . exact af O27.out fun j hj=>by cases hj;exact rJ g2 xo xo
    . exact af (dX O3.out i 0) fun j hj=>by cases hj;exact hkR g3 xo
    . exact af O4.out fun j hj=>by cases hj;exact rJ g4 xo xo
  . exact K7.out.step ax rfl rfl rfl fun q hq h1 h2 h3 h4=>rJ q h3 xo
end
section
open Go.RowKit
theorem P_ (b g1 lw k1 i q r:Nat) (x:Int) (hx0:0<=x) (hx1:x<18446744073709551616) (VY:(i:Int)/64=q) (hrI:(i:Int)%64=r) (YU:r<64) (hi:q<lw) (wF:lw<=65536) (hi2:i<=65536) (bt:Bool) (hbt:je x r=bt) (w:World) (c1:w.cell? ⟨b,1,none⟩=some (.slice (some ⟨g1,0,none⟩) lw k1)) (hc:w.cell? ⟨g1,q,none⟩=some (.int .u64 x)):
    Calls Tryz.prog 215 #[.pointer (some ⟨b,0,none⟩),.int .i64 i] w fun e w'=>e= .returned (.bool bt)/\w=w':=by
 have hand:=yu hx0 hx1 r;rw [hbt] at hand;clear hbt;cases bt with
 | true=>
  rw [if_pos rfl] at hand;go_enter Tryz.func215,Tryz.ntmps215
  go_wp2
  go_ret
  exact ⟨rfl,rfl⟩
 | false=>
  rw [if_neg au] at hand;go_enter Tryz.func215,Tryz.ntmps215
  go_wp2
  go_ret
  exact ⟨rfl,rfl⟩
def Ox (x:Int) (r:Nat):Int:=bits BinOp.andNot IntKind.u64 x (IntKind.u64.wrap (2^r))
def Q9 (x:Int) (r:Nat):Int:=bits BinOp.or IntKind.u64 x (IntKind.u64.wrap (2^r))
def Ew (ws:List Int) (i:Nat):List Int:=ws.set (i/64) (Ox (ws.getD (i/64) 0) (i%64))
def Gm (ws:List Int) (i:Nat):List Int:=ws.set (i/64) (Q9 (ws.getD (i/64) 0) (i%64))
structure LH (b g1 g2 g3 g4:Nat):Prop where
 n1:g1≠b
 n2:g2≠b
 n3:g3≠b
 n4:g4≠b
 n12:g1≠g2
 n13:g1≠g3
 n14:g1≠g4
 n23:g2≠g3
 n24:g2≠g4
 n34:g3≠g4
theorem Q8 (w:World) (B b g1 g2 g3 g4 k1 k2 k3 k4 lw n lc i S:Nat) (ai laid:Int) (ws ks vs cs:List Int) (h:rD B w b g1 g2 g3 g4 k1 k2 k3 k4 lw n lc ai laid ws ks vs cs) (hne:LH b g1 g2 g3 g4) (hu:fB ws) (hin:i<n) (hn:n<=65536) (hq:i/64<lw) (wF:lw<=65536) (hS:ai=S) (hS4:4<=S) (hs:i/S<lc) (hlc:lc<=65536) (hcs:∀k,0<=cs.getD k 0/\cs.getD k 0<=65536):
    Calls Tryz.prog 181 #[.pointer (some ⟨b,0,none⟩),.int .i64 i] w fun e W=>e= .returned (.agg #[.int .i64 (ks.getD i 0),.int .i64 (vs.getD i 0)])/\
      rD B W b g1 g2 g3 g4 k1 k2 k3 k4 lw n lc ai laid (Ew ws i) (ks.set i 0) (vs.set i 0) (if bG ws i=true then cs.set (i/S) (cs.getD (i/S) 0-1) else cs)/\kV g1 g2 g3 g4 w W:=by
 have hl1:=ik h.o1;have hl2:=ik h.o2;have hl3:=ik h.o3;have hl4:=ik h.o4;obtain ⟨d1,f1⟩:=bM h.o1 (j:=i/64) xo;obtain ⟨d2,f2⟩:=bM h.o2 (j:=i) xo;obtain ⟨d3,f3⟩:=bM h.o3 (j:=i) xo;obtain ⟨d4,f4⟩:=bM h.o4 (j:=i/S) xo;have hx:=hu.get (i/64);have hy:=hcs (i/S);have hsI:(i:Int)/ai=(i/S:Nat):=by rw [hS];push_cast;rfl
 have hrT:(i:Int).tmod 64=(i%64:Nat):=by rw [Int.tmod_eq_emod_of_nonneg xo];omega
 by_cases hb:bG ws i=true
 . rw [if_pos hb];exact MN w B b g1 g2 g3 g4 k1 k2 k3 k4 lw n lc i (i/64) (i%64) (i/S) ai _ _ _ _ laid ws ks vs cs h.c0 h.c1 h.c2 h.c3 h.c4 h.c5 h.f5 (hid h.o1) (hid h.o2) (hid h.o3) (hid h.o4) d1 d2 d3 d4 f1 f2 f3 f4 hin hn xo xo hrT xo hq hs hsI (by simp;omega) xo xo hlc wF hne.n1 hne.n2 hne.n3 hne.n4 hne.n12 hne.n13 hne.n14 hne.n23 hne.n24 hne.n34 hy.1 hy.2
     (hid fun W c1 hc=>P_ b g1 lw k1 i (i/64) (i%64) _ hx.1 hx.2 xo xo xo hq wF xo true hb W c1 hc) trivial
 . have hb':bG ws i=false:=by simpa using hb
   rw [if_neg hb];exact MO w B b g1 g2 g3 g4 k1 k2 k3 k4 lw n lc i (i/64) (i%64) (i/S) ai _ _ _ _ laid ws ks vs cs h.c0 h.c1 h.c2 h.c3 h.c4 h.c5 h.f5 (hid h.o1) (hid h.o2) (hid h.o3) (hid h.o4) d1 d2 d3 d4 f1 f2 f3 f4 hin hn xo xo hrT xo hq hs hsI (by simp;omega) xo xo hlc wF hne.n1 hne.n2 hne.n3 hne.n4 hne.n12 hne.n13 hne.n14 hne.n23 hne.n24 hne.n34 hy.1 hy.2
     (hid fun W c1 hc=>P_ b g1 lw k1 i (i/64) (i%64) _ hx.1 hx.2 xo xo xo hq wF xo false hb' W c1 hc) trivial
end
section
open Go.RowKit Go.Shelf
attribute [local go_sem] Oper.semAt_some
structure rq (b g1 g2 g3 g4:Nat) (w W:World):Prop where
 os:W.os=w.os
 tape:W.tape=w.tape
 output:W.output=w.output
 size:w.heap.size<=W.heap.size
 block:∀q,q<w.heap.size->q≠b->q≠g1->q≠g2->q≠g3->q≠g4->W.heap[q]? =w.heap[q]?
theorem rq.of {b g1 g2 g3 g4:Nat} {w W W':World} (h:Below w.heap.size w W) (k:kV g1 g2 g3 g4 W W'):rq b g1 g2 g3 g4 w W':=
  ⟨k.os.trans h.os,k.tape.trans h.tape,k.output.trans h.output,Nat.le_trans h.size k.size,fun q hq _ h1 h2 h3 h4=>(k.block q (Nat.lt_of_lt_of_le hq h.size) h1 h2 h3 h4).trans (h.block q hq)⟩
theorem rq.step {b g1 g2 g3 g4:Nat} {w W W':World} (h:rq b g1 g2 g3 g4 w W) (h0:W'.heap.size=W.heap.size) (h1:W'.os=W.os) (h2:W'.tape=W.tape) (h3:W'.output=W.output) (hb:∀q,q<w.heap.size->q≠b->q≠g1->q≠g2->q≠g3->q≠g4->W'.heap[q]? =W.heap[q]?):rq b g1 g2 g3 g4 w W':=
  ⟨h1.trans h.os,h2.trans h.tape,h3.trans h.output,by rw [h0];exact h.size,fun q hq z a b c d=>(hb q hq z a b c d).trans (h.block q hq z a b c d)⟩
theorem MP (w:World) (B b g1 g2 g3 g4 k1 k2 k3 k4 lw n lc i qi r s:Nat) (ai x nx:Int) (laid key val:Int) (ws ks vs cs:List Int) (y0:b<w.heap.size) (y1:g1<w.heap.size) (y2:g2<w.heap.size) (y3:g3<w.heap.size) (y4:g4<w.heap.size)
    (hin:i<n) (hn:n<=65536) (VY:(i:Int)/64=qi) (hrI:(i:Int)%64=r) (hrT:(i:Int).tmod 64=r) (hr:r<64) (hqi:qi<lw) (hs:s<lc) (hsI:(i:Int)/ai=s) (hsg:(ai==0)=false) (adR:¬ai=0) (adQ:4<=ai) (hlc:lc<=65536) (wF:lw<=65536)
    (n1:g1≠b) (n2:g2≠b) (n3:g3≠b) (n4:g4≠b) (n12:g1≠g2) (n13:g1≠g3) (n14:g1≠g4) (n23:g2≠g3) (n24:g2≠g4) (n34:g3≠g4) (hx:ws.getD qi 0=x) (abL:cs.getD s 0=nx) (hnx: -1<=nx) (hnx2:nx<=65536)
    (TK:Hid (∀W,Below w.heap.size w W->Calls Tryz.prog 181 #[.pointer (some ⟨b,0,none⟩),.int .i64 i] W fun e W'=>(∃v,e= .returned v)/\rD B W' b g1 g2 g3 g4 k1 k2 k3 k4 lw n lc ai laid ws ks vs cs/\kV g1 g2 g3 g4 W W')):
    Calls Tryz.prog 114 #[.pointer (some ⟨b,0,none⟩),.int .i64 i,.agg #[.int .i64 key,.int .i64 val]] w fun e W=>e= .returned (.tuple #[])/\rD B W b g1 g2 g3 g4 k1 k2 k3 k4 lw n lc ai (IntKind.u64.wrap (laid+1)) (ws.set qi (bits BinOp.or IntKind.u64 x (IntKind.u64.wrap (2^r)))) (ks.set i key) (vs.set i val) (cs.set s (nx+1))/\rq b g1 g2 g3 g4 w W:=by
 go_enter Tryz.func114,Tryz.ntmps114
 go_wp2_with fail
 have hba:Below w.heap.size w (w.alloc (.cells #[.int .i64 key,.int .i64 val] 60)):=br.alloc (Nat.le_refl _) _;have hz1:(w.alloc (.cells #[.int .i64 key,.int .i64 val] 60)).heap.size=w.heap.size+1:=by simp
 have r0:(w.alloc (.cells #[.int .i64 key,.int .i64 val] 60)).cell? ⟨w.heap.size,0,none⟩=some (.int .i64 key):=iP;have r1:(w.alloc (.cells #[.int .i64 key,.int .i64 val] 60)).cell? ⟨w.heap.size,1,none⟩=some (.int .i64 val):=iP;generalize (w.alloc (.cells #[.int .i64 key,.int .i64 val] 60))=w1 at *;refine (TK.out w1 hba).mono ?_;rintro e w2 ⟨⟨rv,rfl⟩,⟨c0,c1,c2,c3,c4,c5,f5,o1,o2,o3,o4⟩,KA⟩;have hz2:=KA.size;have K2:Hid (rq b g1 g2 g3 g4 w w2):=hid (rq.of hba KA);replace r0:=fF r0 (KA.block w.heap.size xo xo xo xo xo);replace r1:=fF r1 (KA.block w.heap.size xo xo xo xo xo);obtain ⟨d1,f1⟩:=bM o1 (j:=qi) (by have:=ik o1;omega);obtain ⟨d2,f2⟩:=bM o2 (j:=i) (by have:=ik o2;omega);obtain ⟨d3,f3⟩:=bM o3 (j:=i) (by have:=ik o3;omega);obtain ⟨d4,f4⟩:=bM o4 (j:=s) (by have:=ik o4;omega);rw [hx] at d1;rw [abL] at d4;generalize ks.getD i 0=kx at d2;generalize vs.getD i 0=vx at d3;have O1:=hid o1;have O2:=hid o2;have O3:=hid o3;have O4:=hid o4;have HX:=hid hx;have HNX:=hid abL;clear o1 o2 o3 o4 KA hba hx abL;have hiI:(i:Int)<n:=xo;have VX:(qi:Int)<lw:=xo;have adS:(s:Int)<lc:=xo;have hws:IntKind.i64.wrap (s:Int)=(s:Int):=IntWalk.i64_in _ xo;have hwq:IntKind.i64.wrap (qi:Int)=(qi:Int):=IntWalk.i64_in _ xo;have hwr:IntKind.i64.wrap (r:Int)=(r:Int):=IntWalk.i64_in _ xo;have hwn:IntKind.i64.wrap (nx+1)=nx+1:=IntWalk.i64_in _ xo;go_wp2
 go_still_tail 15,xk
 go_wp2
 have h_:∀q,q≠g4->((w2.setCell ⟨g4,s,none⟩ (.int .i64 (nx+1))).drew).heap[q]? =w2.heap[q]? :=fun q hq=>ae _ _ _ hq
 have qC:∀a:Addr,((w2.setCell ⟨g4,s,none⟩ (.int .i64 (nx+1))).drew).frozen? a=w2.frozen? a:=fun a=>by rw [World.frozen?_drew,World.frozen?_setCell]
 have K3:Hid (rq b g1 g2 g3 g4 w ((w2.setCell ⟨g4,s,none⟩ (.int .i64 (nx+1))).drew)):=hid (K2.out.step ax rfl rfl rfl fun q hq h0 h1 h2 h3 h4=>h_ q xo);have kD:((w2.setCell ⟨g4,s,none⟩ (.int .i64 (nx+1))).drew).heap.size=w2.heap.size:=by simp
 have nO4:Hid (((w2.setCell ⟨g4,s,none⟩ (.int .i64 (nx+1))).drew).ownsRow B 3 1 (.slice (some ⟨g4,0,none⟩) lc k4) lc ((cs.set s (nx+1)).map (Value.int .i64))):=hid (l_ (dX O4.out s (nx+1)));generalize ((w2.setCell ⟨g4,s,none⟩ (.int .i64 (nx+1))).drew)=w3 at *;clear d4;replace c0:w3.cell? ⟨b,0,none⟩=some (.int .i64 ai):=fF c0 (h_ b xo);replace c1:w3.cell? ⟨b,1,none⟩=some (.slice (some ⟨g1,0,none⟩) lw k1):=fF c1 (h_ b xo);replace c2:w3.cell? ⟨b,2,none⟩=some (.slice (some ⟨g2,0,none⟩) n k2):=fF c2 (h_ b xo);replace c3:w3.cell? ⟨b,3,none⟩=some (.slice (some ⟨g3,0,none⟩) n k3):=fF c3 (h_ b xo);replace c4:w3.cell? ⟨b,4,none⟩=some (.slice (some ⟨g4,0,none⟩) lc k4):=fF c4 (h_ b xo);replace c5:w3.cell? ⟨b,5,none⟩=some (.int .u64 laid):=fF c5 (h_ b xo);replace d1:w3.cell? ⟨g1,qi,none⟩=some (.int .u64 x):=fF d1 (h_ g1 xo);replace d2:w3.cell? ⟨g2,i,none⟩=some (.int .i64 kx):=fF d2 (h_ g2 xo);replace d3:w3.cell? ⟨g3,i,none⟩=some (.int .i64 vx):=fF d3 (h_ g3 xo);replace f1:w3.frozen? ⟨g1,qi,none⟩=false:=(qC _).trans f1;replace f2:w3.frozen? ⟨g2,i,none⟩=false:=(qC _).trans f2;replace f3:w3.frozen? ⟨g3,i,none⟩=false:=(qC _).trans f3;replace f4:w3.frozen? ⟨g4,s,none⟩=false:=(qC _).trans f4;replace f5:w3.frozen? ⟨b,5,none⟩=false:=(qC _).trans f5;replace r0:=fF r0 (h_ w.heap.size xo);replace r1:=fF r1 (h_ w.heap.size xo);replace O1:=hid (af (W':=w3) O1.out fun j hj=>by cases hj;exact h_ g1 xo);replace O2:=hid (af (W':=w3) O2.out fun j hj=>by cases hj;exact h_ g2 xo);replace O3:=hid (af (W':=w3) O3.out fun j hj=>by cases hj;exact h_ g3 xo);replace O4:=nO4;clear nO4 h_ qC K2;go_still_tail 13,xk
 go_wp2
 have eu:∀q,q≠g1->((w3.setCell ⟨g1,qi,none⟩ (.int .u64 (bits BinOp.or IntKind.u64 x (IntKind.u64.wrap (2^r))))).drew).heap[q]? =w3.heap[q]? :=fun q hq=>ae _ _ _ hq
 have kF:∀a:Addr,((w3.setCell ⟨g1,qi,none⟩ (.int .u64 (bits BinOp.or IntKind.u64 x (IntKind.u64.wrap (2^r))))).drew).frozen? a=w3.frozen? a:=fun a=>by rw [World.frozen?_drew,World.frozen?_setCell]
 have K4:Hid (rq b g1 g2 g3 g4 w ((w3.setCell ⟨g1,qi,none⟩ (.int .u64 (bits BinOp.or IntKind.u64 x (IntKind.u64.wrap (2^r))))).drew)):=hid (K3.out.step ax rfl rfl rfl fun q hq h0 h1 h2 h3 h4=>eu q xo);have Dj:((w3.setCell ⟨g1,qi,none⟩ (.int .u64 (bits BinOp.or IntKind.u64 x (IntKind.u64.wrap (2^r))))).drew).heap.size=w3.heap.size:=by simp
 have nO1:Hid (((w3.setCell ⟨g1,qi,none⟩ (.int .u64 (bits BinOp.or IntKind.u64 x (IntKind.u64.wrap (2^r))))).drew).ownsRow B 27 1 (.slice (some ⟨g1,0,none⟩) lw k1) lw ((ws.set qi (bits BinOp.or IntKind.u64 x (IntKind.u64.wrap (2^r)))).map (Value.int .u64))):=hid (l_ (dX O1.out qi (bits BinOp.or IntKind.u64 x (IntKind.u64.wrap (2^r)))));generalize ((w3.setCell ⟨g1,qi,none⟩ (.int .u64 (bits BinOp.or IntKind.u64 x (IntKind.u64.wrap (2^r))))).drew)=w4 at *;clear d1;replace c0:w4.cell? ⟨b,0,none⟩=some (.int .i64 ai):=fF c0 (eu b xo);replace c1:w4.cell? ⟨b,1,none⟩=some (.slice (some ⟨g1,0,none⟩) lw k1):=fF c1 (eu b xo);replace c2:w4.cell? ⟨b,2,none⟩=some (.slice (some ⟨g2,0,none⟩) n k2):=fF c2 (eu b xo);replace c3:w4.cell? ⟨b,3,none⟩=some (.slice (some ⟨g3,0,none⟩) n k3):=fF c3 (eu b xo);replace c4:w4.cell? ⟨b,4,none⟩=some (.slice (some ⟨g4,0,none⟩) lc k4):=fF c4 (eu b xo);replace c5:w4.cell? ⟨b,5,none⟩=some (.int .u64 laid):=fF c5 (eu b xo);replace d2:w4.cell? ⟨g2,i,none⟩=some (.int .i64 kx):=fF d2 (eu g2 xo);replace d3:w4.cell? ⟨g3,i,none⟩=some (.int .i64 vx):=fF d3 (eu g3 xo);replace f1:w4.frozen? ⟨g1,qi,none⟩=false:=(kF _).trans f1;replace f2:w4.frozen? ⟨g2,i,none⟩=false:=(kF _).trans f2;replace f3:w4.frozen? ⟨g3,i,none⟩=false:=(kF _).trans f3;replace f4:w4.frozen? ⟨g4,s,none⟩=false:=(kF _).trans f4;replace f5:w4.frozen? ⟨b,5,none⟩=false:=(kF _).trans f5;replace r0:=fF r0 (eu w.heap.size xo);replace r1:=fF r1 (eu w.heap.size xo);replace O2:=hid (af (W':=w4) O2.out fun j hj=>by cases hj;exact eu g2 xo);replace O3:=hid (af (W':=w4) O3.out fun j hj=>by cases hj;exact eu g3 xo);replace O4:=hid (af (W':=w4) O4.out fun j hj=>by cases hj;exact eu g4 xo);replace O1:=nO1;clear nO1 eu kF K3;obtain ⟨BA,Hl⟩:∃P:World->Prop,P=fun W=>W.ownsRow B 2 1 (.slice (some ⟨g2,0,none⟩) n k2) n ((ks).map (Value.int .i64)):=⟨_,rfl⟩
 obtain ⟨oI,x_⟩:∃P:World->Prop,P=fun W=>W.ownsRow B 2 1 (.slice (some ⟨g2,0,none⟩) n k2) n ((ks.set i key).map (Value.int .i64)):=⟨_,rfl⟩
 have QC:Hid (JB g2 w4.drew BA oI w4.drew):=hid ⟨fun _ _=>rfl,rfl,⟨rfl,rfl,rfl⟩,.inl (by rw [Hl];exact l_ O2.out)⟩;have hkl:ks.length=n:=ik O2.out;have QB:Hid (∀w',JB g2 w4.drew BA oI w'->(∃y,w'.cell? ⟨g2,i,none⟩=some (.int .i64 y))/\w'.frozen? ⟨g2,i,none⟩=false/\JB g2 w4.drew BA oI (w'.setCell ⟨g2,i,none⟩ (.int .i64 key))/\oI (w'.setCell ⟨g2,i,none⟩ (.int .i64 key))):=hid (by
  rintro w' ⟨j1,j2,j4,j3⟩;have YO:(∃y,w'.cell? ⟨g2,i,none⟩=some (.int .i64 y))/\w'.frozen? ⟨g2,i,none⟩=false/\oI (w'.setCell ⟨g2,i,none⟩ (.int .i64 key)):=by
   rcases j3 with j3|j3
   . rw [Hl] at j3;obtain ⟨y0,y1⟩:=bM j3 (j:=i) xo;have y2:=dX j3 i key;rw [x_];exact ⟨⟨_,y0⟩,y1,y2⟩
   . rw [x_] at j3;obtain ⟨y0,y1⟩:=bM j3 (j:=i) (by rw [List.length_set];omega);have y2:=dX j3 i key;rw [List.set_set] at y2;rw [x_];exact ⟨⟨_,y0⟩,y1,y2⟩
  exact ⟨YO.1,YO.2.1,⟨fun q hq=>(ae _ _ _ hq).trans (j1 q hq),by rw [World.size_setCell];exact j2,j4,.inr YO.2.2⟩,YO.2.2⟩)
 have XD:=hid x_;clear Hl x_ d2 f2;refine di 18 xk (N:=66) rfl xk xk au (fun w'=>JB g2 w4.drew BA oI w') (fun W W'=>oI W->oI W') (gU [.is (.pointer (some ⟨b,0,none⟩)),.is (.pointer (some ⟨b,0,none⟩)),.is (.pointer (some ⟨b,0,none⟩)),.is (.pointer (some ⟨b,2,none⟩)),.is (.slice (some ⟨g2,0,none⟩) n k2),.is (.int .i64 i),.is (.pointer (some ⟨b,0,none⟩)),.is (.pointer (some ⟨b,0,none⟩)),.is (.pointer (some ⟨b,0,none⟩)),.is (.pointer (some ⟨b,3,none⟩)),.is (.slice (some ⟨g3,0,none⟩) n k3),.is (.int .i64 i),.is (.pointer (some ⟨w.heap.size,0,none⟩)),.is (.int .i64 key),.is (.pointer (some ⟨w.heap.size,1,none⟩)),.is (.int .i64 val),.is (.pointer (some ⟨g2,i,none⟩)),.now oI (fun _ _ h k=>h k)]) (dA _) QC.out ?steps ?fin
 case steps=>
  refine ⟨?o0,?o1,?o2,?o3,?o4,?o5,?o6,?o7,?o8,?o9,?o10,?o11,?o12,?o13,?o14,?PX,?o16,?Uj,trivial⟩<;>intro u a w' ev hJ hd K hK
  case o0=>
   have e0:tg a 0= .pointer (some ⟨b,0,none⟩):=ev 0 au;have HK:=hid hK;clear hK ev hd;go_simp;exact HK.out _ _ aS hJ rfl id
  case o1=>
   have e39:tg a 39= .pointer (some ⟨b,0,none⟩):=(ev 39 au).trans (hd 0 _ xk rfl);have HK:=hid hK;clear hK ev hd;go_simp;exact HK.out _ _ aS hJ rfl id
  case o2=>
   have e40:tg a 40= .pointer (some ⟨b,0,none⟩):=(ev 40 au).trans (hd 1 _ xk rfl);have HK:=hid hK;clear hK ev hd;go_simp;exact HK.out _ _ aS hJ rfl id
  case o3=>
   have e41:tg a 41= .pointer (some ⟨b,0,none⟩):=(ev 41 au).trans (hd 2 _ xk rfl);have HK:=hid hK;clear hK ev hd;go_simp;exact HK.out _ _ aS hJ rfl id
  case o4=>
   have e42:tg a 42= .pointer (some ⟨b,2,none⟩):=(ev 42 au).trans (hd 3 _ xk rfl);have g0:=fF c2 (hJ.1 b xo);have HK:=hid hK;clear hK ev hd;go_simp;exact HK.out _ _ aS hJ rfl id
  case o5=>
   have e1:tg a 1= .int .i64 i:=ev 1 au;have HK:=hid hK;clear hK ev hd;go_simp;exact HK.out _ _ aS hJ rfl id
  case o6=>
   have e0:tg a 0= .pointer (some ⟨b,0,none⟩):=ev 0 au;have HK:=hid hK;clear hK ev hd;go_simp;exact HK.out _ _ aS hJ rfl id
  case o7=>
   have e45:tg a 45= .pointer (some ⟨b,0,none⟩):=(ev 45 au).trans (hd 6 _ xk rfl);have HK:=hid hK;clear hK ev hd;go_simp;exact HK.out _ _ aS hJ rfl id
  case o8=>
   have e46:tg a 46= .pointer (some ⟨b,0,none⟩):=(ev 46 au).trans (hd 7 _ xk rfl);have HK:=hid hK;clear hK ev hd;go_simp;exact HK.out _ _ aS hJ rfl id
  case o9=>
   have e47:tg a 47= .pointer (some ⟨b,0,none⟩):=(ev 47 au).trans (hd 8 _ xk rfl);have HK:=hid hK;clear hK ev hd;go_simp;exact HK.out _ _ aS hJ rfl id
  case o10=>
   have e48:tg a 48= .pointer (some ⟨b,3,none⟩):=(ev 48 au).trans (hd 9 _ xk rfl);have g0:=fF c3 (hJ.1 b xo);have HK:=hid hK;clear hK ev hd;go_simp;exact HK.out _ _ aS hJ rfl id
  case o11=>
   have e1:tg a 1= .int .i64 i:=ev 1 au;have HK:=hid hK;clear hK ev hd;go_simp;exact HK.out _ _ aS hJ rfl id
  case o12=>
   have e5:tg a 5= .pointer (some ⟨w.heap.size,0,none⟩):=ev 5 au;have HK:=hid hK;clear hK ev hd;go_simp;exact HK.out _ _ aS hJ rfl id
  case o13=>
   have e51:tg a 51= .pointer (some ⟨w.heap.size,0,none⟩):=(ev 51 au).trans (hd 12 _ xk rfl);have g0:=fF r0 (hJ.1 w.heap.size xo);have HK:=hid hK;clear hK ev hd;go_simp;exact HK.out _ _ aS hJ rfl id
  case o14=>
   have e5:tg a 5= .pointer (some ⟨w.heap.size,0,none⟩):=ev 5 au;have HK:=hid hK;clear hK ev hd;go_simp;exact HK.out _ _ aS hJ rfl id
  case PX=>
   have e53:tg a 53= .pointer (some ⟨w.heap.size,1,none⟩):=(ev 53 au).trans (hd 14 _ xk rfl);have g0:=fF r1 (hJ.1 w.heap.size xo);have HK:=hid hK;clear hK ev hd;go_simp;exact HK.out _ _ aS hJ rfl id
  case o16=>
   have e43:tg a 43= .slice (some ⟨g2,0,none⟩) n k2:=(ev 43 au).trans (hd 4 _ xk rfl);have e44:tg a 44= .int .i64 i:=(ev 44 au).trans (hd 5 _ xk rfl);have HK:=hid hK;clear hK ev hd;go_simp;exact HK.out _ _ aS hJ rfl id
  case Uj=>
   have e55:tg a 55= .pointer (some ⟨g2,i,none⟩):=(ev 55 au).trans (hd 16 _ xk rfl);have e52:tg a 52= .int .i64 key:=(ev 52 au).trans (hd 13 _ xk rfl);obtain ⟨⟨y,hy⟩,hf,hj⟩:=QB.out w' hJ;have HK:=hid hK;clear hK ev hd;go_simp;exact HK.out _ _ (fun h=>rfl) hj.1 hj.2 (fun _=>hj.2)
 case fin=>
  intro u w7 hJ hG;have h49:u 49= .slice (some ⟨g3,0,none⟩) n k3:=hG 10 _ rfl;have h50:u 50= .int .i64 i:=hG 11 _ rfl;have h54:u 54= .int .i64 val:=hG 15 _ rfl;have hnew:oI w7:=hG 17 _ rfl;rw [XD.out] at hnew;have O27:=hid hnew;have hz7:w7.heap.size=w4.heap.size:=hJ.2.1;have nC:∀q,q≠g2->w7.heap[q]? =w4.heap[q]? :=hJ.1;have K7:Hid (rq b g1 g2 g3 g4 w w7):=hid (K4.out.step xo hJ.2.2.1.1 hJ.2.2.1.2.1 hJ.2.2.1.2.2 fun q hq h0 h1 h2 h3 h4=>nC q xo);replace c0:w7.cell? ⟨b,0,none⟩=some (.int .i64 ai):=fF c0 (nC b xo);replace c1:w7.cell? ⟨b,1,none⟩=some (.slice (some ⟨g1,0,none⟩) lw k1):=fF c1 (nC b xo);replace c2:w7.cell? ⟨b,2,none⟩=some (.slice (some ⟨g2,0,none⟩) n k2):=fF c2 (nC b xo);replace c3:w7.cell? ⟨b,3,none⟩=some (.slice (some ⟨g3,0,none⟩) n k3):=fF c3 (nC b xo);replace c4:w7.cell? ⟨b,4,none⟩=some (.slice (some ⟨g4,0,none⟩) lc k4):=fF c4 (nC b xo);replace c5:w7.cell? ⟨b,5,none⟩=some (.int .u64 laid):=fF c5 (nC b xo);replace d3:w7.cell? ⟨g3,i,none⟩=some (.int .i64 vx):=fF d3 (nC g3 xo);replace f1:w7.frozen? ⟨g1,qi,none⟩=false:=(bU (nC g1 xo) _).trans f1;replace f3:w7.frozen? ⟨g3,i,none⟩=false:=(bU (nC g3 xo) _).trans f3;replace f4:w7.frozen? ⟨g4,s,none⟩=false:=(bU (nC g4 xo) _).trans f4;replace f5:w7.frozen? ⟨b,5,none⟩=false:=(bU (nC b xo) _).trans f5;replace O1:=hid (af (W':=w7) O1.out fun j hj=>by cases hj;exact nC g1 xo);replace O3:=hid (af (W':=w7) O3.out fun j hj=>by cases hj;exact nC g3 xo);replace O4:=hid (af (W':=w7) O4.out fun j hj=>by cases hj;exact nC g4 xo);clear hG hJ hnew nC QC QB K4 O2 XD;simp only [aX,kR,dstsOf,List.take_succ_cons,List.take_zero,List.filterMap_cons,List.filterMap_nil,List.contains_cons,List.contains_nil,Nat.reduceBEq,Bool.or_false,Bool.false_or,Bool.or_true,Bool.true_or,if_true,if_false,Bool.false_eq_true,Nat.reduceAdd,Nat.zero_add,List.drop_succ_cons,List.drop_zero,h49,h50,h54];have b5:(w7.setCell ⟨g3,i,none⟩ (.int .i64 val)).cell? ⟨b,5,none⟩=some (.int .u64 laid):=aB (by simp<;>omega) c5;go_wp2
  have rJ:∀q,q≠g3->q≠b->((w7.setCell ⟨g3,i,none⟩ (.int .i64 val)).setCell ⟨b,5,none⟩ (.int .u64 (IntKind.u64.wrap (laid+1)))).heap[q]? =w7.heap[q]? :=fun q h1 h2=>by rw [ae _ _ _ h2,ae _ _ _ h1]
  have hkB:∀q,q≠b->((w7.setCell ⟨g3,i,none⟩ (.int .i64 val)).setCell ⟨b,5,none⟩ (.int .u64 (IntKind.u64.wrap (laid+1)))).heap[q]? =(w7.setCell ⟨g3,i,none⟩ (.int .i64 val)).heap[q]? :=fun q h2=>by rw [ae _ _ _ h2]
  refine bodyPost_end (results_none rfl _ _ _) rfl ⟨rfl,?_,?_⟩
  . refine ⟨?_,?_,?_,?_,?_,?_,?_,?_,?_,?_,?_⟩
    . exact aB ax (aB (by simp<;>omega) c0)
    . exact aB ax (aB (by simp<;>omega) c1)
    . exact aB ax (aB (by simp<;>omega) c2)
    . exact aB ax (aB (by simp<;>omega) c3)
    . exact aB ax (aB (by simp<;>omega) c4)
    . exact World.cell?_setCell_same _ _ _ b5
    . rw [World.frozen?_setCell,World.frozen?_setCell];exact f5
    . exact af O1.out fun j hj=>by cases hj;exact rJ g1 xo xo
    . exact af O27.out fun j hj=>by cases hj;exact rJ g2 xo xo
    . exact af (dX O3.out i val) fun j hj=>by cases hj;exact hkB g3 xo
    . exact af O4.out fun j hj=>by cases hj;exact rJ g4 xo xo
  . exact K7.out.step ax rfl rfl rfl fun q hq h0 h1 h2 h3 h4=>rJ q h3 h0
end
section
open Go.RowKit
def uz (c:aW) (i:Nat):aW:=⟨c.ai,Ew c.ws i,c.ks.set i 0,c.vs.set i 0,(if bG c.ws i=true then c.cs.set (i/c.ai.toNat) (c.cs.getD (i/c.ai.toNat) 0-1) else c.cs),c.laid⟩
def ul (c:aW) (i:Nat) (key val:Int):aW:=⟨c.ai,Gm (uz c i).ws i,(uz c i).ks.set i key,(uz c i).vs.set i val,(uz c i).cs.set (i/c.ai.toNat) ((uz c i).cs.getD (i/c.ai.toNat) 0+1),IntKind.u64.wrap (c.laid+1)⟩
def Vu (c:aW):Bool:=c.ws.all (fun x=>decide (0<=x)&&decide (x<18446744073709551616))&&c.cs.all (fun x=>decide (0<=x)&&decide (x<=65535))
theorem adz {c:aW} (h:Vu c=true):fB c.ws:=by
 intro x hx;simp only [Vu,Bool.and_eq_true,List.all_eq_true,decide_eq_true_eq] at h;exact h.1 x hx
theorem aax {c:aW} (h:Vu c=true) (k:Nat):0<=c.cs.getD k 0/\c.cs.getD k 0<=65535:=by
 simp only [Vu,Bool.and_eq_true,List.all_eq_true,decide_eq_true_eq] at h;rw [List.getD_eq_getElem?_getD];cases hx:c.cs[k]? with
 | none=>simp
 | some x=>simpa using h.2 x (List.mem_of_getElem? hx)
def xy (B:Nat) (W:World) (b g1 g2 g3 g4 k1 k2 k3 k4 lw n lc:Nat) (c:aW):Prop:=rD B W b g1 g2 g3 g4 k1 k2 k3 k4 lw n lc c.ai c.laid c.ws c.ks c.vs c.cs
theorem O9 (w:World) (B b g1 g2 g3 g4 k1 k2 k3 k4 lw n lc i S:Nat) (c:aW) (h:xy B w b g1 g2 g3 g4 k1 k2 k3 k4 lw n lc c) (hne:LH b g1 g2 g3 g4) (hok:Vu c=true) (hin:i<n) (hn:n<=65536) (hq:i/64<lw) (wF:lw<=65536) (hS:c.ai=S) (hS4:4<=S) (hs:i/S<lc) (hlc:lc<=65536):
    Calls Tryz.prog 181 #[.pointer (some ⟨b,0,none⟩),.int .i64 i] w fun e W=>e= .returned (.agg #[.int .i64 (c.ks.getD i 0),.int .i64 (c.vs.getD i 0)])/\xy B W b g1 g2 g3 g4 k1 k2 k3 k4 lw n lc (uz c i)/\kV g1 g2 g3 g4 w W:=by
 have:=Q8 w B b g1 g2 g3 g4 k1 k2 k3 k4 lw n lc i S c.ai c.laid c.ws c.ks c.vs c.cs h hne (adz hok) hin hn hq wF hS hS4 hs hlc (fun k=>by have:=aax hok k;omega);have e:c.ai.toNat=S:=by rw [hS];rfl
 unfold xy uz;rw [e];exact this
theorem rD.blocks {B:Nat} {W:World} {b g1 g2 g3 g4 k1 k2 k3 k4 lw n lc:Nat} {ai laid:Int} {ws ks vs cs:List Int} (h:rD B W b g1 g2 g3 g4 k1 k2 k3 k4 lw n lc ai laid ws ks vs cs):b<W.heap.size/\g1<W.heap.size/\g2<W.heap.size/\g3<W.heap.size/\g4<W.heap.size:=
  ⟨World.block_lt_of_cell? _ _ h.c0,(h.o1.lt g1 rfl).2,(h.o2.lt g2 rfl).2,(h.o3.lt g3 rfl).2,(h.o4.lt g4 rfl).2⟩
theorem rD.below {B:Nat} {W W':World} {b g1 g2 g3 g4 k1 k2 k3 k4 lw n lc:Nat} {ai laid:Int} {ws ks vs cs:List Int} (h:rD B W b g1 g2 g3 g4 k1 k2 k3 k4 lw n lc ai laid ws ks vs cs) (hb:Below W.heap.size W W'):rD B W' b g1 g2 g3 g4 k1 k2 k3 k4 lw n lc ai laid ws ks vs cs:=by
 have hl:=h.blocks.1;exact ⟨(hb.cell (p:=⟨b,0,none⟩) hl).trans h.c0,(hb.cell (p:=⟨b,1,none⟩) hl).trans h.c1,(hb.cell (p:=⟨b,2,none⟩) hl).trans h.c2,(hb.cell (p:=⟨b,3,none⟩) hl).trans h.c3,(hb.cell (p:=⟨b,4,none⟩) hl).trans h.c4,(hb.cell (p:=⟨b,5,none⟩) hl).trans h.c5,(hb.frozen (p:=⟨b,5,none⟩) hl).trans h.f5,ay h.o1 hb,ay h.o2 hb,ay h.o3 hb,ay h.o4 hb⟩
theorem VP (w:World) (B b g1 g2 g3 g4 k1 k2 k3 k4 lw n lc i S:Nat) (c:aW) (key val:Int) (h:xy B w b g1 g2 g3 g4 k1 k2 k3 k4 lw n lc c) (hne:LH b g1 g2 g3 g4) (hok:Vu c=true) (hin:i<n) (hn:n<=65536) (hq:i/64<lw) (wF:lw<=65536) (hS:c.ai=S) (hS4:4<=S) (hs:i/S<lc) (hlc:lc<=65536):
    Calls Tryz.prog 114 #[.pointer (some ⟨b,0,none⟩),.int .i64 i,.agg #[.int .i64 key,.int .i64 val]] w fun e W=>e= .returned (.tuple #[])/\xy B W b g1 g2 g3 g4 k1 k2 k3 k4 lw n lc (ul c i key val)/\rq b g1 g2 g3 g4 w W:=by
 have e:c.ai.toNat=S:=by rw [hS];rfl
 have hbl:=rD.blocks h;have hrT:(i:Int).tmod 64=(i%64:Nat):=by rw [Int.tmod_eq_emod_of_nonneg xo];omega
 have hsI:(i:Int)/c.ai=(i/S:Nat):=by rw [hS];push_cast;rfl
 have hnx: -1<=(uz c i).cs.getD (i/S) 0/\(uz c i).cs.getD (i/S) 0<=65536:=by
  have hk:=aax hok (i/S);unfold uz;rw [e];dsimp only;split
  . by_cases hl:i/S<c.cs.length
    . rw [uB hl];rw [if_pos rfl];omega
    . rw [List.getD_eq_getElem?_getD,List.getElem?_eq_none (by rw [List.length_set];omega)];simp
  . omega
 have:=MP w B b g1 g2 g3 g4 k1 k2 k3 k4 lw n lc i (i/64) (i%64) (i/S) c.ai _ _ c.laid key val (uz c i).ws (uz c i).ks (uz c i).vs (uz c i).cs hbl.1 hbl.2.1 hbl.2.2.1 hbl.2.2.2.1 hbl.2.2.2.2 hin hn xo xo hrT xo hq hs hsI (by simp;omega) xo xo hlc wF hne.n1 hne.n2 hne.n3 hne.n4 hne.n12 hne.n13 hne.n14 hne.n23 hne.n24 hne.n34 rfl rfl hnx.1 hnx.2
   (hid fun W hb=>(O9 W B b g1 g2 g3 g4 k1 k2 k3 k4 lw n lc i S c (rD.below h hb) hne hok hin hn hq wF hS hS4 hs hlc).mono fun e' W' ⟨h1,h2,h3⟩=>⟨⟨_,h1⟩,h2,h3⟩)
 unfold xy ul;rw [e];exact this
end
end Go.Proofs.YtbedhbpgnfffmaaGreatDoor

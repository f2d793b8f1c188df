/- Merged: SlTwin, SlTake, SlTakeOk. -/
import Derived.Test.YtmnlagmmbfjbeaaGreatDoorPmaTurnsP11
namespace Go.Proofs.YtmnlagmmbfjbeaaGreatDoor
set_option maxRecDepth 100000
set_option maxHeartbeats 40000000
set_option linter.unusedVariables false
set_option linter.unusedSimpArgs false
section
open Go.RowKit Go.Shelf
attribute [local go_sem] Oper.semAt_some
theorem infoR_uint64:(Tryz.prog.info? 27).map (fun i=>(i.zero,i.size,i.bytes))=some (some (.int .u64 0),1,8):=by kernel_rfl
theorem Clone_uint64 (ga:Option Addr) (gc:Nat) (xs:List Int) (w:World) (hg:IsRow .u64 w ga xs) (hl:xs.length≤100000):
    Calls Tryz.prog 45 #[.slice ga xs.length gc] w (FreshRow .u64 27 w xs):=by
 have q22:∀(w:World) (a:Option Addr) (n c n' c':Nat),(binOp .eql 24 (.slice a n c) (.slice none n' c')).run Tryz.prog w= .ok (.bool a.isNone) w:=fun w a n c n' c'=>Lib.run_eql_slice_nil w _ _ a n c n' c' Tryz.underlying24
 have HG:=hid hg;clear hg;cases ga with
 | none=>
  have hx:xs=[]:=row_none HG.out;subst hx;go_enter Tryz.func45,Tryz.ntmps45
  go_wp2
  go_ret
  exact ⟨_,rfl,World.ownsRow_nil _ _ _ _,Below.refl _ _⟩
 | some a=>
  have HN:=hid (row_news HG.out);go_enter Tryz.func45,Tryz.ntmps45
  go_wp2_with (at_builtin;refine wpl_append (.tmp 5) (.tmp 6) 24 27 (.int .u64 0) 1 8 Tryz.underlying24 infoR_uint64 rfl xdd xdd w.heap.size _ 0 [] (some a) xs.length gc (xs.map (Value.int .u64)) (World.ownsRow_made w #[] 0 (Nat.le_refl _) (Nat.zero_le _) rfl) xsi xzc (fun ad h j u hj=>Lib.cell?_alloc_some _ (HN.out ad h j u hj)) (numCells _) xo xsi rfl rfl rfl rfl ?_;intro v' w1 hown hgrow _)
  go_wp2
  go_ret
  refine ⟨v',rfl,by simpa using hown,?_⟩;exact ((Below.refl _ w).alloc (Nat.le_refl _) _).grown hgrow xsi (by intro k hk;simp [Value.ownBlock] at hk;omega)
def FactR.row (base:Nat) (e:TypeId) (n:Nat) (xs:List Value):FactR RB:=⟨fun v w=>w.ownsRow base e 1 v n xs,fun _ _ _ h k=>owns_below k h⟩
def relAt (ds:List Nat) (fs:List (FactR RB)) (k:Nat) (u:Nat→Value) (w:World):Prop:=factRAt fs k (u (ds.getD k 0)) w∧(k=8→∀p q,(u 8).ownBlock=some p→(u 11).ownBlock=some q→p≠q)
theorem relAt_stays (ds:List Nat) (fs:List (FactR RB)) (k:Nat) (u:Nat→Value) (w w':World) (h:RB w w'):relAt ds fs k u w→relAt ds fs k u w':=fun ⟨h1,h2⟩=>⟨factRAt_stays fs k _ w w' h h1,h2⟩
theorem relAt_dep {l:List Oper} (ds:List Nat) (fs:List (FactR RB)) (h:(List.range l.length).all (fun k=>match l[k]? with|some o=>decide (13≤k)||o.dst==some (ds.getD k 0)|none=>true)=true)
    (h8:(match l[8]?,l[5]? with|some o,some p=>o.dst==some 11&&p.dst==some 8&&(o.after.any fun e=>Region.binds .any e&&e.on==5)|_,_=>false)=true) (hfs:fs.length≤13) (hll:13≤l.length):
    ∀(k:Nat) (u u':Nat→Value) (w:World),(∀(j:Nat) (p o:Oper),l[j]? =some p→l[k]? =some o→(j=k∨(o.after.any fun e=>Region.binds .any e&&e.on==j)=true)→valOf u' p=valOf u p)→relAt ds fs k u w→relAt ds fs k u' w:=by
 intro k u u' w hv hg;refine ⟨?_,?_⟩
 · by_cases hk:13≤k
   · have e:factRAt fs k=fun _ _=>True:=by funext v x;unfold factRAt;rw [List.getD_eq_getElem?_getD,List.getElem?_eq_none xo];rfl
     rw [e];trivial
   · by_cases hl:k<l.length
     · have h1:=List.all_eq_true.1 h k (List.mem_range.2 hl);have ho:l[k]? =some l[k]:=List.getElem?_eq_getElem hl;rw [ho] at h1;simp only [Bool.or_eq_true,decide_eq_true_eq,beq_iff_eq] at h1;have h2:=h1.resolve_left hk;have h3:=hv k _ _ ho ho (.inl rfl);simp only [valOf,h2] at h3;rw [h3];exact hg.1
     · omega
 · rintro rfl p q hp hq;cases ho:l[8]? with
   | none=>rw [ho] at h8;cases h8
   | some o=>
    cases hp5:l[5]? with
    | none=>rw [ho,hp5] at h8;cases h8
    | some p5=>
     rw [ho,hp5] at h8;simp only [Bool.and_eq_true,beq_iff_eq] at h8;have e1:=hv 8 _ _ ho ho (.inl rfl);have e2:=hv 5 _ _ hp5 ho (.inr h8.2);simp only [valOf,h8.1.1,h8.1.2] at e1 e2;rw [e1] at hq;rw [e2] at hp;exact hg.2 rfl p q hp hq
theorem slTwin_ok (c:SlC) (a:SlA) (w:World) (hin:SlIn w c a) (hl1:c.ws.length≤100000) (hl2:c.ks.length≤100000) (hl3:c.vs.length≤100000) (hl4:c.cs.length≤100000):
    Calls Tryz.prog 25 #[slV c a] w (FreshSlN w c):=by
 have C1:=hid (fun W (hb:Below w.heap.size w W)=>Clone_uint64 a.wa a.wc c.ws W (hin.w.below hb) hl1);have C2:=hid (fun W (hb:Below w.heap.size w W)=>Clone_int64 a.ka a.kc c.ks W (hin.k.below hb) hl2);have C3:=hid (fun W (hb:Below w.heap.size w W)=>Clone_int64 a.va a.vc c.vs W (hin.v.below hb) hl3);have C4:=hid (fun W (hb:Below w.heap.size w W)=>Clone_int a.ca a.cc c.cs W (hin.n.below hb) hl4);obtain ⟨seg,ws,ks,vs,cs,laid⟩:=c;obtain ⟨wa,ka,va,ca,wc,kc,vc,cc⟩:=a;dsimp only [slV,FreshSlN,FreshRow] at *;obtain ⟨lw,hw⟩:∃n,ws.length=n:=⟨_,rfl⟩
 obtain ⟨lk,hk⟩:∃n,ks.length=n:=⟨_,rfl⟩
 obtain ⟨lv,hv⟩:∃n,vs.length=n:=⟨_,rfl⟩
 obtain ⟨lc,hc⟩:∃n,cs.length=n:=⟨_,rfl⟩
 rw [hw] at C1 ⊢;rw [hk] at C2 ⊢;rw [hv] at C3 ⊢;rw [hc] at C4 ⊢;have HL1:=hid hw;have HL2:=hid hk;have HL3:=hid hv;have HL4:=hid hc;clear hw hk hv hc hin hl1 hl2 hl3 hl4;go_enter Tryz.func25,Tryz.ntmps25
 go_wp2
 generalize hwz:(w.alloc _).alloc _=wz;have c_t0:wz.cell? ⟨w.heap.size,0,none⟩=some (.int .i64 seg):=by rw [←hwz];(exact xcg)
 have f_t0:wz.frozen? ⟨w.heap.size,0,none⟩=false:=by rw [←hwz];(exact xcg)
 have c_t1:wz.cell? ⟨w.heap.size,1,none⟩=some (.slice wa lw wc):=by rw [←hwz];(exact xcg)
 have f_t1:wz.frozen? ⟨w.heap.size,1,none⟩=false:=by rw [←hwz];(exact xcg)
 have c_t2:wz.cell? ⟨w.heap.size,2,none⟩=some (.slice ka lk kc):=by rw [←hwz];(exact xcg)
 have f_t2:wz.frozen? ⟨w.heap.size,2,none⟩=false:=by rw [←hwz];(exact xcg)
 have c_t3:wz.cell? ⟨w.heap.size,3,none⟩=some (.slice va lv vc):=by rw [←hwz];(exact xcg)
 have f_t3:wz.frozen? ⟨w.heap.size,3,none⟩=false:=by rw [←hwz];(exact xcg)
 have c_t4:wz.cell? ⟨w.heap.size,4,none⟩=some (.slice ca lc cc):=by rw [←hwz];(exact xcg)
 have f_t4:wz.frozen? ⟨w.heap.size,4,none⟩=false:=by rw [←hwz];(exact xcg)
 have c_t5:wz.cell? ⟨w.heap.size,5,none⟩=some (.int .u64 laid):=by rw [←hwz];(exact xcg)
 have f_t5:wz.frozen? ⟨w.heap.size,5,none⟩=false:=by rw [←hwz];(exact xcg)
 have z_t:w.heap.size<wz.heap.size:=by rw [←hwz];(exact xlt)
 have c_r0:wz.cell? ⟨w.heap.size+1,0,none⟩=some (.int .i64 0):=by rw [←hwz];(exact xcg)
 have f_r0:wz.frozen? ⟨w.heap.size+1,0,none⟩=false:=by rw [←hwz];(exact xcg)
 have c_r1:wz.cell? ⟨w.heap.size+1,1,none⟩=some (.slice none 0 0):=by rw [←hwz];(exact xcg)
 have f_r1:wz.frozen? ⟨w.heap.size+1,1,none⟩=false:=by rw [←hwz];(exact xcg)
 have c_r2:wz.cell? ⟨w.heap.size+1,2,none⟩=some (.slice none 0 0):=by rw [←hwz];(exact xcg)
 have f_r2:wz.frozen? ⟨w.heap.size+1,2,none⟩=false:=by rw [←hwz];(exact xcg)
 have c_r3:wz.cell? ⟨w.heap.size+1,3,none⟩=some (.slice none 0 0):=by rw [←hwz];(exact xcg)
 have f_r3:wz.frozen? ⟨w.heap.size+1,3,none⟩=false:=by rw [←hwz];(exact xcg)
 have c_r4:wz.cell? ⟨w.heap.size+1,4,none⟩=some (.slice none 0 0):=by rw [←hwz];(exact xcg)
 have f_r4:wz.frozen? ⟨w.heap.size+1,4,none⟩=false:=by rw [←hwz];(exact xcg)
 have c_r5:wz.cell? ⟨w.heap.size+1,5,none⟩=some (.int .u64 0):=by rw [←hwz];(exact xcg)
 have f_r5:wz.frozen? ⟨w.heap.size+1,5,none⟩=false:=by rw [←hwz];(exact xcg)
 have z_r:w.heap.size+1<wz.heap.size:=by rw [←hwz];(exact xlt)
 have HS:Hid (Below w.heap.size w wz):=by rw [←hwz];exact hid ((br.alloc (Nat.le_refl _) _).alloc xsi _)
 have hz:w.heap.size+2=wz.heap.size:=by rw [←hwz];simp
 clear hwz;refine wp_region_rel 13 xk (N:=20) rfl xk xk xdd (fun w'=>Below wz.heap.size wz w') RB (relAt [3,4,5,6,7,8,9,10,11,12,13,14,15] [.is (.pointer (some ⟨w.heap.size,1,none⟩)),.is (.slice wa lw wc),.row wz.heap.size 27 lw (ws.map (Value.int .u64)),.is (.pointer (some ⟨w.heap.size,2,none⟩)),.is (.slice ka lk kc),.row wz.heap.size 2 lk (ks.map (Value.int .i64)),.is (.pointer (some ⟨w.heap.size,3,none⟩)),.is (.slice va lv vc),.row wz.heap.size 2 lv (vs.map (Value.int .i64)),.is (.pointer (some ⟨w.heap.size,4,none⟩)),.is (.slice ca lc cc),.row wz.heap.size 3 lc (cs.map (Value.int .i64)),.is (.pointer (some ⟨w.heap.size,1,none⟩))]) (relAt_stays _ _) ?dep br.drew ?steps ?fin
 case dep=>
  exact relAt_dep _ _ xk xk (Nat.le_refl 13) xdd
 case steps=>
  refine ⟨?o0,?o1,?o2,?o3,?o4,?o5,?o6,?o7,?o8,?o9,?o10,?o11,?o12,trivial⟩
  case o0=>
   intro u a w' ev hJ hd K hK;have e1:tg a 1= .pointer (some ⟨w.heap.size,0,none⟩):=ev 1 xdd;have HK:=hid hK;clear hK ev hd;go_simp;exact HK.out _ _ xzc hJ ⟨rfl,fun h=>absurd h xdd⟩ br
  case o1=>
   intro u a w' ev hJ hd K hK;have e3:tg a 3= .pointer (some ⟨w.heap.size,1,none⟩):=(ev 3 xdd).trans (hd 0 _ xk rfl).1;have g0:=xjc hJ c_t1;have HK:=hid hK;clear hK ev hd;go_simp;exact HK.out _ _ xzc hJ ⟨rfl,fun h=>absurd h xdd⟩ br
  case o2=>
   intro u a w' ev hJ hd K hK;have e4:tg a 4= .slice wa lw wc:=(ev 4 xdd).trans (hd 1 _ xk rfl).1;have HK:=hid hK;have HC:=hid (C1.out w' (below_via hJ HS.out xo));have hzJ:=hJ.size;clear hK ev hd;go_simp;refine HC.out.mono ?_;rintro e w'' ⟨v,rfl,ho,hb⟩;exact HK.out _ _ xzc (hJ.trans (hb.mono hzJ)) ⟨owns_base (HL1.out ▸ ho) hzJ,fun h=>absurd h xdd⟩ hb
  case o3=>
   intro u a w' ev hJ hd K hK;have e1:tg a 1= .pointer (some ⟨w.heap.size,0,none⟩):=ev 1 xdd;have HK:=hid hK;clear hK ev hd;go_simp;exact HK.out _ _ xzc hJ ⟨rfl,fun h=>absurd h xdd⟩ br
  case o4=>
   intro u a w' ev hJ hd K hK;have e6:tg a 6= .pointer (some ⟨w.heap.size,2,none⟩):=(ev 6 xdd).trans (hd 3 _ xk rfl).1;have g0:=xjc hJ c_t2;have HK:=hid hK;clear hK ev hd;go_simp;exact HK.out _ _ xzc hJ ⟨rfl,fun h=>absurd h xdd⟩ br
  case o5=>
   intro u a w' ev hJ hd K hK;have e7:tg a 7= .slice ka lk kc:=(ev 7 xdd).trans (hd 4 _ xk rfl).1;have HK:=hid hK;have HC:=hid (C2.out w' (below_via hJ HS.out xo));have hzJ:=hJ.size;clear hK ev hd;go_simp;refine HC.out.mono ?_;rintro e w'' ⟨v,rfl,ho,hb⟩;exact HK.out _ _ xzc (hJ.trans (hb.mono hzJ)) ⟨owns_base (HL2.out ▸ ho) hzJ,fun h=>absurd h xdd⟩ hb
  case o6=>
   intro u a w' ev hJ hd K hK;have e1:tg a 1= .pointer (some ⟨w.heap.size,0,none⟩):=ev 1 xdd;have HK:=hid hK;clear hK ev hd;go_simp;exact HK.out _ _ xzc hJ ⟨rfl,fun h=>absurd h xdd⟩ br
  case o7=>
   intro u a w' ev hJ hd K hK;have e9:tg a 9= .pointer (some ⟨w.heap.size,3,none⟩):=(ev 9 xdd).trans (hd 6 _ xk rfl).1;have g0:=xjc hJ c_t3;have HK:=hid hK;clear hK ev hd;go_simp;exact HK.out _ _ xzc hJ ⟨rfl,fun h=>absurd h xdd⟩ br
  case o8=>
   intro u a w' ev hJ hd K hK;have e10:tg a 10= .slice va lv vc:=(ev 10 xdd).trans (hd 7 _ xk rfl).1;have H5:Hid (w'.ownsRow wz.heap.size 2 1 (u 8) lk (ks.map (Value.int .i64))):=hid (hd 5 _ xk rfl).1;have HK:=hid hK;have HC:=hid (C3.out w' (below_via hJ HS.out xo));have hzJ:=hJ.size;clear hK ev hd;go_simp;refine HC.out.mono ?_;rintro e w'' ⟨v,rfl,ho,hb⟩;exact HK.out _ _ xzc (hJ.trans (hb.mono hzJ)) ⟨owns_base (HL3.out ▸ ho) hzJ,fun _ p q hp hq=>by have h1:=(H5.out.lt p hp).2;have h2:=(ho.lt q hq).1;omega⟩ hb
  case o9=>
   intro u a w' ev hJ hd K hK;have e1:tg a 1= .pointer (some ⟨w.heap.size,0,none⟩):=ev 1 xdd;have HK:=hid hK;clear hK ev hd;go_simp;exact HK.out _ _ xzc hJ ⟨rfl,fun h=>absurd h xdd⟩ br
  case o10=>
   intro u a w' ev hJ hd K hK;have e12:tg a 12= .pointer (some ⟨w.heap.size,4,none⟩):=(ev 12 xdd).trans (hd 9 _ xk rfl).1;have g0:=xjc hJ c_t4;have HK:=hid hK;clear hK ev hd;go_simp;exact HK.out _ _ xzc hJ ⟨rfl,fun h=>absurd h xdd⟩ br
  case o11=>
   intro u a w' ev hJ hd K hK;have e13:tg a 13= .slice ca lc cc:=(ev 13 xdd).trans (hd 10 _ xk rfl).1;have HK:=hid hK;have HC:=hid (C4.out w' (below_via hJ HS.out xo));have hzJ:=hJ.size;clear hK ev hd;go_simp;refine HC.out.mono ?_;rintro e w'' ⟨v,rfl,ho,hb⟩;exact HK.out _ _ xzc (hJ.trans (hb.mono hzJ)) ⟨owns_base (HL4.out ▸ ho) hzJ,fun h=>absurd h xdd⟩ hb
  case o12=>
   intro u a w' ev hJ hd K hK;have e1:tg a 1= .pointer (some ⟨w.heap.size,0,none⟩):=ev 1 xdd;have HK:=hid hK;clear hK ev hd;go_simp;exact HK.out _ _ xzc hJ ⟨rfl,fun h=>absurd h xdd⟩ br
 case fin=>
  intro u w2 hJ hG;have h15:u 15= .pointer (some ⟨w.heap.size,1,none⟩):=(hG 12 _ rfl).1;have p1:(FactR.row wz.heap.size 27 lw (ws.map (Value.int .u64))).holds (u 5) w2:=(hG 2 _ rfl).1;have p2:(FactR.row wz.heap.size 2 lk (ks.map (Value.int .i64))).holds (u 8) w2:=(hG 5 _ rfl).1;have p3:(FactR.row wz.heap.size 2 lv (vs.map (Value.int .i64))).holds (u 11) w2:=(hG 8 _ rfl).1;have p4:(FactR.row wz.heap.size 3 lc (cs.map (Value.int .i64))).holds (u 14) w2:=(hG 11 _ rfl).1;have hne:∀p q,(u 8).ownBlock=some p→(u 11).ownBlock=some q→p≠q:=(hG 8 _ rfl).2 rfl;obtain ⟨a1,c1,h5,-⟩:=owns_news p1;obtain ⟨a2,c2,h8,-⟩:=owns_news p2;obtain ⟨a3,c3,h11,-⟩:=owns_news p3;obtain ⟨a4,c4,h14,-⟩:=owns_news p4;rw [h5] at p1;rw [h8] at p2;rw [h11] at p3;rw [h14] at p4;rw [h8,h11] at hne;have HNE:=hid hne;clear hne;have HP1:Hid (w2.ownsRow wz.heap.size 27 1 (.slice a1 lw c1) lw (ws.map (Value.int .u64))):=hid p1;have HP2:Hid (w2.ownsRow wz.heap.size 2 1 (.slice a2 lk c2) lk (ks.map (Value.int .i64))):=hid p2;have HP3:Hid (w2.ownsRow wz.heap.size 2 1 (.slice a3 lv c3) lv (vs.map (Value.int .i64))):=hid p3;have HP4:Hid (w2.ownsRow wz.heap.size 3 1 (.slice a4 lc c4) lc (cs.map (Value.int .i64))):=hid p4;have hz_w2:=hJ.size;replace c_t0:w2.cell? ⟨w.heap.size,0,none⟩=some (.int .i64 seg):=xjt hJ xlt xcn;replace f_t0:w2.frozen? ⟨w.heap.size,0,none⟩=false:=xft hJ xlt xcn;replace c_t1:w2.cell? ⟨w.heap.size,1,none⟩=some (.slice wa lw wc):=xjt hJ xlt xcn;replace f_t1:w2.frozen? ⟨w.heap.size,1,none⟩=false:=xft hJ xlt xcn;replace c_t2:w2.cell? ⟨w.heap.size,2,none⟩=some (.slice ka lk kc):=xjt hJ xlt xcn;replace f_t2:w2.frozen? ⟨w.heap.size,2,none⟩=false:=xft hJ xlt xcn;replace c_t3:w2.cell? ⟨w.heap.size,3,none⟩=some (.slice va lv vc):=xjt hJ xlt xcn;replace f_t3:w2.frozen? ⟨w.heap.size,3,none⟩=false:=xft hJ xlt xcn;replace c_t4:w2.cell? ⟨w.heap.size,4,none⟩=some (.slice ca lc cc):=xjt hJ xlt xcn;replace f_t4:w2.frozen? ⟨w.heap.size,4,none⟩=false:=xft hJ xlt xcn;replace c_t5:w2.cell? ⟨w.heap.size,5,none⟩=some (.int .u64 laid):=xjt hJ xlt xcn;replace f_t5:w2.frozen? ⟨w.heap.size,5,none⟩=false:=xft hJ xlt xcn;replace z_t:w.heap.size<w2.heap.size:=xo;replace c_r0:w2.cell? ⟨w.heap.size+1,0,none⟩=some (.int .i64 0):=xjt hJ xlt xcn;replace f_r0:w2.frozen? ⟨w.heap.size+1,0,none⟩=false:=xft hJ xlt xcn;replace c_r1:w2.cell? ⟨w.heap.size+1,1,none⟩=some (.slice none 0 0):=xjt hJ xlt xcn;replace f_r1:w2.frozen? ⟨w.heap.size+1,1,none⟩=false:=xft hJ xlt xcn;replace c_r2:w2.cell? ⟨w.heap.size+1,2,none⟩=some (.slice none 0 0):=xjt hJ xlt xcn;replace f_r2:w2.frozen? ⟨w.heap.size+1,2,none⟩=false:=xft hJ xlt xcn;replace c_r3:w2.cell? ⟨w.heap.size+1,3,none⟩=some (.slice none 0 0):=xjt hJ xlt xcn;replace f_r3:w2.frozen? ⟨w.heap.size+1,3,none⟩=false:=xft hJ xlt xcn;replace c_r4:w2.cell? ⟨w.heap.size+1,4,none⟩=some (.slice none 0 0):=xjt hJ xlt xcn;replace f_r4:w2.frozen? ⟨w.heap.size+1,4,none⟩=false:=xft hJ xlt xcn;replace c_r5:w2.cell? ⟨w.heap.size+1,5,none⟩=some (.int .u64 0):=xjt hJ xlt xcn;replace f_r5:w2.frozen? ⟨w.heap.size+1,5,none⟩=false:=xft hJ xlt xcn;replace z_r:w.heap.size+1<w2.heap.size:=xo;have hB2:Below w.heap.size w w2:=below_via hJ HS.out xo;clear hG p1 p2 p3 p4 hJ;simp only [mixFrame,mixL,dstsOf,List.take_succ_cons,List.take_zero,List.filterMap_cons,List.filterMap_nil,List.contains_cons,List.contains_nil,Nat.reduceBEq,Bool.or_false,Bool.false_or,Bool.or_true,Bool.true_or,if_true,if_false,Bool.false_eq_true,Nat.reduceAdd,Nat.zero_add,List.drop_succ_cons,List.drop_zero,h15,h5,h8,h11,h14];go_wp2
  have hb5:Below w.heap.size w ((((w2.setCell ⟨w.heap.size,1,none⟩ (.slice a1 lw c1)).setCell ⟨w.heap.size,2,none⟩ (.slice a2 lk c2)).setCell ⟨w.heap.size,3,none⟩ (.slice a3 lv c3)).setCell ⟨w.heap.size,4,none⟩ (.slice a4 lc c4)):=(((hB2.setCell xdo _).setCell xdo _).setCell xdo _).setCell xdo _;have k0:((((w2.setCell ⟨w.heap.size,1,none⟩ (.slice a1 lw c1)).setCell ⟨w.heap.size,2,none⟩ (.slice a2 lk c2)).setCell ⟨w.heap.size,3,none⟩ (.slice a3 lv c3)).setCell ⟨w.heap.size,4,none⟩ (.slice a4 lc c4)).cell? ⟨w.heap.size+1,0,none⟩=some (.int .i64 0):=set_keep xsi (set_keep xsi (set_keep xsi (set_keep xsi c_r0)));have k1:((((w2.setCell ⟨w.heap.size,1,none⟩ (.slice a1 lw c1)).setCell ⟨w.heap.size,2,none⟩ (.slice a2 lk c2)).setCell ⟨w.heap.size,3,none⟩ (.slice a3 lv c3)).setCell ⟨w.heap.size,4,none⟩ (.slice a4 lc c4)).cell? ⟨w.heap.size+1,1,none⟩=some (.slice none 0 0):=set_keep xsi (set_keep xsi (set_keep xsi (set_keep xsi c_r1)));have k2:((((w2.setCell ⟨w.heap.size,1,none⟩ (.slice a1 lw c1)).setCell ⟨w.heap.size,2,none⟩ (.slice a2 lk c2)).setCell ⟨w.heap.size,3,none⟩ (.slice a3 lv c3)).setCell ⟨w.heap.size,4,none⟩ (.slice a4 lc c4)).cell? ⟨w.heap.size+1,2,none⟩=some (.slice none 0 0):=set_keep xsi (set_keep xsi (set_keep xsi (set_keep xsi c_r2)));have k3:((((w2.setCell ⟨w.heap.size,1,none⟩ (.slice a1 lw c1)).setCell ⟨w.heap.size,2,none⟩ (.slice a2 lk c2)).setCell ⟨w.heap.size,3,none⟩ (.slice a3 lv c3)).setCell ⟨w.heap.size,4,none⟩ (.slice a4 lc c4)).cell? ⟨w.heap.size+1,3,none⟩=some (.slice none 0 0):=set_keep xsi (set_keep xsi (set_keep xsi (set_keep xsi c_r3)));have k4:((((w2.setCell ⟨w.heap.size,1,none⟩ (.slice a1 lw c1)).setCell ⟨w.heap.size,2,none⟩ (.slice a2 lk c2)).setCell ⟨w.heap.size,3,none⟩ (.slice a3 lv c3)).setCell ⟨w.heap.size,4,none⟩ (.slice a4 lc c4)).cell? ⟨w.heap.size+1,4,none⟩=some (.slice none 0 0):=set_keep xsi (set_keep xsi (set_keep xsi (set_keep xsi c_r4)));have k5:((((w2.setCell ⟨w.heap.size,1,none⟩ (.slice a1 lw c1)).setCell ⟨w.heap.size,2,none⟩ (.slice a2 lk c2)).setCell ⟨w.heap.size,3,none⟩ (.slice a3 lv c3)).setCell ⟨w.heap.size,4,none⟩ (.slice a4 lc c4)).cell? ⟨w.heap.size+1,5,none⟩=some (.int .u64 0):=set_keep xsi (set_keep xsi (set_keep xsi (set_keep xsi c_r5)));have HQ:Hid (∀q,w.heap.size+2≤q→((((((((((w2.setCell ⟨w.heap.size,1,none⟩ (.slice a1 lw c1)).setCell ⟨w.heap.size,2,none⟩ (.slice a2 lk c2)).setCell ⟨w.heap.size,3,none⟩ (.slice a3 lv c3)).setCell ⟨w.heap.size,4,none⟩ (.slice a4 lc c4)).setCell ⟨w.heap.size+1,0,none⟩ (.int .i64 seg)).setCell ⟨w.heap.size+1,1,none⟩ (.slice a1 lw c1)).setCell ⟨w.heap.size+1,2,none⟩ (.slice a2 lk c2)).setCell ⟨w.heap.size+1,3,none⟩ (.slice a3 lv c3)).setCell ⟨w.heap.size+1,4,none⟩ (.slice a4 lc c4)).setCell ⟨w.heap.size+1,5,none⟩ (.int .u64 laid)).heap[q]? =w2.heap[q]?):=hid fun q hq=>by
   rw [heap_setCell_ne _ _ _ xdo,heap_setCell_ne _ _ _ xdo,heap_setCell_ne _ _ _ xdo,heap_setCell_ne _ _ _ xdo,heap_setCell_ne _ _ _ xdo,heap_setCell_ne _ _ _ xdo,heap_setCell_ne _ _ _ xdo,heap_setCell_ne _ _ _ xdo,heap_setCell_ne _ _ _ xdo,heap_setCell_ne _ _ _ xdo]
  refine bodyPost_ret (results_c rfl rfl (run_loadVar_many _ Tryz.underlying29 rfl xk (six_set k0 k1 k2 k3 k4 k5))) rfl ⟨_,_,_,_,rfl,?_,?_,?_,?_,?_,HNE.out⟩
  · rw [HL1.out];exact owns_base (owns_heap HP1.out fun j hj=>HQ.out j (by have:=(HP1.out.lt j hj).1;omega)) xo
  · rw [HL2.out];exact owns_base (owns_heap HP2.out fun j hj=>HQ.out j (by have:=(HP2.out.lt j hj).1;omega)) xo
  · rw [HL3.out];exact owns_base (owns_heap HP3.out fun j hj=>HQ.out j (by have:=(HP3.out.lt j hj).1;omega)) xo
  · rw [HL4.out];exact owns_base (owns_heap HP4.out fun j hj=>HQ.out j (by have:=(HP4.out.lt j hj).1;omega)) xo
  · exact (((((hb5.setCell xdo _).setCell xdo _).setCell xdo _).setCell xdo _).setCell xdo _).setCell xdo _
end
section
open Go.RowKit Go.Shelf
attribute [local go_sem] Oper.semAt_some
structure KeptA (g1 g2 g3 g4:Nat) (w W:World):Prop where
 os:W.os=w.os
 tape:W.tape=w.tape
 output:W.output=w.output
 size:w.heap.size≤W.heap.size
 block:∀q,q<w.heap.size→q≠g1→q≠g2→q≠g3→q≠g4→W.heap[q]? =w.heap[q]?
theorem KeptA.below {g1 g2 g3 g4:Nat} {w W:World} (h:Below w.heap.size w W):KeptA g1 g2 g3 g4 w W:=⟨h.os,h.tape,h.output,h.size,fun q hq _ _ _ _=>h.block q hq⟩
theorem KeptA.step {g1 g2 g3 g4:Nat} {w W W':World} (h:KeptA g1 g2 g3 g4 w W) (h0:W'.heap.size=W.heap.size) (h1:W'.os=W.os) (h2:W'.tape=W.tape) (h3:W'.output=W.output) (hb:∀q,q<w.heap.size→q≠g1→q≠g2→q≠g3→q≠g4→W'.heap[q]? =W.heap[q]?):KeptA g1 g2 g3 g4 w W':=
  ⟨h1.trans h.os,h2.trans h.tape,h3.trans h.output,by rw [h0];exact h.size,fun q hq a b c d=>(hb q hq a b c d).trans (h.block q hq a b c d)⟩
theorem owns_drew {w:World} {B:Nat} {e:TypeId} {s:Nat} {v:Value} {n:Nat} {xs:List Value} (h:w.ownsRow B e s v n xs):w.drew.ownsRow B e s v n xs:=owns_heap h fun _ _=>rfl
theorem own_len {k:IntKind} {w:World} {B:Nat} {e:TypeId} {v:Value} {n:Nat} {xs:List Int} (h:w.ownsRow B e 1 v n (xs.map (Value.int k))):xs.length=n:=by have:=h.1;simpa using this
theorem frozen_of_block {w w':World} {b:Nat} (h:w'.heap[b]? =w.heap[b]?) (i:Nat):w'.frozen? ⟨b,i,none⟩=w.frozen? ⟨b,i,none⟩:=by simp only [World.frozen?,h]
structure ArrOn (B:Nat) (W:World) (b g1 g2 g3 g4 k1 k2 k3 k4 lw n lc:Nat) (seg laid:Int) (ws ks vs cs:List Int):Prop where
 c0:W.cell? ⟨b,0,none⟩=some (.int .i64 seg)
 c1:W.cell? ⟨b,1,none⟩=some (.slice (some ⟨g1,0,none⟩) lw k1)
 c2:W.cell? ⟨b,2,none⟩=some (.slice (some ⟨g2,0,none⟩) n k2)
 c3:W.cell? ⟨b,3,none⟩=some (.slice (some ⟨g3,0,none⟩) n k3)
 c4:W.cell? ⟨b,4,none⟩=some (.slice (some ⟨g4,0,none⟩) lc k4)
 c5:W.cell? ⟨b,5,none⟩=some (.int .u64 laid)
 f5:W.frozen? ⟨b,5,none⟩=false
 o1:W.ownsRow B 27 1 (.slice (some ⟨g1,0,none⟩) lw k1) lw ((ws).map (Value.int .u64))
 o2:W.ownsRow B 2 1 (.slice (some ⟨g2,0,none⟩) n k2) n ((ks).map (Value.int .i64))
 o3:W.ownsRow B 2 1 (.slice (some ⟨g3,0,none⟩) n k3) n ((vs).map (Value.int .i64))
 o4:W.ownsRow B 3 1 (.slice (some ⟨g4,0,none⟩) lc k4) lc ((cs).map (Value.int .i64))
theorem slTake_set (w:World) (B b g1 g2 g3 g4 k1 k2 k3 k4 lw n lc i qi r s:Nat) (seg x kx vx nx:Int) (laid:Int) (ws ks vs cs:List Int)
    (c0:w.cell? ⟨b,0,none⟩=some (.int .i64 seg)) (c1:w.cell? ⟨b,1,none⟩=some (.slice (some ⟨g1,0,none⟩) lw k1)) (c2:w.cell? ⟨b,2,none⟩=some (.slice (some ⟨g2,0,none⟩) n k2)) (c3:w.cell? ⟨b,3,none⟩=some (.slice (some ⟨g3,0,none⟩) n k3)) (c4:w.cell? ⟨b,4,none⟩=some (.slice (some ⟨g4,0,none⟩) lc k4)) (c5:w.cell? ⟨b,5,none⟩=some (.int .u64 laid)) (f5:w.frozen? ⟨b,5,none⟩=false)
    (O1:Hid (w.ownsRow B 27 1 (.slice (some ⟨g1,0,none⟩) lw k1) lw ((ws).map (Value.int .u64)))) (O2:Hid (w.ownsRow B 2 1 (.slice (some ⟨g2,0,none⟩) n k2) n ((ks).map (Value.int .i64)))) (O3:Hid (w.ownsRow B 2 1 (.slice (some ⟨g3,0,none⟩) n k3) n ((vs).map (Value.int .i64)))) (O4:Hid (w.ownsRow B 3 1 (.slice (some ⟨g4,0,none⟩) lc k4) lc ((cs).map (Value.int .i64))))
    (d1:w.cell? ⟨g1,qi,none⟩=some (.int .u64 x)) (d2:w.cell? ⟨g2,i,none⟩=some (.int .i64 kx)) (d3:w.cell? ⟨g3,i,none⟩=some (.int .i64 vx)) (d4:w.cell? ⟨g4,s,none⟩=some (.int .i64 nx))
    (f1:w.frozen? ⟨g1,qi,none⟩=false) (f2:w.frozen? ⟨g2,i,none⟩=false) (f3:w.frozen? ⟨g3,i,none⟩=false) (f4:w.frozen? ⟨g4,s,none⟩=false)
    (hin:i<n) (hn:n≤65536) (hqI:(i:Int)/64=qi) (hrI:(i:Int)%64=r) (hrT:(i:Int).tmod 64=r) (hr:r<64) (hqi:qi<lw) (hs:s<lc) (hsI:(i:Int)/seg=s) (hsg:(seg==0)=false) (hsg2:¬seg=0) (hsg3:4≤seg) (hlc:lc≤65536) (hlw:lw≤65536)
    (n1:g1≠b) (n2:g2≠b) (n3:g3≠b) (n4:g4≠b) (n12:g1≠g2) (n13:g1≠g3) (n14:g1≠g4) (n23:g2≠g3) (n24:g2≠g4) (n34:g3≠g4) (hnx:0≤nx) (hnx2:nx≤65536)
    (IS:Hid (∀W,W.cell? ⟨b,1,none⟩=some (.slice (some ⟨g1,0,none⟩) lw k1)→W.cell? ⟨g1,qi,none⟩=some (.int .u64 x)→Calls Tryz.prog 145 #[.pointer (some ⟨b,0,none⟩),.int .i64 i] W fun e w'=>e= .returned (.bool true)∧W=w')) (ne:True):
    Calls Tryz.prog 113 #[.pointer (some ⟨b,0,none⟩),.int .i64 i] w fun e W=>e= .returned (.agg #[.int .i64 kx,.int .i64 vx])∧ArrOn B W b g1 g2 g3 g4 k1 k2 k3 k4 lw n lc seg laid (ws.set qi (bits BinOp.andNot IntKind.u64 x (IntKind.u64.wrap (2^r)))) (ks.set i 0) (vs.set i 0) (cs.set s (nx-1))∧KeptA g1 g2 g3 g4 w W:=by
 have y0:=World.block_lt_of_cell? _ _ c0;have y1:=World.block_lt_of_cell? _ _ d1;have y2:=World.block_lt_of_cell? _ _ d2;have y3:=World.block_lt_of_cell? _ _ d3;have y4:=World.block_lt_of_cell? _ _ d4;dsimp only at y0 y1 y2 y3 y4;go_enter Tryz.func113,Tryz.ntmps113
 go_wp2
 have hba:Below w.heap.size w (w.alloc (.cells #[.int .i64 0,.int .i64 0] 79)):=br.alloc (Nat.le_refl _) _;have hz1:(w.alloc (.cells #[.int .i64 0,.int .i64 0] 79)).heap.size=w.heap.size+1:=by simp
 have r0:(w.alloc (.cells #[.int .i64 0,.int .i64 0] 79)).cell? ⟨w.heap.size,0,none⟩=some (.int .i64 0):=xcw;have r1:(w.alloc (.cells #[.int .i64 0,.int .i64 0] 79)).cell? ⟨w.heap.size,1,none⟩=some (.int .i64 0):=xcw;have p0:(w.alloc (.cells #[.int .i64 0,.int .i64 0] 79)).frozen? ⟨w.heap.size,0,none⟩=false:=xcw;have p1:(w.alloc (.cells #[.int .i64 0,.int .i64 0] 79)).frozen? ⟨w.heap.size,1,none⟩=false:=xcw;generalize (w.alloc (.cells #[.int .i64 0,.int .i64 0] 79))=w1 at *;replace c0:w1.cell? ⟨b,0,none⟩=some (.int .i64 seg):=xjc hba c0;replace c1:w1.cell? ⟨b,1,none⟩=some (.slice (some ⟨g1,0,none⟩) lw k1):=xjc hba c1;replace c2:w1.cell? ⟨b,2,none⟩=some (.slice (some ⟨g2,0,none⟩) n k2):=xjc hba c2;replace c3:w1.cell? ⟨b,3,none⟩=some (.slice (some ⟨g3,0,none⟩) n k3):=xjc hba c3;replace c4:w1.cell? ⟨b,4,none⟩=some (.slice (some ⟨g4,0,none⟩) lc k4):=xjc hba c4;replace c5:w1.cell? ⟨b,5,none⟩=some (.int .u64 laid):=xjc hba c5;replace d1:w1.cell? ⟨g1,qi,none⟩=some (.int .u64 x):=xjc hba d1;replace d2:w1.cell? ⟨g2,i,none⟩=some (.int .i64 kx):=xjc hba d2;replace d3:w1.cell? ⟨g3,i,none⟩=some (.int .i64 vx):=xjc hba d3;replace d4:w1.cell? ⟨g4,s,none⟩=some (.int .i64 nx):=xjc hba d4;replace f1:w1.frozen? ⟨g1,qi,none⟩=false:=xjf hba f1;replace f2:w1.frozen? ⟨g2,i,none⟩=false:=xjf hba f2;replace f3:w1.frozen? ⟨g3,i,none⟩=false:=xjf hba f3;replace f4:w1.frozen? ⟨g4,s,none⟩=false:=xjf hba f4;replace f5:w1.frozen? ⟨b,5,none⟩=false:=xjf hba f5;replace O1:=hid (owns_below O1.out hba);replace O2:=hid (owns_below O2.out hba);replace O3:=hid (owns_below O3.out hba);replace O4:=hid (owns_below O4.out hba);have K1:Hid (KeptA g1 g2 g3 g4 w w1):=hid (KeptA.below hba);clear hba;have hiI:(i:Int)<n:=xo;go_still_tail 17,xk
 go_wp2_with fail
 have hk2:∀q,q≠w.heap.size→(((w1.setCell ⟨w.heap.size,0,none⟩ (.int .i64 kx)).setCell ⟨w.heap.size,1,none⟩ (.int .i64 vx)).drew).heap[q]? =w1.heap[q]? :=fun q hq=>(heap_setCell_ne _ _ _ hq).trans (heap_setCell_ne _ _ _ hq)
 have hf2:∀a:Addr,(((w1.setCell ⟨w.heap.size,0,none⟩ (.int .i64 kx)).setCell ⟨w.heap.size,1,none⟩ (.int .i64 vx)).drew).frozen? a=w1.frozen? a:=fun a=>by rw [World.frozen?_drew,World.frozen?_setCell,World.frozen?_setCell]
 replace r0:(((w1.setCell ⟨w.heap.size,0,none⟩ (.int .i64 kx)).setCell ⟨w.heap.size,1,none⟩ (.int .i64 vx)).drew).cell? ⟨w.heap.size,0,none⟩=some (.int .i64 kx):=(set_keep xsi (World.cell?_setCell_same _ _ _ r0))
 replace r1:(((w1.setCell ⟨w.heap.size,0,none⟩ (.int .i64 kx)).setCell ⟨w.heap.size,1,none⟩ (.int .i64 vx)).drew).cell? ⟨w.heap.size,1,none⟩=some (.int .i64 vx):=(World.cell?_setCell_same _ _ _ (set_keep xsi r1))
 have K2:Hid (KeptA g1 g2 g3 g4 w (((w1.setCell ⟨w.heap.size,0,none⟩ (.int .i64 kx)).setCell ⟨w.heap.size,1,none⟩ (.int .i64 vx)).drew)):=hid (K1.out.step xsi rfl rfl rfl fun q hq _ _ _ _=>hk2 q xo);have hz2:(((w1.setCell ⟨w.heap.size,0,none⟩ (.int .i64 kx)).setCell ⟨w.heap.size,1,none⟩ (.int .i64 vx)).drew).heap.size=w1.heap.size:=by simp
 generalize (((w1.setCell ⟨w.heap.size,0,none⟩ (.int .i64 kx)).setCell ⟨w.heap.size,1,none⟩ (.int .i64 vx)).drew)=w2 at *;replace c0:w2.cell? ⟨b,0,none⟩=some (.int .i64 seg):=xob c0 (hk2 b xo);replace c1:w2.cell? ⟨b,1,none⟩=some (.slice (some ⟨g1,0,none⟩) lw k1):=xob c1 (hk2 b xo);replace c2:w2.cell? ⟨b,2,none⟩=some (.slice (some ⟨g2,0,none⟩) n k2):=xob c2 (hk2 b xo);replace c3:w2.cell? ⟨b,3,none⟩=some (.slice (some ⟨g3,0,none⟩) n k3):=xob c3 (hk2 b xo);replace c4:w2.cell? ⟨b,4,none⟩=some (.slice (some ⟨g4,0,none⟩) lc k4):=xob c4 (hk2 b xo);replace c5:w2.cell? ⟨b,5,none⟩=some (.int .u64 laid):=xob c5 (hk2 b xo);replace d1:w2.cell? ⟨g1,qi,none⟩=some (.int .u64 x):=xob d1 (hk2 g1 xo);replace d2:w2.cell? ⟨g2,i,none⟩=some (.int .i64 kx):=xob d2 (hk2 g2 xo);replace d3:w2.cell? ⟨g3,i,none⟩=some (.int .i64 vx):=xob d3 (hk2 g3 xo);replace d4:w2.cell? ⟨g4,s,none⟩=some (.int .i64 nx):=xob d4 (hk2 g4 xo);replace f1:w2.frozen? ⟨g1,qi,none⟩=false:=(hf2 _).trans f1;replace f2:w2.frozen? ⟨g2,i,none⟩=false:=(hf2 _).trans f2;replace f3:w2.frozen? ⟨g3,i,none⟩=false:=(hf2 _).trans f3;replace f4:w2.frozen? ⟨g4,s,none⟩=false:=(hf2 _).trans f4;replace f5:w2.frozen? ⟨b,5,none⟩=false:=(hf2 _).trans f5;replace p0:=(hf2 _).trans p0;replace p1:=(hf2 _).trans p1;replace O1:=hid (owns_heap (W':=w2) O1.out fun j hj=>by cases hj;exact hk2 g1 xo);replace O2:=hid (owns_heap (W':=w2) O2.out fun j hj=>by cases hj;exact hk2 g2 xo);replace O3:=hid (owns_heap (W':=w2) O3.out fun j hj=>by cases hj;exact hk2 g3 xo);replace O4:=hid (owns_heap (W':=w2) O4.out fun j hj=>by cases hj;exact hk2 g4 xo);clear hk2 hf2 K1;refine (IS.out _ c1 d1).mono ?_;rintro e w' ⟨rfl,rfl⟩;have hqI2:(qi:Int)<lw:=xo;have hsI2:(s:Int)<lc:=xo;have hws:IntKind.i64.wrap (s:Int)=(s:Int):=IntWalk.i64_in _ xo;have hwq:IntKind.i64.wrap (qi:Int)=(qi:Int):=IntWalk.i64_in _ xo;have hwr:IntKind.i64.wrap (r:Int)=(r:Int):=IntWalk.i64_in _ xo;have hwn:IntKind.i64.wrap (nx-1)=nx-1:=IntWalk.i64_in _ xo;go_wp2
 go_still_tail 15,xk
 go_wp2
 have hk_w3:∀q,q≠g4→((w2.setCell ⟨g4,s,none⟩ (.int .i64 (nx-1))).drew).heap[q]? =w2.heap[q]? :=fun q hq=>heap_setCell_ne _ _ _ hq
 have hf_w3:∀a:Addr,((w2.setCell ⟨g4,s,none⟩ (.int .i64 (nx-1))).drew).frozen? a=w2.frozen? a:=fun a=>by rw [World.frozen?_drew,World.frozen?_setCell]
 have K3:Hid (KeptA g1 g2 g3 g4 w ((w2.setCell ⟨g4,s,none⟩ (.int .i64 (nx-1))).drew)):=hid (K2.out.step xsi rfl rfl rfl fun q hq h1 h2 h3 h4=>hk_w3 q xo);have hz_w3:((w2.setCell ⟨g4,s,none⟩ (.int .i64 (nx-1))).drew).heap.size=w2.heap.size:=by simp
 have nO4:Hid (((w2.setCell ⟨g4,s,none⟩ (.int .i64 (nx-1))).drew).ownsRow B 3 1 (.slice (some ⟨g4,0,none⟩) lc k4) lc ((cs.set s (nx-1)).map (Value.int .i64))):=hid (owns_drew (own_set O4.out s (nx-1)));generalize ((w2.setCell ⟨g4,s,none⟩ (.int .i64 (nx-1))).drew)=w3 at *;clear d4;replace c0:w3.cell? ⟨b,0,none⟩=some (.int .i64 seg):=xob c0 (hk_w3 b xo);replace c1:w3.cell? ⟨b,1,none⟩=some (.slice (some ⟨g1,0,none⟩) lw k1):=xob c1 (hk_w3 b xo);replace c2:w3.cell? ⟨b,2,none⟩=some (.slice (some ⟨g2,0,none⟩) n k2):=xob c2 (hk_w3 b xo);replace c3:w3.cell? ⟨b,3,none⟩=some (.slice (some ⟨g3,0,none⟩) n k3):=xob c3 (hk_w3 b xo);replace c4:w3.cell? ⟨b,4,none⟩=some (.slice (some ⟨g4,0,none⟩) lc k4):=xob c4 (hk_w3 b xo);replace c5:w3.cell? ⟨b,5,none⟩=some (.int .u64 laid):=xob c5 (hk_w3 b xo);replace d1:w3.cell? ⟨g1,qi,none⟩=some (.int .u64 x):=xob d1 (hk_w3 g1 xo);replace d2:w3.cell? ⟨g2,i,none⟩=some (.int .i64 kx):=xob d2 (hk_w3 g2 xo);replace d3:w3.cell? ⟨g3,i,none⟩=some (.int .i64 vx):=xob d3 (hk_w3 g3 xo);replace f1:w3.frozen? ⟨g1,qi,none⟩=false:=(hf_w3 _).trans f1;replace f2:w3.frozen? ⟨g2,i,none⟩=false:=(hf_w3 _).trans f2;replace f3:w3.frozen? ⟨g3,i,none⟩=false:=(hf_w3 _).trans f3;replace f4:w3.frozen? ⟨g4,s,none⟩=false:=(hf_w3 _).trans f4;replace f5:w3.frozen? ⟨b,5,none⟩=false:=(hf_w3 _).trans f5;replace r0:=xob r0 (hk_w3 w.heap.size xo);replace p0:=(hf_w3 _).trans p0;replace r1:=xob r1 (hk_w3 w.heap.size xo);replace p1:=(hf_w3 _).trans p1;replace O1:=hid (owns_heap (W':=w3) O1.out fun j hj=>by cases hj;exact hk_w3 g1 xo);replace O2:=hid (owns_heap (W':=w3) O2.out fun j hj=>by cases hj;exact hk_w3 g2 xo);replace O3:=hid (owns_heap (W':=w3) O3.out fun j hj=>by cases hj;exact hk_w3 g3 xo);replace O4:=nO4;clear nO4 hk_w3 hf_w3 K2;go_still_tail 13,xk
 go_wp2
 have hk_w4:∀q,q≠g1→((w3.setCell ⟨g1,qi,none⟩ (.int .u64 (bits BinOp.andNot IntKind.u64 x (IntKind.u64.wrap (2^r))))).drew).heap[q]? =w3.heap[q]? :=fun q hq=>heap_setCell_ne _ _ _ hq
 have hf_w4:∀a:Addr,((w3.setCell ⟨g1,qi,none⟩ (.int .u64 (bits BinOp.andNot IntKind.u64 x (IntKind.u64.wrap (2^r))))).drew).frozen? a=w3.frozen? a:=fun a=>by rw [World.frozen?_drew,World.frozen?_setCell]
 have K4:Hid (KeptA g1 g2 g3 g4 w ((w3.setCell ⟨g1,qi,none⟩ (.int .u64 (bits BinOp.andNot IntKind.u64 x (IntKind.u64.wrap (2^r))))).drew)):=hid (K3.out.step xsi rfl rfl rfl fun q hq h1 h2 h3 h4=>hk_w4 q xo);have hz_w4:((w3.setCell ⟨g1,qi,none⟩ (.int .u64 (bits BinOp.andNot IntKind.u64 x (IntKind.u64.wrap (2^r))))).drew).heap.size=w3.heap.size:=by simp
 have nO1:Hid (((w3.setCell ⟨g1,qi,none⟩ (.int .u64 (bits BinOp.andNot IntKind.u64 x (IntKind.u64.wrap (2^r))))).drew).ownsRow B 27 1 (.slice (some ⟨g1,0,none⟩) lw k1) lw ((ws.set qi (bits BinOp.andNot IntKind.u64 x (IntKind.u64.wrap (2^r)))).map (Value.int .u64))):=hid (owns_drew (own_set O1.out qi (bits BinOp.andNot IntKind.u64 x (IntKind.u64.wrap (2^r)))));generalize ((w3.setCell ⟨g1,qi,none⟩ (.int .u64 (bits BinOp.andNot IntKind.u64 x (IntKind.u64.wrap (2^r))))).drew)=w4 at *;clear d1;replace c0:w4.cell? ⟨b,0,none⟩=some (.int .i64 seg):=xob c0 (hk_w4 b xo);replace c1:w4.cell? ⟨b,1,none⟩=some (.slice (some ⟨g1,0,none⟩) lw k1):=xob c1 (hk_w4 b xo);replace c2:w4.cell? ⟨b,2,none⟩=some (.slice (some ⟨g2,0,none⟩) n k2):=xob c2 (hk_w4 b xo);replace c3:w4.cell? ⟨b,3,none⟩=some (.slice (some ⟨g3,0,none⟩) n k3):=xob c3 (hk_w4 b xo);replace c4:w4.cell? ⟨b,4,none⟩=some (.slice (some ⟨g4,0,none⟩) lc k4):=xob c4 (hk_w4 b xo);replace c5:w4.cell? ⟨b,5,none⟩=some (.int .u64 laid):=xob c5 (hk_w4 b xo);replace d2:w4.cell? ⟨g2,i,none⟩=some (.int .i64 kx):=xob d2 (hk_w4 g2 xo);replace d3:w4.cell? ⟨g3,i,none⟩=some (.int .i64 vx):=xob d3 (hk_w4 g3 xo);replace f1:w4.frozen? ⟨g1,qi,none⟩=false:=(hf_w4 _).trans f1;replace f2:w4.frozen? ⟨g2,i,none⟩=false:=(hf_w4 _).trans f2;replace f3:w4.frozen? ⟨g3,i,none⟩=false:=(hf_w4 _).trans f3;replace f4:w4.frozen? ⟨g4,s,none⟩=false:=(hf_w4 _).trans f4;replace f5:w4.frozen? ⟨b,5,none⟩=false:=(hf_w4 _).trans f5;replace r0:=xob r0 (hk_w4 w.heap.size xo);replace p0:=(hf_w4 _).trans p0;replace r1:=xob r1 (hk_w4 w.heap.size xo);replace p1:=(hf_w4 _).trans p1;replace O2:=hid (owns_heap (W':=w4) O2.out fun j hj=>by cases hj;exact hk_w4 g2 xo);replace O3:=hid (owns_heap (W':=w4) O3.out fun j hj=>by cases hj;exact hk_w4 g3 xo);replace O4:=hid (owns_heap (W':=w4) O4.out fun j hj=>by cases hj;exact hk_w4 g4 xo);replace O1:=nO1;clear nO1 hk_w4 hf_w4 K3;obtain ⟨OWo,hOo⟩:∃P:World→Prop,P=fun W=>W.ownsRow B 2 1 (.slice (some ⟨g2,0,none⟩) n k2) n ((ks).map (Value.int .i64)):=⟨_,rfl⟩
 obtain ⟨OWn,hOn⟩:∃P:World→Prop,P=fun W=>W.ownsRow B 2 1 (.slice (some ⟨g2,0,none⟩) n k2) n ((ks.set i 0).map (Value.int .i64)):=⟨_,rfl⟩
 have JIN:Hid (JB g2 w4.drew OWo OWn w4.drew):=hid ⟨fun _ _=>rfl,rfl,⟨rfl,rfl,rfl⟩,.inl (by rw [hOo];exact owns_drew O2.out)⟩;have hkl:ks.length=n:=own_len O2.out;have JST:Hid (∀w',JB g2 w4.drew OWo OWn w'→(∃y,w'.cell? ⟨g2,i,none⟩=some (.int .i64 y))∧w'.frozen? ⟨g2,i,none⟩=false∧JB g2 w4.drew OWo OWn (w'.setCell ⟨g2,i,none⟩ (.int .i64 0))∧OWn (w'.setCell ⟨g2,i,none⟩ (.int .i64 0))):=hid (by
  rintro w' ⟨j1,j2,j4,j3⟩;have key:(∃y,w'.cell? ⟨g2,i,none⟩=some (.int .i64 y))∧w'.frozen? ⟨g2,i,none⟩=false∧OWn (w'.setCell ⟨g2,i,none⟩ (.int .i64 0)):=by
   rcases j3 with j3|j3
   · rw [hOo] at j3;obtain ⟨y0,y1⟩:=own_cell j3 (j:=i) xo;have y2:=own_set j3 i 0;rw [hOn];exact ⟨⟨_,y0⟩,y1,y2⟩
   · rw [hOn] at j3;obtain ⟨y0,y1⟩:=own_cell j3 (j:=i) (by rw [List.length_set];omega);have y2:=own_set j3 i 0;rw [List.set_set] at y2;rw [hOn];exact ⟨⟨_,y0⟩,y1,y2⟩
  exact ⟨key.1,key.2.1,⟨fun q hq=>(heap_setCell_ne _ _ _ hq).trans (j1 q hq),by rw [World.size_setCell];exact j2,j4,.inr key.2.2⟩,key.2.2⟩)
 have HON:=hid hOn;clear hOo hOn d2 f2;refine wp_region_late 14 xk (N:=70) rfl xk xk xdd (fun w'=>JB g2 w4.drew OWo OWn w') (fun W W'=>OWn W→OWn W') (factRAt [.is (.pointer (some ⟨b,0,none⟩)),.is (.pointer (some ⟨b,0,none⟩)),.is (.pointer (some ⟨b,0,none⟩)),.is (.pointer (some ⟨b,2,none⟩)),.is (.slice (some ⟨g2,0,none⟩) n k2),.is (.int .i64 i),.is (.pointer (some ⟨b,0,none⟩)),.is (.pointer (some ⟨b,0,none⟩)),.is (.pointer (some ⟨b,0,none⟩)),.is (.pointer (some ⟨b,3,none⟩)),.is (.slice (some ⟨g3,0,none⟩) n k3),.is (.int .i64 i),.is (.pointer (some ⟨g2,i,none⟩)),.now OWn (fun _ _ h k=>h k)]) (factRAt_stays _) JIN.out ?steps ?fin
 case steps=>
  refine ⟨?o0,?o1,?o2,?o3,?o4,?o5,?o6,?o7,?o8,?o9,?o10,?o11,?o12,?o13,trivial⟩
  case o0=>
   intro u a w' ev hJ hd K hK;have e0:tg a 0= .pointer (some ⟨b,0,none⟩):=ev 0 xdd;have HK:=hid hK;clear hK ev hd;go_simp;exact HK.out _ _ xzc hJ rfl id
  case o1=>
   intro u a w' ev hJ hd K hK;have e55:tg a 55= .pointer (some ⟨b,0,none⟩):=(ev 55 xdd).trans (hd 0 _ xk rfl);have HK:=hid hK;clear hK ev hd;go_simp;exact HK.out _ _ xzc hJ rfl id
  case o2=>
   intro u a w' ev hJ hd K hK;have e56:tg a 56= .pointer (some ⟨b,0,none⟩):=(ev 56 xdd).trans (hd 1 _ xk rfl);have HK:=hid hK;clear hK ev hd;go_simp;exact HK.out _ _ xzc hJ rfl id
  case o3=>
   intro u a w' ev hJ hd K hK;have e57:tg a 57= .pointer (some ⟨b,0,none⟩):=(ev 57 xdd).trans (hd 2 _ xk rfl);have HK:=hid hK;clear hK ev hd;go_simp;exact HK.out _ _ xzc hJ rfl id
  case o4=>
   intro u a w' ev hJ hd K hK;have e58:tg a 58= .pointer (some ⟨b,2,none⟩):=(ev 58 xdd).trans (hd 3 _ xk rfl);have g0:=xob c2 (hJ.1 b xo);have HK:=hid hK;clear hK ev hd;go_simp;exact HK.out _ _ xzc hJ rfl id
  case o5=>
   intro u a w' ev hJ hd K hK;have e1:tg a 1= .int .i64 i:=ev 1 xdd;have HK:=hid hK;clear hK ev hd;go_simp;exact HK.out _ _ xzc hJ rfl id
  case o6=>
   intro u a w' ev hJ hd K hK;have e0:tg a 0= .pointer (some ⟨b,0,none⟩):=ev 0 xdd;have HK:=hid hK;clear hK ev hd;go_simp;exact HK.out _ _ xzc hJ rfl id
  case o7=>
   intro u a w' ev hJ hd K hK;have e61:tg a 61= .pointer (some ⟨b,0,none⟩):=(ev 61 xdd).trans (hd 6 _ xk rfl);have HK:=hid hK;clear hK ev hd;go_simp;exact HK.out _ _ xzc hJ rfl id
  case o8=>
   intro u a w' ev hJ hd K hK;have e62:tg a 62= .pointer (some ⟨b,0,none⟩):=(ev 62 xdd).trans (hd 7 _ xk rfl);have HK:=hid hK;clear hK ev hd;go_simp;exact HK.out _ _ xzc hJ rfl id
  case o9=>
   intro u a w' ev hJ hd K hK;have e63:tg a 63= .pointer (some ⟨b,0,none⟩):=(ev 63 xdd).trans (hd 8 _ xk rfl);have HK:=hid hK;clear hK ev hd;go_simp;exact HK.out _ _ xzc hJ rfl id
  case o10=>
   intro u a w' ev hJ hd K hK;have e64:tg a 64= .pointer (some ⟨b,3,none⟩):=(ev 64 xdd).trans (hd 9 _ xk rfl);have g0:=xob c3 (hJ.1 b xo);have HK:=hid hK;clear hK ev hd;go_simp;exact HK.out _ _ xzc hJ rfl id
  case o11=>
   intro u a w' ev hJ hd K hK;have e1:tg a 1= .int .i64 i:=ev 1 xdd;have HK:=hid hK;clear hK ev hd;go_simp;exact HK.out _ _ xzc hJ rfl id
  case o12=>
   intro u a w' ev hJ hd K hK;have e59:tg a 59= .slice (some ⟨g2,0,none⟩) n k2:=(ev 59 xdd).trans (hd 4 _ xk rfl);have e60:tg a 60= .int .i64 i:=(ev 60 xdd).trans (hd 5 _ xk rfl);have HK:=hid hK;clear hK ev hd;go_simp;exact HK.out _ _ xzc hJ rfl id
  case o13=>
   intro u a w' ev hJ hd K hK;have e67:tg a 67= .pointer (some ⟨g2,i,none⟩):=(ev 67 xdd).trans (hd 12 _ xk rfl);obtain ⟨⟨y,hy⟩,hf,hj⟩:=JST.out w' hJ;have HK:=hid hK;clear hK ev hd;go_simp;exact HK.out _ _ (fun h=>rfl) hj.1 hj.2 (fun _=>hj.2)
 case fin=>
  intro u w7 hJ hG;have h65:u 65= .slice (some ⟨g3,0,none⟩) n k3:=hG 10 _ rfl;have h66:u 66= .int .i64 i:=hG 11 _ rfl;have hnew:OWn w7:=hG 13 _ rfl;rw [HON.out] at hnew;have O27:=hid hnew;have hz7:w7.heap.size=w4.heap.size:=hJ.2.1;have hk7:∀q,q≠g2→w7.heap[q]? =w4.heap[q]? :=hJ.1;have K7:Hid (KeptA g1 g2 g3 g4 w w7):=hid (K4.out.step xo hJ.2.2.1.1 hJ.2.2.1.2.1 hJ.2.2.1.2.2 fun q hq h1 h2 h3 h4=>hk7 q xo);replace c0:w7.cell? ⟨b,0,none⟩=some (.int .i64 seg):=xob c0 (hk7 b xo);replace c1:w7.cell? ⟨b,1,none⟩=some (.slice (some ⟨g1,0,none⟩) lw k1):=xob c1 (hk7 b xo);replace c2:w7.cell? ⟨b,2,none⟩=some (.slice (some ⟨g2,0,none⟩) n k2):=xob c2 (hk7 b xo);replace c3:w7.cell? ⟨b,3,none⟩=some (.slice (some ⟨g3,0,none⟩) n k3):=xob c3 (hk7 b xo);replace c4:w7.cell? ⟨b,4,none⟩=some (.slice (some ⟨g4,0,none⟩) lc k4):=xob c4 (hk7 b xo);replace c5:w7.cell? ⟨b,5,none⟩=some (.int .u64 laid):=xob c5 (hk7 b xo);replace d3:w7.cell? ⟨g3,i,none⟩=some (.int .i64 vx):=xob d3 (hk7 g3 xo);replace f1:w7.frozen? ⟨g1,qi,none⟩=false:=(frozen_of_block (hk7 g1 xo) _).trans f1;replace f3:w7.frozen? ⟨g3,i,none⟩=false:=(frozen_of_block (hk7 g3 xo) _).trans f3;replace f4:w7.frozen? ⟨g4,s,none⟩=false:=(frozen_of_block (hk7 g4 xo) _).trans f4;replace f5:w7.frozen? ⟨b,5,none⟩=false:=(frozen_of_block (hk7 b xo) _).trans f5;replace r0:=xob r0 (hk7 w.heap.size xo);replace p0:=(frozen_of_block (hk7 w.heap.size xo) 0).trans p0;replace r1:=xob r1 (hk7 w.heap.size xo);replace p1:=(frozen_of_block (hk7 w.heap.size xo) 1).trans p1;replace O1:=hid (owns_heap (W':=w7) O1.out fun j hj=>by cases hj;exact hk7 g1 xo);replace O3:=hid (owns_heap (W':=w7) O3.out fun j hj=>by cases hj;exact hk7 g3 xo);replace O4:=hid (owns_heap (W':=w7) O4.out fun j hj=>by cases hj;exact hk7 g4 xo);clear hG hJ hnew hk7 JIN JST K4 O2 HON;simp only [mixFrame,mixL,dstsOf,List.take_succ_cons,List.take_zero,List.filterMap_cons,List.filterMap_nil,List.contains_cons,List.contains_nil,Nat.reduceBEq,Bool.or_false,Bool.false_or,Bool.or_true,Bool.true_or,if_true,if_false,Bool.false_eq_true,Nat.reduceAdd,Nat.zero_add,List.drop_succ_cons,List.drop_zero,h65,h66];go_wp2
  have hkE:∀q,q≠g3→q≠w.heap.size→(((w7.setCell ⟨g3,i,none⟩ (.int .i64 0)).setCell ⟨w.heap.size,0,none⟩ (.int .i64 kx)).setCell ⟨w.heap.size,1,none⟩ (.int .i64 vx)).heap[q]? =w7.heap[q]? :=fun q h1 h2=>by rw [heap_setCell_ne _ _ _ h2,heap_setCell_ne _ _ _ h2,heap_setCell_ne _ _ _ h1]
  have hkR:∀q,q≠w.heap.size→(((w7.setCell ⟨g3,i,none⟩ (.int .i64 0)).setCell ⟨w.heap.size,0,none⟩ (.int .i64 kx)).setCell ⟨w.heap.size,1,none⟩ (.int .i64 vx)).heap[q]? =(w7.setCell ⟨g3,i,none⟩ (.int .i64 0)).heap[q]? :=fun q h2=>by rw [heap_setCell_ne _ _ _ h2,heap_setCell_ne _ _ _ h2]
  refine bodyPost_ret (results_c rfl rfl (run_loadVar_two Tryz.underlying79 rfl xk (v:= .int .i64 kx) (u:= .int .i64 vx) (set_keep xsi (World.cell?_setCell_same _ _ _ (set_keep (by simp<;>omega) r0))) (World.cell?_setCell_same _ _ _ (set_keep xsi (set_keep (by simp<;>omega) r1))))) rfl ⟨rfl,?_,?_⟩
  · refine ⟨?_,?_,?_,?_,?_,?_,?_,?_,?_,?_,?_⟩
    · exact (World.cell?_of_block (a:=⟨b,0,none⟩) (hkE b xo xo)).trans c0
    · exact (World.cell?_of_block (a:=⟨b,1,none⟩) (hkE b xo xo)).trans c1
    · exact (World.cell?_of_block (a:=⟨b,2,none⟩) (hkE b xo xo)).trans c2
    · exact (World.cell?_of_block (a:=⟨b,3,none⟩) (hkE b xo xo)).trans c3
    · exact (World.cell?_of_block (a:=⟨b,4,none⟩) (hkE b xo xo)).trans c4
    · exact (World.cell?_of_block (a:=⟨b,5,none⟩) (hkE b xo xo)).trans c5
    · exact (frozen_of_block (hkE b xo xo) 5).trans f5
    · exact owns_heap O1.out fun j hj=>by cases hj;exact hkE g1 xo xo
    · exact owns_heap O27.out fun j hj=>by cases hj;exact hkE g2 xo xo
    · exact owns_heap (own_set O3.out i 0) fun j hj=>by cases hj;exact hkR g3 xo
    · exact owns_heap O4.out fun j hj=>by cases hj;exact hkE g4 xo xo
  · exact K7.out.step xsi rfl rfl rfl fun q hq h1 h2 h3 h4=>hkE q h3 xo
theorem slTake_clr (w:World) (B b g1 g2 g3 g4 k1 k2 k3 k4 lw n lc i qi r s:Nat) (seg x kx vx nx:Int) (laid:Int) (ws ks vs cs:List Int)
    (c0:w.cell? ⟨b,0,none⟩=some (.int .i64 seg)) (c1:w.cell? ⟨b,1,none⟩=some (.slice (some ⟨g1,0,none⟩) lw k1)) (c2:w.cell? ⟨b,2,none⟩=some (.slice (some ⟨g2,0,none⟩) n k2)) (c3:w.cell? ⟨b,3,none⟩=some (.slice (some ⟨g3,0,none⟩) n k3)) (c4:w.cell? ⟨b,4,none⟩=some (.slice (some ⟨g4,0,none⟩) lc k4)) (c5:w.cell? ⟨b,5,none⟩=some (.int .u64 laid)) (f5:w.frozen? ⟨b,5,none⟩=false)
    (O1:Hid (w.ownsRow B 27 1 (.slice (some ⟨g1,0,none⟩) lw k1) lw ((ws).map (Value.int .u64)))) (O2:Hid (w.ownsRow B 2 1 (.slice (some ⟨g2,0,none⟩) n k2) n ((ks).map (Value.int .i64)))) (O3:Hid (w.ownsRow B 2 1 (.slice (some ⟨g3,0,none⟩) n k3) n ((vs).map (Value.int .i64)))) (O4:Hid (w.ownsRow B 3 1 (.slice (some ⟨g4,0,none⟩) lc k4) lc ((cs).map (Value.int .i64))))
    (d1:w.cell? ⟨g1,qi,none⟩=some (.int .u64 x)) (d2:w.cell? ⟨g2,i,none⟩=some (.int .i64 kx)) (d3:w.cell? ⟨g3,i,none⟩=some (.int .i64 vx)) (d4:w.cell? ⟨g4,s,none⟩=some (.int .i64 nx))
    (f1:w.frozen? ⟨g1,qi,none⟩=false) (f2:w.frozen? ⟨g2,i,none⟩=false) (f3:w.frozen? ⟨g3,i,none⟩=false) (f4:w.frozen? ⟨g4,s,none⟩=false)
    (hin:i<n) (hn:n≤65536) (hqI:(i:Int)/64=qi) (hrI:(i:Int)%64=r) (hrT:(i:Int).tmod 64=r) (hr:r<64) (hqi:qi<lw) (hs:s<lc) (hsI:(i:Int)/seg=s) (hsg:(seg==0)=false) (hsg2:¬seg=0) (hsg3:4≤seg) (hlc:lc≤65536) (hlw:lw≤65536)
    (n1:g1≠b) (n2:g2≠b) (n3:g3≠b) (n4:g4≠b) (n12:g1≠g2) (n13:g1≠g3) (n14:g1≠g4) (n23:g2≠g3) (n24:g2≠g4) (n34:g3≠g4) (hnx:0≤nx) (hnx2:nx≤65536)
    (IS:Hid (∀W,W.cell? ⟨b,1,none⟩=some (.slice (some ⟨g1,0,none⟩) lw k1)→W.cell? ⟨g1,qi,none⟩=some (.int .u64 x)→Calls Tryz.prog 145 #[.pointer (some ⟨b,0,none⟩),.int .i64 i] W fun e w'=>e= .returned (.bool false)∧W=w')) (ne:True):
    Calls Tryz.prog 113 #[.pointer (some ⟨b,0,none⟩),.int .i64 i] w fun e W=>e= .returned (.agg #[.int .i64 kx,.int .i64 vx])∧ArrOn B W b g1 g2 g3 g4 k1 k2 k3 k4 lw n lc seg laid (ws.set qi (bits BinOp.andNot IntKind.u64 x (IntKind.u64.wrap (2^r)))) (ks.set i 0) (vs.set i 0) (cs)∧KeptA g1 g2 g3 g4 w W:=by
 have y0:=World.block_lt_of_cell? _ _ c0;have y1:=World.block_lt_of_cell? _ _ d1;have y2:=World.block_lt_of_cell? _ _ d2;have y3:=World.block_lt_of_cell? _ _ d3;have y4:=World.block_lt_of_cell? _ _ d4;dsimp only at y0 y1 y2 y3 y4;go_enter Tryz.func113,Tryz.ntmps113
 go_wp2
 have hba:Below w.heap.size w (w.alloc (.cells #[.int .i64 0,.int .i64 0] 79)):=br.alloc (Nat.le_refl _) _;have hz1:(w.alloc (.cells #[.int .i64 0,.int .i64 0] 79)).heap.size=w.heap.size+1:=by simp
 have r0:(w.alloc (.cells #[.int .i64 0,.int .i64 0] 79)).cell? ⟨w.heap.size,0,none⟩=some (.int .i64 0):=xcw;have r1:(w.alloc (.cells #[.int .i64 0,.int .i64 0] 79)).cell? ⟨w.heap.size,1,none⟩=some (.int .i64 0):=xcw;have p0:(w.alloc (.cells #[.int .i64 0,.int .i64 0] 79)).frozen? ⟨w.heap.size,0,none⟩=false:=xcw;have p1:(w.alloc (.cells #[.int .i64 0,.int .i64 0] 79)).frozen? ⟨w.heap.size,1,none⟩=false:=xcw;generalize (w.alloc (.cells #[.int .i64 0,.int .i64 0] 79))=w1 at *;replace c0:w1.cell? ⟨b,0,none⟩=some (.int .i64 seg):=xjc hba c0;replace c1:w1.cell? ⟨b,1,none⟩=some (.slice (some ⟨g1,0,none⟩) lw k1):=xjc hba c1;replace c2:w1.cell? ⟨b,2,none⟩=some (.slice (some ⟨g2,0,none⟩) n k2):=xjc hba c2;replace c3:w1.cell? ⟨b,3,none⟩=some (.slice (some ⟨g3,0,none⟩) n k3):=xjc hba c3;replace c4:w1.cell? ⟨b,4,none⟩=some (.slice (some ⟨g4,0,none⟩) lc k4):=xjc hba c4;replace c5:w1.cell? ⟨b,5,none⟩=some (.int .u64 laid):=xjc hba c5;replace d1:w1.cell? ⟨g1,qi,none⟩=some (.int .u64 x):=xjc hba d1;replace d2:w1.cell? ⟨g2,i,none⟩=some (.int .i64 kx):=xjc hba d2;replace d3:w1.cell? ⟨g3,i,none⟩=some (.int .i64 vx):=xjc hba d3;replace d4:w1.cell? ⟨g4,s,none⟩=some (.int .i64 nx):=xjc hba d4;replace f1:w1.frozen? ⟨g1,qi,none⟩=false:=xjf hba f1;replace f2:w1.frozen? ⟨g2,i,none⟩=false:=xjf hba f2;replace f3:w1.frozen? ⟨g3,i,none⟩=false:=xjf hba f3;replace f4:w1.frozen? ⟨g4,s,none⟩=false:=xjf hba f4;replace f5:w1.frozen? ⟨b,5,none⟩=false:=xjf hba f5;replace O1:=hid (owns_below O1.out hba);replace O2:=hid (owns_below O2.out hba);replace O3:=hid (owns_below O3.out hba);replace O4:=hid (owns_below O4.out hba);have K1:Hid (KeptA g1 g2 g3 g4 w w1):=hid (KeptA.below hba);clear hba;have hiI:(i:Int)<n:=xo;go_still_tail 17,xk
 go_wp2_with fail
 have hk2:∀q,q≠w.heap.size→(((w1.setCell ⟨w.heap.size,0,none⟩ (.int .i64 kx)).setCell ⟨w.heap.size,1,none⟩ (.int .i64 vx)).drew).heap[q]? =w1.heap[q]? :=fun q hq=>(heap_setCell_ne _ _ _ hq).trans (heap_setCell_ne _ _ _ hq)
 have hf2:∀a:Addr,(((w1.setCell ⟨w.heap.size,0,none⟩ (.int .i64 kx)).setCell ⟨w.heap.size,1,none⟩ (.int .i64 vx)).drew).frozen? a=w1.frozen? a:=fun a=>by rw [World.frozen?_drew,World.frozen?_setCell,World.frozen?_setCell]
 replace r0:(((w1.setCell ⟨w.heap.size,0,none⟩ (.int .i64 kx)).setCell ⟨w.heap.size,1,none⟩ (.int .i64 vx)).drew).cell? ⟨w.heap.size,0,none⟩=some (.int .i64 kx):=(set_keep xsi (World.cell?_setCell_same _ _ _ r0))
 replace r1:(((w1.setCell ⟨w.heap.size,0,none⟩ (.int .i64 kx)).setCell ⟨w.heap.size,1,none⟩ (.int .i64 vx)).drew).cell? ⟨w.heap.size,1,none⟩=some (.int .i64 vx):=(World.cell?_setCell_same _ _ _ (set_keep xsi r1))
 have K2:Hid (KeptA g1 g2 g3 g4 w (((w1.setCell ⟨w.heap.size,0,none⟩ (.int .i64 kx)).setCell ⟨w.heap.size,1,none⟩ (.int .i64 vx)).drew)):=hid (K1.out.step xsi rfl rfl rfl fun q hq _ _ _ _=>hk2 q xo);have hz2:(((w1.setCell ⟨w.heap.size,0,none⟩ (.int .i64 kx)).setCell ⟨w.heap.size,1,none⟩ (.int .i64 vx)).drew).heap.size=w1.heap.size:=by simp
 generalize (((w1.setCell ⟨w.heap.size,0,none⟩ (.int .i64 kx)).setCell ⟨w.heap.size,1,none⟩ (.int .i64 vx)).drew)=w2 at *;replace c0:w2.cell? ⟨b,0,none⟩=some (.int .i64 seg):=xob c0 (hk2 b xo);replace c1:w2.cell? ⟨b,1,none⟩=some (.slice (some ⟨g1,0,none⟩) lw k1):=xob c1 (hk2 b xo);replace c2:w2.cell? ⟨b,2,none⟩=some (.slice (some ⟨g2,0,none⟩) n k2):=xob c2 (hk2 b xo);replace c3:w2.cell? ⟨b,3,none⟩=some (.slice (some ⟨g3,0,none⟩) n k3):=xob c3 (hk2 b xo);replace c4:w2.cell? ⟨b,4,none⟩=some (.slice (some ⟨g4,0,none⟩) lc k4):=xob c4 (hk2 b xo);replace c5:w2.cell? ⟨b,5,none⟩=some (.int .u64 laid):=xob c5 (hk2 b xo);replace d1:w2.cell? ⟨g1,qi,none⟩=some (.int .u64 x):=xob d1 (hk2 g1 xo);replace d2:w2.cell? ⟨g2,i,none⟩=some (.int .i64 kx):=xob d2 (hk2 g2 xo);replace d3:w2.cell? ⟨g3,i,none⟩=some (.int .i64 vx):=xob d3 (hk2 g3 xo);replace d4:w2.cell? ⟨g4,s,none⟩=some (.int .i64 nx):=xob d4 (hk2 g4 xo);replace f1:w2.frozen? ⟨g1,qi,none⟩=false:=(hf2 _).trans f1;replace f2:w2.frozen? ⟨g2,i,none⟩=false:=(hf2 _).trans f2;replace f3:w2.frozen? ⟨g3,i,none⟩=false:=(hf2 _).trans f3;replace f4:w2.frozen? ⟨g4,s,none⟩=false:=(hf2 _).trans f4;replace f5:w2.frozen? ⟨b,5,none⟩=false:=(hf2 _).trans f5;replace p0:=(hf2 _).trans p0;replace p1:=(hf2 _).trans p1;replace O1:=hid (owns_heap (W':=w2) O1.out fun j hj=>by cases hj;exact hk2 g1 xo);replace O2:=hid (owns_heap (W':=w2) O2.out fun j hj=>by cases hj;exact hk2 g2 xo);replace O3:=hid (owns_heap (W':=w2) O3.out fun j hj=>by cases hj;exact hk2 g3 xo);replace O4:=hid (owns_heap (W':=w2) O4.out fun j hj=>by cases hj;exact hk2 g4 xo);clear hk2 hf2 K1;refine (IS.out _ c1 d1).mono ?_;rintro e w' ⟨rfl,rfl⟩;have hqI2:(qi:Int)<lw:=xo;have hsI2:(s:Int)<lc:=xo;have hws:IntKind.i64.wrap (s:Int)=(s:Int):=IntWalk.i64_in _ xo;have hwq:IntKind.i64.wrap (qi:Int)=(qi:Int):=IntWalk.i64_in _ xo;have hwr:IntKind.i64.wrap (r:Int)=(r:Int):=IntWalk.i64_in _ xo;have hwn:IntKind.i64.wrap (nx-1)=nx-1:=IntWalk.i64_in _ xo;go_wp2
 go_still_tail 13,xk
 go_wp2
 have hk_w4:∀q,q≠g1→((w2.setCell ⟨g1,qi,none⟩ (.int .u64 (bits BinOp.andNot IntKind.u64 x (IntKind.u64.wrap (2^r))))).drew).heap[q]? =w2.heap[q]? :=fun q hq=>heap_setCell_ne _ _ _ hq
 have hf_w4:∀a:Addr,((w2.setCell ⟨g1,qi,none⟩ (.int .u64 (bits BinOp.andNot IntKind.u64 x (IntKind.u64.wrap (2^r))))).drew).frozen? a=w2.frozen? a:=fun a=>by rw [World.frozen?_drew,World.frozen?_setCell]
 have K4:Hid (KeptA g1 g2 g3 g4 w ((w2.setCell ⟨g1,qi,none⟩ (.int .u64 (bits BinOp.andNot IntKind.u64 x (IntKind.u64.wrap (2^r))))).drew)):=hid (K2.out.step xsi rfl rfl rfl fun q hq h1 h2 h3 h4=>hk_w4 q xo);have hz_w4:((w2.setCell ⟨g1,qi,none⟩ (.int .u64 (bits BinOp.andNot IntKind.u64 x (IntKind.u64.wrap (2^r))))).drew).heap.size=w2.heap.size:=by simp
 have nO1:Hid (((w2.setCell ⟨g1,qi,none⟩ (.int .u64 (bits BinOp.andNot IntKind.u64 x (IntKind.u64.wrap (2^r))))).drew).ownsRow B 27 1 (.slice (some ⟨g1,0,none⟩) lw k1) lw ((ws.set qi (bits BinOp.andNot IntKind.u64 x (IntKind.u64.wrap (2^r)))).map (Value.int .u64))):=hid (owns_drew (own_set O1.out qi (bits BinOp.andNot IntKind.u64 x (IntKind.u64.wrap (2^r)))));generalize ((w2.setCell ⟨g1,qi,none⟩ (.int .u64 (bits BinOp.andNot IntKind.u64 x (IntKind.u64.wrap (2^r))))).drew)=w4 at *;clear d1;replace c0:w4.cell? ⟨b,0,none⟩=some (.int .i64 seg):=xob c0 (hk_w4 b xo);replace c1:w4.cell? ⟨b,1,none⟩=some (.slice (some ⟨g1,0,none⟩) lw k1):=xob c1 (hk_w4 b xo);replace c2:w4.cell? ⟨b,2,none⟩=some (.slice (some ⟨g2,0,none⟩) n k2):=xob c2 (hk_w4 b xo);replace c3:w4.cell? ⟨b,3,none⟩=some (.slice (some ⟨g3,0,none⟩) n k3):=xob c3 (hk_w4 b xo);replace c4:w4.cell? ⟨b,4,none⟩=some (.slice (some ⟨g4,0,none⟩) lc k4):=xob c4 (hk_w4 b xo);replace c5:w4.cell? ⟨b,5,none⟩=some (.int .u64 laid):=xob c5 (hk_w4 b xo);replace d2:w4.cell? ⟨g2,i,none⟩=some (.int .i64 kx):=xob d2 (hk_w4 g2 xo);replace d3:w4.cell? ⟨g3,i,none⟩=some (.int .i64 vx):=xob d3 (hk_w4 g3 xo);replace d4:w4.cell? ⟨g4,s,none⟩=some (.int .i64 nx):=xob d4 (hk_w4 g4 xo);replace f1:w4.frozen? ⟨g1,qi,none⟩=false:=(hf_w4 _).trans f1;replace f2:w4.frozen? ⟨g2,i,none⟩=false:=(hf_w4 _).trans f2;replace f3:w4.frozen? ⟨g3,i,none⟩=false:=(hf_w4 _).trans f3;replace f4:w4.frozen? ⟨g4,s,none⟩=false:=(hf_w4 _).trans f4;replace f5:w4.frozen? ⟨b,5,none⟩=false:=(hf_w4 _).trans f5;replace r0:=xob r0 (hk_w4 w.heap.size xo);replace p0:=(hf_w4 _).trans p0;replace r1:=xob r1 (hk_w4 w.heap.size xo);replace p1:=(hf_w4 _).trans p1;replace O2:=hid (owns_heap (W':=w4) O2.out fun j hj=>by cases hj;exact hk_w4 g2 xo);replace O3:=hid (owns_heap (W':=w4) O3.out fun j hj=>by cases hj;exact hk_w4 g3 xo);replace O4:=hid (owns_heap (W':=w4) O4.out fun j hj=>by cases hj;exact hk_w4 g4 xo);replace O1:=nO1;clear nO1 hk_w4 hf_w4 K2;obtain ⟨OWo,hOo⟩:∃P:World→Prop,P=fun W=>W.ownsRow B 2 1 (.slice (some ⟨g2,0,none⟩) n k2) n ((ks).map (Value.int .i64)):=⟨_,rfl⟩
 obtain ⟨OWn,hOn⟩:∃P:World→Prop,P=fun W=>W.ownsRow B 2 1 (.slice (some ⟨g2,0,none⟩) n k2) n ((ks.set i 0).map (Value.int .i64)):=⟨_,rfl⟩
 have JIN:Hid (JB g2 w4.drew OWo OWn w4.drew):=hid ⟨fun _ _=>rfl,rfl,⟨rfl,rfl,rfl⟩,.inl (by rw [hOo];exact owns_drew O2.out)⟩;have hkl:ks.length=n:=own_len O2.out;have JST:Hid (∀w',JB g2 w4.drew OWo OWn w'→(∃y,w'.cell? ⟨g2,i,none⟩=some (.int .i64 y))∧w'.frozen? ⟨g2,i,none⟩=false∧JB g2 w4.drew OWo OWn (w'.setCell ⟨g2,i,none⟩ (.int .i64 0))∧OWn (w'.setCell ⟨g2,i,none⟩ (.int .i64 0))):=hid (by
  rintro w' ⟨j1,j2,j4,j3⟩;have key:(∃y,w'.cell? ⟨g2,i,none⟩=some (.int .i64 y))∧w'.frozen? ⟨g2,i,none⟩=false∧OWn (w'.setCell ⟨g2,i,none⟩ (.int .i64 0)):=by
   rcases j3 with j3|j3
   · rw [hOo] at j3;obtain ⟨y0,y1⟩:=own_cell j3 (j:=i) xo;have y2:=own_set j3 i 0;rw [hOn];exact ⟨⟨_,y0⟩,y1,y2⟩
   · rw [hOn] at j3;obtain ⟨y0,y1⟩:=own_cell j3 (j:=i) (by rw [List.length_set];omega);have y2:=own_set j3 i 0;rw [List.set_set] at y2;rw [hOn];exact ⟨⟨_,y0⟩,y1,y2⟩
  exact ⟨key.1,key.2.1,⟨fun q hq=>(heap_setCell_ne _ _ _ hq).trans (j1 q hq),by rw [World.size_setCell];exact j2,j4,.inr key.2.2⟩,key.2.2⟩)
 have HON:=hid hOn;clear hOo hOn d2 f2;refine wp_region_late 14 xk (N:=70) rfl xk xk xdd (fun w'=>JB g2 w4.drew OWo OWn w') (fun W W'=>OWn W→OWn W') (factRAt [.is (.pointer (some ⟨b,0,none⟩)),.is (.pointer (some ⟨b,0,none⟩)),.is (.pointer (some ⟨b,0,none⟩)),.is (.pointer (some ⟨b,2,none⟩)),.is (.slice (some ⟨g2,0,none⟩) n k2),.is (.int .i64 i),.is (.pointer (some ⟨b,0,none⟩)),.is (.pointer (some ⟨b,0,none⟩)),.is (.pointer (some ⟨b,0,none⟩)),.is (.pointer (some ⟨b,3,none⟩)),.is (.slice (some ⟨g3,0,none⟩) n k3),.is (.int .i64 i),.is (.pointer (some ⟨g2,i,none⟩)),.now OWn (fun _ _ h k=>h k)]) (factRAt_stays _) JIN.out ?steps ?fin
 case steps=>
  refine ⟨?o0,?o1,?o2,?o3,?o4,?o5,?o6,?o7,?o8,?o9,?o10,?o11,?o12,?o13,trivial⟩
  case o0=>
   intro u a w' ev hJ hd K hK;have e0:tg a 0= .pointer (some ⟨b,0,none⟩):=ev 0 xdd;have HK:=hid hK;clear hK ev hd;go_simp;exact HK.out _ _ xzc hJ rfl id
  case o1=>
   intro u a w' ev hJ hd K hK;have e55:tg a 55= .pointer (some ⟨b,0,none⟩):=(ev 55 xdd).trans (hd 0 _ xk rfl);have HK:=hid hK;clear hK ev hd;go_simp;exact HK.out _ _ xzc hJ rfl id
  case o2=>
   intro u a w' ev hJ hd K hK;have e56:tg a 56= .pointer (some ⟨b,0,none⟩):=(ev 56 xdd).trans (hd 1 _ xk rfl);have HK:=hid hK;clear hK ev hd;go_simp;exact HK.out _ _ xzc hJ rfl id
  case o3=>
   intro u a w' ev hJ hd K hK;have e57:tg a 57= .pointer (some ⟨b,0,none⟩):=(ev 57 xdd).trans (hd 2 _ xk rfl);have HK:=hid hK;clear hK ev hd;go_simp;exact HK.out _ _ xzc hJ rfl id
  case o4=>
   intro u a w' ev hJ hd K hK;have e58:tg a 58= .pointer (some ⟨b,2,none⟩):=(ev 58 xdd).trans (hd 3 _ xk rfl);have g0:=xob c2 (hJ.1 b xo);have HK:=hid hK;clear hK ev hd;go_simp;exact HK.out _ _ xzc hJ rfl id
  case o5=>
   intro u a w' ev hJ hd K hK;have e1:tg a 1= .int .i64 i:=ev 1 xdd;have HK:=hid hK;clear hK ev hd;go_simp;exact HK.out _ _ xzc hJ rfl id
  case o6=>
   intro u a w' ev hJ hd K hK;have e0:tg a 0= .pointer (some ⟨b,0,none⟩):=ev 0 xdd;have HK:=hid hK;clear hK ev hd;go_simp;exact HK.out _ _ xzc hJ rfl id
  case o7=>
   intro u a w' ev hJ hd K hK;have e61:tg a 61= .pointer (some ⟨b,0,none⟩):=(ev 61 xdd).trans (hd 6 _ xk rfl);have HK:=hid hK;clear hK ev hd;go_simp;exact HK.out _ _ xzc hJ rfl id
  case o8=>
   intro u a w' ev hJ hd K hK;have e62:tg a 62= .pointer (some ⟨b,0,none⟩):=(ev 62 xdd).trans (hd 7 _ xk rfl);have HK:=hid hK;clear hK ev hd;go_simp;exact HK.out _ _ xzc hJ rfl id
  case o9=>
   intro u a w' ev hJ hd K hK;have e63:tg a 63= .pointer (some ⟨b,0,none⟩):=(ev 63 xdd).trans (hd 8 _ xk rfl);have HK:=hid hK;clear hK ev hd;go_simp;exact HK.out _ _ xzc hJ rfl id
  case o10=>
   intro u a w' ev hJ hd K hK;have e64:tg a 64= .pointer (some ⟨b,3,none⟩):=(ev 64 xdd).trans (hd 9 _ xk rfl);have g0:=xob c3 (hJ.1 b xo);have HK:=hid hK;clear hK ev hd;go_simp;exact HK.out _ _ xzc hJ rfl id
  case o11=>
   intro u a w' ev hJ hd K hK;have e1:tg a 1= .int .i64 i:=ev 1 xdd;have HK:=hid hK;clear hK ev hd;go_simp;exact HK.out _ _ xzc hJ rfl id
  case o12=>
   intro u a w' ev hJ hd K hK;have e59:tg a 59= .slice (some ⟨g2,0,none⟩) n k2:=(ev 59 xdd).trans (hd 4 _ xk rfl);have e60:tg a 60= .int .i64 i:=(ev 60 xdd).trans (hd 5 _ xk rfl);have HK:=hid hK;clear hK ev hd;go_simp;exact HK.out _ _ xzc hJ rfl id
  case o13=>
   intro u a w' ev hJ hd K hK;have e67:tg a 67= .pointer (some ⟨g2,i,none⟩):=(ev 67 xdd).trans (hd 12 _ xk rfl);obtain ⟨⟨y,hy⟩,hf,hj⟩:=JST.out w' hJ;have HK:=hid hK;clear hK ev hd;go_simp;exact HK.out _ _ (fun h=>rfl) hj.1 hj.2 (fun _=>hj.2)
 case fin=>
  intro u w7 hJ hG;have h65:u 65= .slice (some ⟨g3,0,none⟩) n k3:=hG 10 _ rfl;have h66:u 66= .int .i64 i:=hG 11 _ rfl;have hnew:OWn w7:=hG 13 _ rfl;rw [HON.out] at hnew;have O27:=hid hnew;have hz7:w7.heap.size=w4.heap.size:=hJ.2.1;have hk7:∀q,q≠g2→w7.heap[q]? =w4.heap[q]? :=hJ.1;have K7:Hid (KeptA g1 g2 g3 g4 w w7):=hid (K4.out.step xo hJ.2.2.1.1 hJ.2.2.1.2.1 hJ.2.2.1.2.2 fun q hq h1 h2 h3 h4=>hk7 q xo);replace c0:w7.cell? ⟨b,0,none⟩=some (.int .i64 seg):=xob c0 (hk7 b xo);replace c1:w7.cell? ⟨b,1,none⟩=some (.slice (some ⟨g1,0,none⟩) lw k1):=xob c1 (hk7 b xo);replace c2:w7.cell? ⟨b,2,none⟩=some (.slice (some ⟨g2,0,none⟩) n k2):=xob c2 (hk7 b xo);replace c3:w7.cell? ⟨b,3,none⟩=some (.slice (some ⟨g3,0,none⟩) n k3):=xob c3 (hk7 b xo);replace c4:w7.cell? ⟨b,4,none⟩=some (.slice (some ⟨g4,0,none⟩) lc k4):=xob c4 (hk7 b xo);replace c5:w7.cell? ⟨b,5,none⟩=some (.int .u64 laid):=xob c5 (hk7 b xo);replace d3:w7.cell? ⟨g3,i,none⟩=some (.int .i64 vx):=xob d3 (hk7 g3 xo);replace d4:w7.cell? ⟨g4,s,none⟩=some (.int .i64 nx):=xob d4 (hk7 g4 xo);replace f1:w7.frozen? ⟨g1,qi,none⟩=false:=(frozen_of_block (hk7 g1 xo) _).trans f1;replace f3:w7.frozen? ⟨g3,i,none⟩=false:=(frozen_of_block (hk7 g3 xo) _).trans f3;replace f4:w7.frozen? ⟨g4,s,none⟩=false:=(frozen_of_block (hk7 g4 xo) _).trans f4;replace f5:w7.frozen? ⟨b,5,none⟩=false:=(frozen_of_block (hk7 b xo) _).trans f5;replace r0:=xob r0 (hk7 w.heap.size xo);replace p0:=(frozen_of_block (hk7 w.heap.size xo) 0).trans p0;replace r1:=xob r1 (hk7 w.heap.size xo);replace p1:=(frozen_of_block (hk7 w.heap.size xo) 1).trans p1;replace O1:=hid (owns_heap (W':=w7) O1.out fun j hj=>by cases hj;exact hk7 g1 xo);replace O3:=hid (owns_heap (W':=w7) O3.out fun j hj=>by cases hj;exact hk7 g3 xo);replace O4:=hid (owns_heap (W':=w7) O4.out fun j hj=>by cases hj;exact hk7 g4 xo);clear hG hJ hnew hk7 JIN JST K4 O2 HON;simp only [mixFrame,mixL,dstsOf,List.take_succ_cons,List.take_zero,List.filterMap_cons,List.filterMap_nil,List.contains_cons,List.contains_nil,Nat.reduceBEq,Bool.or_false,Bool.false_or,Bool.or_true,Bool.true_or,if_true,if_false,Bool.false_eq_true,Nat.reduceAdd,Nat.zero_add,List.drop_succ_cons,List.drop_zero,h65,h66];go_wp2
  have hkE:∀q,q≠g3→q≠w.heap.size→(((w7.setCell ⟨g3,i,none⟩ (.int .i64 0)).setCell ⟨w.heap.size,0,none⟩ (.int .i64 kx)).setCell ⟨w.heap.size,1,none⟩ (.int .i64 vx)).heap[q]? =w7.heap[q]? :=fun q h1 h2=>by rw [heap_setCell_ne _ _ _ h2,heap_setCell_ne _ _ _ h2,heap_setCell_ne _ _ _ h1]
  have hkR:∀q,q≠w.heap.size→(((w7.setCell ⟨g3,i,none⟩ (.int .i64 0)).setCell ⟨w.heap.size,0,none⟩ (.int .i64 kx)).setCell ⟨w.heap.size,1,none⟩ (.int .i64 vx)).heap[q]? =(w7.setCell ⟨g3,i,none⟩ (.int .i64 0)).heap[q]? :=fun q h2=>by rw [heap_setCell_ne _ _ _ h2,heap_setCell_ne _ _ _ h2]
  refine bodyPost_ret (results_c rfl rfl (run_loadVar_two Tryz.underlying79 rfl xk (v:= .int .i64 kx) (u:= .int .i64 vx) (set_keep xsi (World.cell?_setCell_same _ _ _ (set_keep (by simp<;>omega) r0))) (World.cell?_setCell_same _ _ _ (set_keep xsi (set_keep (by simp<;>omega) r1))))) rfl ⟨rfl,?_,?_⟩
  · refine ⟨?_,?_,?_,?_,?_,?_,?_,?_,?_,?_,?_⟩
    · exact (World.cell?_of_block (a:=⟨b,0,none⟩) (hkE b xo xo)).trans c0
    · exact (World.cell?_of_block (a:=⟨b,1,none⟩) (hkE b xo xo)).trans c1
    · exact (World.cell?_of_block (a:=⟨b,2,none⟩) (hkE b xo xo)).trans c2
    · exact (World.cell?_of_block (a:=⟨b,3,none⟩) (hkE b xo xo)).trans c3
    · exact (World.cell?_of_block (a:=⟨b,4,none⟩) (hkE b xo xo)).trans c4
    · exact (World.cell?_of_block (a:=⟨b,5,none⟩) (hkE b xo xo)).trans c5
    · exact (frozen_of_block (hkE b xo xo) 5).trans f5
    · exact owns_heap O1.out fun j hj=>by cases hj;exact hkE g1 xo xo
    · exact owns_heap O27.out fun j hj=>by cases hj;exact hkE g2 xo xo
    · exact owns_heap (own_set O3.out i 0) fun j hj=>by cases hj;exact hkR g3 xo
    · exact owns_heap O4.out fun j hj=>by cases hj;exact hkE g4 xo xo
  · exact K7.out.step xsi rfl rfl rfl fun q hq h1 h2 h3 h4=>hkE q h3 xo
end
section
open Go.RowKit
theorem is_cell (b g1 lw k1 i q r:Nat) (x:Int) (hx0:0≤x) (hx1:x<18446744073709551616) (hqI:(i:Int)/64=q) (hrI:(i:Int)%64=r) (hr64:r<64) (hi:q<lw) (hlw:lw≤65536) (hi2:i≤65536) (bt:Bool) (hbt:bitI x r=bt) (w:World) (c1:w.cell? ⟨b,1,none⟩=some (.slice (some ⟨g1,0,none⟩) lw k1)) (hc:w.cell? ⟨g1,q,none⟩=some (.int .u64 x)):
    Calls Tryz.prog 145 #[.pointer (some ⟨b,0,none⟩),.int .i64 i] w fun e w'=>e= .returned (.bool bt)∧w=w':=by
 have hand:=bitI_and hx0 hx1 r;rw [hbt] at hand;clear hbt;cases bt with
 | true=>
  rw [if_pos rfl] at hand;go_enter Tryz.func145,Tryz.ntmps145
  go_wp2
  go_ret
  exact ⟨rfl,rfl⟩
 | false=>
  rw [if_neg xdd] at hand;go_enter Tryz.func145,Tryz.ntmps145
  go_wp2
  go_ret
  exact ⟨rfl,rfl⟩
def clrX (x:Int) (r:Nat):Int:=bits BinOp.andNot IntKind.u64 x (IntKind.u64.wrap (2^r))
def setX (x:Int) (r:Nat):Int:=bits BinOp.or IntKind.u64 x (IntKind.u64.wrap (2^r))
def clrL (ws:List Int) (i:Nat):List Int:=ws.set (i/64) (clrX (ws.getD (i/64) 0) (i%64))
def setL (ws:List Int) (i:Nat):List Int:=ws.set (i/64) (setX (ws.getD (i/64) 0) (i%64))
structure ArrNe (b g1 g2 g3 g4:Nat):Prop where
 n1:g1≠b
 n2:g2≠b
 n3:g3≠b
 n4:g4≠b
 n12:g1≠g2
 n13:g1≠g3
 n14:g1≠g4
 n23:g2≠g3
 n24:g2≠g4
 n34:g3≠g4
theorem slTake_ok (w:World) (B b g1 g2 g3 g4 k1 k2 k3 k4 lw n lc i S:Nat) (seg laid:Int) (ws ks vs cs:List Int) (h:ArrOn B w b g1 g2 g3 g4 k1 k2 k3 k4 lw n lc seg laid ws ks vs cs) (hne:ArrNe b g1 g2 g3 g4) (hu:U64s ws) (hin:i<n) (hn:n≤65536) (hq:i/64<lw) (hlw:lw≤65536) (hS:seg=S) (hS4:4≤S) (hs:i/S<lc) (hlc:lc≤65536) (hcs:∀k,0≤cs.getD k 0∧cs.getD k 0≤65536):
    Calls Tryz.prog 113 #[.pointer (some ⟨b,0,none⟩),.int .i64 i] w fun e W=>e= .returned (.agg #[.int .i64 (ks.getD i 0),.int .i64 (vs.getD i 0)])∧
      ArrOn B W b g1 g2 g3 g4 k1 k2 k3 k4 lw n lc seg laid (clrL ws i) (ks.set i 0) (vs.set i 0) (if bitW ws i=true then cs.set (i/S) (cs.getD (i/S) 0-1) else cs)∧KeptA g1 g2 g3 g4 w W:=by
 have hl1:=own_len h.o1;have hl2:=own_len h.o2;have hl3:=own_len h.o3;have hl4:=own_len h.o4;obtain ⟨d1,f1⟩:=own_cell h.o1 (j:=i/64) xo;obtain ⟨d2,f2⟩:=own_cell h.o2 (j:=i) xo;obtain ⟨d3,f3⟩:=own_cell h.o3 (j:=i) xo;obtain ⟨d4,f4⟩:=own_cell h.o4 (j:=i/S) xo;have hx:=hu.get (i/64);have hy:=hcs (i/S);have hsI:(i:Int)/seg=(i/S:Nat):=by rw [hS];push_cast;rfl
 have hrT:(i:Int).tmod 64=(i%64:Nat):=by rw [Int.tmod_eq_emod_of_nonneg xo];omega
 by_cases hb:bitW ws i=true
 · rw [if_pos hb];exact slTake_set w B b g1 g2 g3 g4 k1 k2 k3 k4 lw n lc i (i/64) (i%64) (i/S) seg _ _ _ _ laid ws ks vs cs h.c0 h.c1 h.c2 h.c3 h.c4 h.c5 h.f5 (hid h.o1) (hid h.o2) (hid h.o3) (hid h.o4) d1 d2 d3 d4 f1 f2 f3 f4 hin hn xo xo hrT xo hq hs hsI (by simp;omega) xo xo hlc hlw hne.n1 hne.n2 hne.n3 hne.n4 hne.n12 hne.n13 hne.n14 hne.n23 hne.n24 hne.n34 hy.1 hy.2
     (hid fun W c1 hc=>is_cell b g1 lw k1 i (i/64) (i%64) _ hx.1 hx.2 xo xo xo hq hlw xo true hb W c1 hc) trivial
 · have hb':bitW ws i=false:=by simpa using hb
   rw [if_neg hb];exact slTake_clr w B b g1 g2 g3 g4 k1 k2 k3 k4 lw n lc i (i/64) (i%64) (i/S) seg _ _ _ _ laid ws ks vs cs h.c0 h.c1 h.c2 h.c3 h.c4 h.c5 h.f5 (hid h.o1) (hid h.o2) (hid h.o3) (hid h.o4) d1 d2 d3 d4 f1 f2 f3 f4 hin hn xo xo hrT xo hq hs hsI (by simp;omega) xo xo hlc hlw hne.n1 hne.n2 hne.n3 hne.n4 hne.n12 hne.n13 hne.n14 hne.n23 hne.n24 hne.n34 hy.1 hy.2
     (hid fun W c1 hc=>is_cell b g1 lw k1 i (i/64) (i%64) _ hx.1 hx.2 xo xo xo hq hlw xo false hb' W c1 hc) trivial
end
end Go.Proofs.YtmnlagmmbfjbeaaGreatDoor

/- Merged: SlTwin. -/
import Derived.Test.YtmnlagmmbfjbeaaDoorPmaNamesP14
namespace Go.Proofs.YtmnlagmmbfjbeaaDoor
set_option maxRecDepth 100000
set_option maxHeartbeats 40000000
set_option linter.unusedVariables false
set_option linter.unusedSimpArgs false
section
open Go.RowKit Go.Shelf
attribute [local go_sem] Oper.semAt_some
theorem infoR_uint64:(Tryd.prog.info? 27).map (fun i=>(i.zero,i.size,i.bytes))=some (some (.int .u64 0),1,8):=by kernel_rfl
theorem Clone_uint64 (ga:Option Addr) (gc:Nat) (xs:List Int) (w:World) (hg:IsRow .u64 w ga xs) (hl:xs.length≤100000):
    Calls Tryd.prog 55 #[.slice ga xs.length gc] w (FreshRow .u64 27 w xs):=by
 have q22:∀(w:World) (a:Option Addr) (n c n' c':Nat),(binOp .eql 24 (.slice a n c) (.slice none n' c')).run Tryd.prog w= .ok (.bool a.isNone) w:=fun w a n c n' c'=>Lib.run_eql_slice_nil w _ _ a n c n' c' Tryd.underlying24
 have HG:=hid hg;clear hg;cases ga with
 | none=>
  have hx:xs=[]:=row_none HG.out;subst hx;go_enter Tryd.func55,Tryd.ntmps55
  go_wp2
  go_ret
  exact ⟨_,rfl,World.ownsRow_nil _ _ _ _,Below.refl _ _⟩
 | some a=>
  have HN:=hid (row_news HG.out);go_enter Tryd.func55,Tryd.ntmps55
  go_wp2_with (at_builtin;refine wpl_append (.tmp 5) (.tmp 6) 24 27 (.int .u64 0) 1 8 Tryd.underlying24 infoR_uint64 rfl xdd xdd w.heap.size _ 0 [] (some a) xs.length gc (xs.map (Value.int .u64)) (World.ownsRow_made w #[] 0 (Nat.le_refl _) (Nat.zero_le _) rfl) xsi xzc (fun ad h j u hj=>Lib.cell?_alloc_some _ (HN.out ad h j u hj)) (numCells _) xo xsi rfl rfl rfl rfl ?_;intro v' w1 hown hgrow _)
  go_wp2
  go_ret
  refine ⟨v',rfl,by simpa using hown,?_⟩;exact ((Below.refl _ w).alloc (Nat.le_refl _) _).grown hgrow xsi (by intro k hk;simp [Value.ownBlock] at hk;omega)
def FactR.row (base:Nat) (e:TypeId) (n:Nat) (xs:List Value):FactR RB:=⟨fun v w=>w.ownsRow base e 1 v n xs,fun _ _ _ h k=>owns_below k h⟩
def relAt (ds:List Nat) (fs:List (FactR RB)) (k:Nat) (u:Nat→Value) (w:World):Prop:=factRAt fs k (u (ds.getD k 0)) w∧(k=8→∀p q,(u 8).ownBlock=some p→(u 11).ownBlock=some q→p≠q)
theorem relAt_stays (ds:List Nat) (fs:List (FactR RB)) (k:Nat) (u:Nat→Value) (w w':World) (h:RB w w'):relAt ds fs k u w→relAt ds fs k u w':=fun ⟨h1,h2⟩=>⟨factRAt_stays fs k _ w w' h h1,h2⟩
theorem relAt_dep {l:List Oper} (ds:List Nat) (fs:List (FactR RB)) (h:(List.range l.length).all (fun k=>match l[k]? with|some o=>decide (13≤k)||o.dst==some (ds.getD k 0)|none=>true)=true)
    (h8:(match l[8]?,l[5]? with|some o,some p=>o.dst==some 11&&p.dst==some 8&&(o.after.any fun e=>Region.binds .any e&&e.on==5)|_,_=>false)=true) (hfs:fs.length≤13) (hll:13≤l.length):
    ∀(k:Nat) (u u':Nat→Value) (w:World),(∀(j:Nat) (p o:Oper),l[j]? =some p→l[k]? =some o→(j=k∨(o.after.any fun e=>Region.binds .any e&&e.on==j)=true)→valOf u' p=valOf u p)→relAt ds fs k u w→relAt ds fs k u' w:=by
 intro k u u' w hv hg;refine ⟨?_,?_⟩
 · by_cases hk:13≤k
   · have e:factRAt fs k=fun _ _=>True:=by funext v x;unfold factRAt;rw [List.getD_eq_getElem?_getD,List.getElem?_eq_none xo];rfl
     rw [e];trivial
   · by_cases hl:k<l.length
     · have h1:=List.all_eq_true.1 h k (List.mem_range.2 hl);have ho:l[k]? =some l[k]:=List.getElem?_eq_getElem hl;rw [ho] at h1;simp only [Bool.or_eq_true,decide_eq_true_eq,beq_iff_eq] at h1;have h2:=h1.resolve_left hk;have h3:=hv k _ _ ho ho (.inl rfl);simp only [valOf,h2] at h3;rw [h3];exact hg.1
     · omega
 · rintro rfl p q hp hq;cases ho:l[8]? with
   | none=>rw [ho] at h8;cases h8
   | some o=>
    cases hp5:l[5]? with
    | none=>rw [ho,hp5] at h8;cases h8
    | some p5=>
     rw [ho,hp5] at h8;simp only [Bool.and_eq_true,beq_iff_eq] at h8;have e1:=hv 8 _ _ ho ho (.inl rfl);have e2:=hv 5 _ _ hp5 ho (.inr h8.2);simp only [valOf,h8.1.1,h8.1.2] at e1 e2;rw [e1] at hq;rw [e2] at hp;exact hg.2 rfl p q hp hq
theorem slTwin_ok (c:SlC) (a:SlA) (w:World) (hin:SlIn w c a) (hl1:c.ws.length≤100000) (hl2:c.ks.length≤100000) (hl3:c.vs.length≤100000) (hl4:c.cs.length≤100000):
    Calls Tryd.prog 29 #[slV c a] w (FreshSlN w c):=by
 have C1:=hid (fun W (hb:Below w.heap.size w W)=>Clone_uint64 a.wa a.wc c.ws W (hin.w.below hb) hl1);have C2:=hid (fun W (hb:Below w.heap.size w W)=>Clone_int64 a.ka a.kc c.ks W (hin.k.below hb) hl2);have C3:=hid (fun W (hb:Below w.heap.size w W)=>Clone_int64 a.va a.vc c.vs W (hin.v.below hb) hl3);have C4:=hid (fun W (hb:Below w.heap.size w W)=>Clone_int a.ca a.cc c.cs W (hin.n.below hb) hl4);obtain ⟨seg,ws,ks,vs,cs,laid⟩:=c;obtain ⟨wa,ka,va,ca,wc,kc,vc,cc⟩:=a;dsimp only [slV,FreshSlN,FreshRow] at *;obtain ⟨lw,hw⟩:∃n,ws.length=n:=⟨_,rfl⟩
 obtain ⟨lk,hk⟩:∃n,ks.length=n:=⟨_,rfl⟩
 obtain ⟨lv,hv⟩:∃n,vs.length=n:=⟨_,rfl⟩
 obtain ⟨lc,hc⟩:∃n,cs.length=n:=⟨_,rfl⟩
 rw [hw] at C1 ⊢;rw [hk] at C2 ⊢;rw [hv] at C3 ⊢;rw [hc] at C4 ⊢;have HL1:=hid hw;have HL2:=hid hk;have HL3:=hid hv;have HL4:=hid hc;clear hw hk hv hc hin hl1 hl2 hl3 hl4;go_enter Tryd.func29,Tryd.ntmps29
 go_wp2
 generalize hwz:(w.alloc _).alloc _=wz;have c_t0:wz.cell? ⟨w.heap.size,0,none⟩=some (.int .i64 seg):=by rw [←hwz];(exact xcg)
 have f_t0:wz.frozen? ⟨w.heap.size,0,none⟩=false:=by rw [←hwz];(exact xcg)
 have c_t1:wz.cell? ⟨w.heap.size,1,none⟩=some (.slice wa lw wc):=by rw [←hwz];(exact xcg)
 have f_t1:wz.frozen? ⟨w.heap.size,1,none⟩=false:=by rw [←hwz];(exact xcg)
 have c_t2:wz.cell? ⟨w.heap.size,2,none⟩=some (.slice ka lk kc):=by rw [←hwz];(exact xcg)
 have f_t2:wz.frozen? ⟨w.heap.size,2,none⟩=false:=by rw [←hwz];(exact xcg)
 have c_t3:wz.cell? ⟨w.heap.size,3,none⟩=some (.slice va lv vc):=by rw [←hwz];(exact xcg)
 have f_t3:wz.frozen? ⟨w.heap.size,3,none⟩=false:=by rw [←hwz];(exact xcg)
 have c_t4:wz.cell? ⟨w.heap.size,4,none⟩=some (.slice ca lc cc):=by rw [←hwz];(exact xcg)
 have f_t4:wz.frozen? ⟨w.heap.size,4,none⟩=false:=by rw [←hwz];(exact xcg)
 have c_t5:wz.cell? ⟨w.heap.size,5,none⟩=some (.int .u64 laid):=by rw [←hwz];(exact xcg)
 have f_t5:wz.frozen? ⟨w.heap.size,5,none⟩=false:=by rw [←hwz];(exact xcg)
 have z_t:w.heap.size<wz.heap.size:=by rw [←hwz];(exact xlt)
 have c_r0:wz.cell? ⟨w.heap.size+1,0,none⟩=some (.int .i64 0):=by rw [←hwz];(exact xcg)
 have f_r0:wz.frozen? ⟨w.heap.size+1,0,none⟩=false:=by rw [←hwz];(exact xcg)
 have c_r1:wz.cell? ⟨w.heap.size+1,1,none⟩=some (.slice none 0 0):=by rw [←hwz];(exact xcg)
 have f_r1:wz.frozen? ⟨w.heap.size+1,1,none⟩=false:=by rw [←hwz];(exact xcg)
 have c_r2:wz.cell? ⟨w.heap.size+1,2,none⟩=some (.slice none 0 0):=by rw [←hwz];(exact xcg)
 have f_r2:wz.frozen? ⟨w.heap.size+1,2,none⟩=false:=by rw [←hwz];(exact xcg)
 have c_r3:wz.cell? ⟨w.heap.size+1,3,none⟩=some (.slice none 0 0):=by rw [←hwz];(exact xcg)
 have f_r3:wz.frozen? ⟨w.heap.size+1,3,none⟩=false:=by rw [←hwz];(exact xcg)
 have c_r4:wz.cell? ⟨w.heap.size+1,4,none⟩=some (.slice none 0 0):=by rw [←hwz];(exact xcg)
 have f_r4:wz.frozen? ⟨w.heap.size+1,4,none⟩=false:=by rw [←hwz];(exact xcg)
 have c_r5:wz.cell? ⟨w.heap.size+1,5,none⟩=some (.int .u64 0):=by rw [←hwz];(exact xcg)
 have f_r5:wz.frozen? ⟨w.heap.size+1,5,none⟩=false:=by rw [←hwz];(exact xcg)
 have z_r:w.heap.size+1<wz.heap.size:=by rw [←hwz];(exact xlt)
 have HS:Hid (Below w.heap.size w wz):=by rw [←hwz];exact hid ((br.alloc (Nat.le_refl _) _).alloc xsi _)
 have hz:w.heap.size+2=wz.heap.size:=by rw [←hwz];simp
 clear hwz;refine wp_region_rel 13 xk (N:=20) rfl xk xk xdd (fun w'=>Below wz.heap.size wz w') RB (relAt [3,4,5,6,7,8,9,10,11,12,13,14,15] [.is (.pointer (some ⟨w.heap.size,1,none⟩)),.is (.slice wa lw wc),.row wz.heap.size 27 lw (ws.map (Value.int .u64)),.is (.pointer (some ⟨w.heap.size,2,none⟩)),.is (.slice ka lk kc),.row wz.heap.size 2 lk (ks.map (Value.int .i64)),.is (.pointer (some ⟨w.heap.size,3,none⟩)),.is (.slice va lv vc),.row wz.heap.size 2 lv (vs.map (Value.int .i64)),.is (.pointer (some ⟨w.heap.size,4,none⟩)),.is (.slice ca lc cc),.row wz.heap.size 3 lc (cs.map (Value.int .i64)),.is (.pointer (some ⟨w.heap.size,1,none⟩))]) (relAt_stays _ _) ?dep br.drew ?steps ?fin
 case dep=>
  exact relAt_dep _ _ xk xk (Nat.le_refl 13) xdd
 case steps=>
  refine ⟨?o0,?o1,?o2,?o3,?o4,?o5,?o6,?o7,?o8,?o9,?o10,?o11,?o12,trivial⟩
  case o0=>
   intro u a w' ev hJ hd K hK;have e1:tg a 1= .pointer (some ⟨w.heap.size,0,none⟩):=ev 1 xdd;have HK:=hid hK;clear hK ev hd;go_simp;exact HK.out _ _ xzc hJ ⟨rfl,fun h=>absurd h xdd⟩ br
  case o1=>
   intro u a w' ev hJ hd K hK;have e3:tg a 3= .pointer (some ⟨w.heap.size,1,none⟩):=(ev 3 xdd).trans (hd 0 _ xk rfl).1;have g0:=xjc hJ c_t1;have HK:=hid hK;clear hK ev hd;go_simp;exact HK.out _ _ xzc hJ ⟨rfl,fun h=>absurd h xdd⟩ br
  case o2=>
   intro u a w' ev hJ hd K hK;have e4:tg a 4= .slice wa lw wc:=(ev 4 xdd).trans (hd 1 _ xk rfl).1;have HK:=hid hK;have HC:=hid (C1.out w' (below_via hJ HS.out xo));have hzJ:=hJ.size;clear hK ev hd;go_simp;refine HC.out.mono ?_;rintro e w'' ⟨v,rfl,ho,hb⟩;exact HK.out _ _ xzc (hJ.trans (hb.mono hzJ)) ⟨owns_base (HL1.out ▸ ho) hzJ,fun h=>absurd h xdd⟩ hb
  case o3=>
   intro u a w' ev hJ hd K hK;have e1:tg a 1= .pointer (some ⟨w.heap.size,0,none⟩):=ev 1 xdd;have HK:=hid hK;clear hK ev hd;go_simp;exact HK.out _ _ xzc hJ ⟨rfl,fun h=>absurd h xdd⟩ br
  case o4=>
   intro u a w' ev hJ hd K hK;have e6:tg a 6= .pointer (some ⟨w.heap.size,2,none⟩):=(ev 6 xdd).trans (hd 3 _ xk rfl).1;have g0:=xjc hJ c_t2;have HK:=hid hK;clear hK ev hd;go_simp;exact HK.out _ _ xzc hJ ⟨rfl,fun h=>absurd h xdd⟩ br
  case o5=>
   intro u a w' ev hJ hd K hK;have e7:tg a 7= .slice ka lk kc:=(ev 7 xdd).trans (hd 4 _ xk rfl).1;have HK:=hid hK;have HC:=hid (C2.out w' (below_via hJ HS.out xo));have hzJ:=hJ.size;clear hK ev hd;go_simp;refine HC.out.mono ?_;rintro e w'' ⟨v,rfl,ho,hb⟩;exact HK.out _ _ xzc (hJ.trans (hb.mono hzJ)) ⟨owns_base (HL2.out ▸ ho) hzJ,fun h=>absurd h xdd⟩ hb
  case o6=>
   intro u a w' ev hJ hd K hK;have e1:tg a 1= .pointer (some ⟨w.heap.size,0,none⟩):=ev 1 xdd;have HK:=hid hK;clear hK ev hd;go_simp;exact HK.out _ _ xzc hJ ⟨rfl,fun h=>absurd h xdd⟩ br
  case o7=>
   intro u a w' ev hJ hd K hK;have e9:tg a 9= .pointer (some ⟨w.heap.size,3,none⟩):=(ev 9 xdd).trans (hd 6 _ xk rfl).1;have g0:=xjc hJ c_t3;have HK:=hid hK;clear hK ev hd;go_simp;exact HK.out _ _ xzc hJ ⟨rfl,fun h=>absurd h xdd⟩ br
  case o8=>
   intro u a w' ev hJ hd K hK;have e10:tg a 10= .slice va lv vc:=(ev 10 xdd).trans (hd 7 _ xk rfl).1;have H5:Hid (w'.ownsRow wz.heap.size 2 1 (u 8) lk (ks.map (Value.int .i64))):=hid (hd 5 _ xk rfl).1;have HK:=hid hK;have HC:=hid (C3.out w' (below_via hJ HS.out xo));have hzJ:=hJ.size;clear hK ev hd;go_simp;refine HC.out.mono ?_;rintro e w'' ⟨v,rfl,ho,hb⟩;exact HK.out _ _ xzc (hJ.trans (hb.mono hzJ)) ⟨owns_base (HL3.out ▸ ho) hzJ,fun _ p q hp hq=>by have h1:=(H5.out.lt p hp).2;have h2:=(ho.lt q hq).1;omega⟩ hb
  case o9=>
   intro u a w' ev hJ hd K hK;have e1:tg a 1= .pointer (some ⟨w.heap.size,0,none⟩):=ev 1 xdd;have HK:=hid hK;clear hK ev hd;go_simp;exact HK.out _ _ xzc hJ ⟨rfl,fun h=>absurd h xdd⟩ br
  case o10=>
   intro u a w' ev hJ hd K hK;have e12:tg a 12= .pointer (some ⟨w.heap.size,4,none⟩):=(ev 12 xdd).trans (hd 9 _ xk rfl).1;have g0:=xjc hJ c_t4;have HK:=hid hK;clear hK ev hd;go_simp;exact HK.out _ _ xzc hJ ⟨rfl,fun h=>absurd h xdd⟩ br
  case o11=>
   intro u a w' ev hJ hd K hK;have e13:tg a 13= .slice ca lc cc:=(ev 13 xdd).trans (hd 10 _ xk rfl).1;have HK:=hid hK;have HC:=hid (C4.out w' (below_via hJ HS.out xo));have hzJ:=hJ.size;clear hK ev hd;go_simp;refine HC.out.mono ?_;rintro e w'' ⟨v,rfl,ho,hb⟩;exact HK.out _ _ xzc (hJ.trans (hb.mono hzJ)) ⟨owns_base (HL4.out ▸ ho) hzJ,fun h=>absurd h xdd⟩ hb
  case o12=>
   intro u a w' ev hJ hd K hK;have e1:tg a 1= .pointer (some ⟨w.heap.size,0,none⟩):=ev 1 xdd;have HK:=hid hK;clear hK ev hd;go_simp;exact HK.out _ _ xzc hJ ⟨rfl,fun h=>absurd h xdd⟩ br
 case fin=>
  intro u w2 hJ hG;have h15:u 15= .pointer (some ⟨w.heap.size,1,none⟩):=(hG 12 _ rfl).1;have p1:(FactR.row wz.heap.size 27 lw (ws.map (Value.int .u64))).holds (u 5) w2:=(hG 2 _ rfl).1;have p2:(FactR.row wz.heap.size 2 lk (ks.map (Value.int .i64))).holds (u 8) w2:=(hG 5 _ rfl).1;have p3:(FactR.row wz.heap.size 2 lv (vs.map (Value.int .i64))).holds (u 11) w2:=(hG 8 _ rfl).1;have p4:(FactR.row wz.heap.size 3 lc (cs.map (Value.int .i64))).holds (u 14) w2:=(hG 11 _ rfl).1;have hne:∀p q,(u 8).ownBlock=some p→(u 11).ownBlock=some q→p≠q:=(hG 8 _ rfl).2 rfl;obtain ⟨a1,c1,h5,-⟩:=owns_news p1;obtain ⟨a2,c2,h8,-⟩:=owns_news p2;obtain ⟨a3,c3,h11,-⟩:=owns_news p3;obtain ⟨a4,c4,h14,-⟩:=owns_news p4;rw [h5] at p1;rw [h8] at p2;rw [h11] at p3;rw [h14] at p4;rw [h8,h11] at hne;have HNE:=hid hne;clear hne;have HP1:Hid (w2.ownsRow wz.heap.size 27 1 (.slice a1 lw c1) lw (ws.map (Value.int .u64))):=hid p1;have HP2:Hid (w2.ownsRow wz.heap.size 2 1 (.slice a2 lk c2) lk (ks.map (Value.int .i64))):=hid p2;have HP3:Hid (w2.ownsRow wz.heap.size 2 1 (.slice a3 lv c3) lv (vs.map (Value.int .i64))):=hid p3;have HP4:Hid (w2.ownsRow wz.heap.size 3 1 (.slice a4 lc c4) lc (cs.map (Value.int .i64))):=hid p4;have hz_w2:=hJ.size;replace c_t0:w2.cell? ⟨w.heap.size,0,none⟩=some (.int .i64 seg):=xjt hJ xlt xcn;replace f_t0:w2.frozen? ⟨w.heap.size,0,none⟩=false:=xft hJ xlt xcn;replace c_t1:w2.cell? ⟨w.heap.size,1,none⟩=some (.slice wa lw wc):=xjt hJ xlt xcn;replace f_t1:w2.frozen? ⟨w.heap.size,1,none⟩=false:=xft hJ xlt xcn;replace c_t2:w2.cell? ⟨w.heap.size,2,none⟩=some (.slice ka lk kc):=xjt hJ xlt xcn;replace f_t2:w2.frozen? ⟨w.heap.size,2,none⟩=false:=xft hJ xlt xcn;replace c_t3:w2.cell? ⟨w.heap.size,3,none⟩=some (.slice va lv vc):=xjt hJ xlt xcn;replace f_t3:w2.frozen? ⟨w.heap.size,3,none⟩=false:=xft hJ xlt xcn;replace c_t4:w2.cell? ⟨w.heap.size,4,none⟩=some (.slice ca lc cc):=xjt hJ xlt xcn;replace f_t4:w2.frozen? ⟨w.heap.size,4,none⟩=false:=xft hJ xlt xcn;replace c_t5:w2.cell? ⟨w.heap.size,5,none⟩=some (.int .u64 laid):=xjt hJ xlt xcn;replace f_t5:w2.frozen? ⟨w.heap.size,5,none⟩=false:=xft hJ xlt xcn;replace z_t:w.heap.size<w2.heap.size:=xo;replace c_r0:w2.cell? ⟨w.heap.size+1,0,none⟩=some (.int .i64 0):=xjt hJ xlt xcn;replace f_r0:w2.frozen? ⟨w.heap.size+1,0,none⟩=false:=xft hJ xlt xcn;replace c_r1:w2.cell? ⟨w.heap.size+1,1,none⟩=some (.slice none 0 0):=xjt hJ xlt xcn;replace f_r1:w2.frozen? ⟨w.heap.size+1,1,none⟩=false:=xft hJ xlt xcn;replace c_r2:w2.cell? ⟨w.heap.size+1,2,none⟩=some (.slice none 0 0):=xjt hJ xlt xcn;replace f_r2:w2.frozen? ⟨w.heap.size+1,2,none⟩=false:=xft hJ xlt xcn;replace c_r3:w2.cell? ⟨w.heap.size+1,3,none⟩=some (.slice none 0 0):=xjt hJ xlt xcn;replace f_r3:w2.frozen? ⟨w.heap.size+1,3,none⟩=false:=xft hJ xlt xcn;replace c_r4:w2.cell? ⟨w.heap.size+1,4,none⟩=some (.slice none 0 0):=xjt hJ xlt xcn;replace f_r4:w2.frozen? ⟨w.heap.size+1,4,none⟩=false:=xft hJ xlt xcn;replace c_r5:w2.cell? ⟨w.heap.size+1,5,none⟩=some (.int .u64 0):=xjt hJ xlt xcn;replace f_r5:w2.frozen? ⟨w.heap.size+1,5,none⟩=false:=xft hJ xlt xcn;replace z_r:w.heap.size+1<w2.heap.size:=xo;have hB2:Below w.heap.size w w2:=below_via hJ HS.out xo;clear hG p1 p2 p3 p4 hJ;simp only [mixFrame,mixL,dstsOf,List.take_succ_cons,List.take_zero,List.filterMap_cons,List.filterMap_nil,List.contains_cons,List.contains_nil,Nat.reduceBEq,Bool.or_false,Bool.false_or,Bool.or_true,Bool.true_or,if_true,if_false,Bool.false_eq_true,Nat.reduceAdd,Nat.zero_add,List.drop_succ_cons,List.drop_zero,h15,h5,h8,h11,h14];go_wp2
  have hb5:Below w.heap.size w ((((w2.setCell ⟨w.heap.size,1,none⟩ (.slice a1 lw c1)).setCell ⟨w.heap.size,2,none⟩ (.slice a2 lk c2)).setCell ⟨w.heap.size,3,none⟩ (.slice a3 lv c3)).setCell ⟨w.heap.size,4,none⟩ (.slice a4 lc c4)):=(((hB2.setCell xdo _).setCell xdo _).setCell xdo _).setCell xdo _;have k0:((((w2.setCell ⟨w.heap.size,1,none⟩ (.slice a1 lw c1)).setCell ⟨w.heap.size,2,none⟩ (.slice a2 lk c2)).setCell ⟨w.heap.size,3,none⟩ (.slice a3 lv c3)).setCell ⟨w.heap.size,4,none⟩ (.slice a4 lc c4)).cell? ⟨w.heap.size+1,0,none⟩=some (.int .i64 0):=set_keep xsi (set_keep xsi (set_keep xsi (set_keep xsi c_r0)));have k1:((((w2.setCell ⟨w.heap.size,1,none⟩ (.slice a1 lw c1)).setCell ⟨w.heap.size,2,none⟩ (.slice a2 lk c2)).setCell ⟨w.heap.size,3,none⟩ (.slice a3 lv c3)).setCell ⟨w.heap.size,4,none⟩ (.slice a4 lc c4)).cell? ⟨w.heap.size+1,1,none⟩=some (.slice none 0 0):=set_keep xsi (set_keep xsi (set_keep xsi (set_keep xsi c_r1)));have k2:((((w2.setCell ⟨w.heap.size,1,none⟩ (.slice a1 lw c1)).setCell ⟨w.heap.size,2,none⟩ (.slice a2 lk c2)).setCell ⟨w.heap.size,3,none⟩ (.slice a3 lv c3)).setCell ⟨w.heap.size,4,none⟩ (.slice a4 lc c4)).cell? ⟨w.heap.size+1,2,none⟩=some (.slice none 0 0):=set_keep xsi (set_keep xsi (set_keep xsi (set_keep xsi c_r2)));have k3:((((w2.setCell ⟨w.heap.size,1,none⟩ (.slice a1 lw c1)).setCell ⟨w.heap.size,2,none⟩ (.slice a2 lk c2)).setCell ⟨w.heap.size,3,none⟩ (.slice a3 lv c3)).setCell ⟨w.heap.size,4,none⟩ (.slice a4 lc c4)).cell? ⟨w.heap.size+1,3,none⟩=some (.slice none 0 0):=set_keep xsi (set_keep xsi (set_keep xsi (set_keep xsi c_r3)));have k4:((((w2.setCell ⟨w.heap.size,1,none⟩ (.slice a1 lw c1)).setCell ⟨w.heap.size,2,none⟩ (.slice a2 lk c2)).setCell ⟨w.heap.size,3,none⟩ (.slice a3 lv c3)).setCell ⟨w.heap.size,4,none⟩ (.slice a4 lc c4)).cell? ⟨w.heap.size+1,4,none⟩=some (.slice none 0 0):=set_keep xsi (set_keep xsi (set_keep xsi (set_keep xsi c_r4)));have k5:((((w2.setCell ⟨w.heap.size,1,none⟩ (.slice a1 lw c1)).setCell ⟨w.heap.size,2,none⟩ (.slice a2 lk c2)).setCell ⟨w.heap.size,3,none⟩ (.slice a3 lv c3)).setCell ⟨w.heap.size,4,none⟩ (.slice a4 lc c4)).cell? ⟨w.heap.size+1,5,none⟩=some (.int .u64 0):=set_keep xsi (set_keep xsi (set_keep xsi (set_keep xsi c_r5)));have HQ:Hid (∀q,w.heap.size+2≤q→((((((((((w2.setCell ⟨w.heap.size,1,none⟩ (.slice a1 lw c1)).setCell ⟨w.heap.size,2,none⟩ (.slice a2 lk c2)).setCell ⟨w.heap.size,3,none⟩ (.slice a3 lv c3)).setCell ⟨w.heap.size,4,none⟩ (.slice a4 lc c4)).setCell ⟨w.heap.size+1,0,none⟩ (.int .i64 seg)).setCell ⟨w.heap.size+1,1,none⟩ (.slice a1 lw c1)).setCell ⟨w.heap.size+1,2,none⟩ (.slice a2 lk c2)).setCell ⟨w.heap.size+1,3,none⟩ (.slice a3 lv c3)).setCell ⟨w.heap.size+1,4,none⟩ (.slice a4 lc c4)).setCell ⟨w.heap.size+1,5,none⟩ (.int .u64 laid)).heap[q]? =w2.heap[q]?):=hid fun q hq=>by
   rw [heap_setCell_ne _ _ _ xdo,heap_setCell_ne _ _ _ xdo,heap_setCell_ne _ _ _ xdo,heap_setCell_ne _ _ _ xdo,heap_setCell_ne _ _ _ xdo,heap_setCell_ne _ _ _ xdo,heap_setCell_ne _ _ _ xdo,heap_setCell_ne _ _ _ xdo,heap_setCell_ne _ _ _ xdo,heap_setCell_ne _ _ _ xdo]
  refine bodyPost_ret (results_c rfl rfl (run_loadVar_many _ Tryd.underlying29 rfl xk (six_set k0 k1 k2 k3 k4 k5))) rfl ⟨_,_,_,_,rfl,?_,?_,?_,?_,?_,HNE.out⟩
  · rw [HL1.out];exact owns_base (owns_heap HP1.out fun j hj=>HQ.out j (by have:=(HP1.out.lt j hj).1;omega)) xo
  · rw [HL2.out];exact owns_base (owns_heap HP2.out fun j hj=>HQ.out j (by have:=(HP2.out.lt j hj).1;omega)) xo
  · rw [HL3.out];exact owns_base (owns_heap HP3.out fun j hj=>HQ.out j (by have:=(HP3.out.lt j hj).1;omega)) xo
  · rw [HL4.out];exact owns_base (owns_heap HP4.out fun j hj=>HQ.out j (by have:=(HP4.out.lt j hj).1;omega)) xo
  · exact (((((hb5.setCell xdo _).setCell xdo _).setCell xdo _).setCell xdo _).setCell xdo _).setCell xdo _
end
end Go.Proofs.YtmnlagmmbfjbeaaDoor

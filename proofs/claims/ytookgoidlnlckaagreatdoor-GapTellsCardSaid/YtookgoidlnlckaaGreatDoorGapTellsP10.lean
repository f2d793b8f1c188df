/- Merged: Of04, May04, Seek. -/
import Derived.Test.YtookgoidlnlckaaGreatDoorGapTellsP9
import Derived.Test.YtookgoidlnlckaaGreatDoorGapTellsP8
namespace Go.Proofs.YtookgoidlnlckaaGreatDoor
set_option maxRecDepth 100000
set_option maxHeartbeats 40000000
set_option linter.unusedVariables false
set_option linter.unusedSimpArgs false
section
open Go.RowKit Go.Shelf
attribute [local go_sem] Oper.semAt_some
def Fact.laid {T:TypeId} (base:Nat) (t:TypeId) (he:t≠T) (vs:Array Value):Fact T:=
  ⟨fun v w=>∃b,v= .slice (some ⟨b,0,none⟩) 1 1∧base≤b∧w.heap[b]? =some (.cells vs t),fun _ _ _ h ⟨b,e,hb,hh⟩=>⟨b,e,hb,h.same _ _ hh (fun cs fr e=>by cases e;exact he rfl)⟩⟩
theorem laid_news {w:World} {b:Nat} {vs:Array Value} {t:TypeId} (h:w.heap[b]? =some (.cells vs t)):∀j u,vs.toList[j]? =some u→w.cell? ((⟨b,0,none⟩:Addr).add j)=some u:=by
 intro j u hj;rw [Addr.add_lit,Nat.zero_add];simp only [World.cell?,h];simpa using hj
theorem plsW_getD {ws:List Int} {a b k:Nat} (h:k<(plsW ws a b).length):a≤(plsW ws a b).getD k 0∧(plsW ws a b).getD k 0<b:=by
 rw [List.getD_eq_getElem?_getD,List.getElem?_eq_getElem h];exact plsW_mem (List.getElem_mem h)
theorem prs_take_succ {c:SlC} {a b k:Nat} (h:k<(plsW c.ws a b).length):(prs c a b).take (k+1)=(prs c a b).take k++[(c.ks.getD ((plsW c.ws a b).getD k 0) 0,c.vs.getD ((plsW c.ws a b).getD k 0) 0)]:=by
 rw [prs,←List.map_take,←List.map_take,List.take_succ_eq_append_getElem h,List.map_append];congr 1
 have e:(plsW c.ws a b).getD k 0=(plsW c.ws a b)[k]:=by simp [List.getD_eq_getElem?_getD,List.getElem?_eq_getElem h]
 rw [e];rfl
theorem Of04_ok (c:SlC) (a:SlA) (lo hi:Nat) (hlo:lo≤100000) (hwn:hi≤64*c.ws.length) (hkn:hi≤c.ks.length) (hvn:c.vs.length=c.ks.length) (hb:hi≤65600) (w:World) (hin:SlIn w c a):
    Calls Tryz.prog 64 #[slV c a,.int .i64 lo,.int .i64 hi] w (FreshPr w (prs c lo hi)):=by
 have PL:=hid (fun w hw=>Places02_ok a.wa a.wc c.ws hin.u lo hi hwn hb hlo w hw);have HIN:=hid hin;have HPT:=hid (fun k (h:k<(plsW c.ws lo hi).length)=>prs_take_succ (c:=c) h);have HPB:=hid (fun k (h:k<(plsW c.ws lo hi).length)=>plsW_getD h);have hml:(plsW c.ws lo hi).length≤65600:=by rw [plsW_length];have:=cntW_le c.ws lo hi;omega
 have hpl:(prs c lo hi).length=(plsW c.ws lo hi).length:=by rw [prs_length,plsW_length]
 have HPL:=hid hpl;generalize prs c lo hi=L at *;generalize plsW c.ws lo hi=pl at *;have HIL:=hid (ints_length pl);obtain ⟨m,hm⟩:∃m,pl.length=m:=⟨_,rfl⟩
 rw [hm] at HPT HPB HIL HPL hml;obtain ⟨seg,ws,ks,vs,cs,laid⟩:=c;obtain ⟨wa,ka,va,ca,wc,kc,vc,cc⟩:=a;dsimp only [slV] at *;obtain ⟨n,hn⟩:∃n,ks.length=n:=⟨_,rfl⟩
 rw [hn] at hkn hvn ⊢;rw [hvn];have HKL:=hid hn;have HVL:=hid hvn;clear hin hm hpl hn hvn;go_enter Tryz.func64,Tryz.ntmps64
 go_wp2_with fail
 refine (PL.out _ (HIN.out.w.below ((Below.refl _ _).alloc (Nat.le_refl _) _))).mono ?_;rintro e w1 ⟨vl,rfl,hol,hb1⟩;have hz_w1:=hb1.size;try simp only [World.size_alloc,World.size_setCell] at hz_w1
 have c_t0:w1.cell? ⟨w.heap.size,0,none⟩=some (.int .i64 seg):=(hb1.cell (p:=⟨w.heap.size,0,none⟩) xlt).trans xcn;have c_t1:w1.cell? ⟨w.heap.size,1,none⟩=some (.slice wa ws.length wc):=(hb1.cell (p:=⟨w.heap.size,1,none⟩) xlt).trans xcn;have c_t2:w1.cell? ⟨w.heap.size,2,none⟩=some (.slice ka n kc):=(hb1.cell (p:=⟨w.heap.size,2,none⟩) xlt).trans xcn;have c_t3:w1.cell? ⟨w.heap.size,3,none⟩=some (.slice va n vc):=(hb1.cell (p:=⟨w.heap.size,3,none⟩) xlt).trans xcn;have z_t:w.heap.size<w1.heap.size:=xo;have hB1:Below w.heap.size w w1:=xbel;obtain ⟨la,lc,rfl,hil,-,-,-,-⟩:=row_of_owns hol;rw [HIL.out];have HRL:=hid hil;have HB1:=hid hB1;have HLB:=hid (row_block hil);clear hb1 hB1 hol hil;go_wp2
 go_loopg [7,9] m (fun gk v iv wr=>∃k:Nat,k+gk=m∧iv= .int .i64 k∧Hid (wr.ownsRow w1.heap.size 31 2 v k ((prI (L.take k)).map (Value.int .i64)))∧wr.cell? ⟨w.heap.size,2,none⟩=some (.slice ka n kc)∧wr.cell? ⟨w.heap.size,3,none⟩=some (.slice va n vc)∧Hid (Below w.heap.size w wr)∧w1.heap.size≤wr.heap.size∧Hid (IsRow .i64 wr la (ints pl)))
 case atStart=>exact ⟨0,by omega,rfl,hid (World.ownsRow_nil _ _ _ _),c_t2,c_t3,HB1,Nat.le_refl _,HRL⟩
 case round=>
  obtain ⟨k,hk,rfl,HO,cE2,cE3,HB,hz,HR⟩:=hrel;by_cases hlt:k<m
  · obtain ⟨ao,co,rfl,-⟩:=owns_news HO.out;obtain ⟨bl,ol,s',rfl,hs',cl,zl⟩:=HR.out.get (i:=k) (by rw [HIL.out];exact hlt);obtain ⟨s,hs⟩:∃s,pl.getD k 0=s:=⟨_,rfl⟩
    have hss:s'=(s:Int):=by rw [←hs'.out,getD_ints,hs]
    subst hss;have hpb:=HPB.out k hlt;have hpt:=HPT.out k hlt;rw [hs] at hpb hpt;have hsn:s<n:=xo;obtain ⟨bk,ok,kx,rfl,hkx,ck,zk⟩:=(HIN.out.k.below HB.out).get (i:=s) (by dsimp only;rw [HKL.out];exact hsn);obtain ⟨bv,ov,vx,rfl,hvx,cv,zv⟩:=(HIN.out.v.below HB.out).get (i:=s) (by dsimp only;rw [HVL.out];exact hsn);dsimp only at hkx hvx;rw [hkx.out,hvx.out] at hpt;have HTK:=hid hpt;have HK2:=hid hk;have hlt1:(prI (L.take k)).length=k*2:=by rw [prI_length,List.length_take];have:=HPL.out;omega
    clear hpt hkx hvx hs hs' hk HRL;go_wp2
    refine wpIn_wide (n:=0).1 (wpIn_region_facts 19 xk (N:=42) rfl xk xk (by decide) (fun w'=>Below wr.heap.size wr w') (Ext 29) (factAt [.is (.slice ao k co),.is (.pointer (some ⟨w.heap.size,2,none⟩)),.is (.slice (some ⟨bk,ok,none⟩) n kc),.is (.slice (some ⟨bl,ol,none⟩) m lc),.is (.int .i64 k),.is (.pointer (some ⟨bl,ol+k,none⟩)),.is (.int .i64 s),.is (.pointer (some ⟨bk,ok+s,none⟩)),.is (.int .i64 kx),.is (.pointer (some ⟨w.heap.size,3,none⟩)),.is (.slice (some ⟨bv,ov,none⟩) n vc),.is (.slice (some ⟨bl,ol,none⟩) m lc),.is (.int .i64 k),.is (.pointer (some ⟨bl,ol+k,none⟩)),.is (.int .i64 s),.is (.pointer (some ⟨bv,ov+s,none⟩)),.is (.int .i64 vx),.is (.agg #[.int .i64 kx,.int .i64 vx]),.laid wr.heap.size 31 (by decide) #[.int .i64 kx,.int .i64 vx]]) (factAt_stays _) (Below.refl _ _).drew ?steps ?fin)
    case steps=>
     refine ⟨?o0,?o1,?o2,?o3,?o4,?o5,?o6,?o7,?o8,?o9,?o10,?o11,?o12,?o13,?o14,?o15,?o16,?o17,?o18,trivial⟩
     case o0=>
      intro u a w' ev hJ hd K hK;rw [if_pos (wanted_free rfl)];have e7:a.tmps.getD 7 undef= .slice ao k co:=ev 7 (by decide);have HK:=hid hK;clear hK ev hd;go_simp;exact HK.out _ _ xzc hJ rfl (Ext.refl _ _)
     case o1=>
      intro u a w' ev hJ hd K hK;rw [if_pos (wanted_free rfl)];have e3:a.tmps.getD 3 undef= .pointer (some ⟨w.heap.size,0,none⟩):=ev 3 (by decide);have HK:=hid hK;clear hK ev hd;go_simp;exact HK.out _ _ xzc hJ rfl (Ext.refl _ _)
     case o2=>
      intro u a w' ev hJ hd K hK;rw [if_pos (wanted_free rfl)];have e22:a.tmps.getD 22 undef= .pointer (some ⟨w.heap.size,2,none⟩):=(ev 22 (by decide)).trans (hd 1 _ xk rfl);have g0:=(hJ.cell (p:=⟨w.heap.size,2,none⟩) xdo).trans cE2;have HK:=hid hK;clear hK ev hd;go_simp;exact HK.out _ _ xzc hJ rfl (Ext.refl _ _)
     case o3=>
      intro u a w' ev hJ hd K hK;rw [if_pos (wanted_free rfl)];have e8:a.tmps.getD 8 undef= .slice (some ⟨bl,ol,none⟩) m lc:=ev 8 (by decide);have HK:=hid hK;clear hK ev hd;go_simp;exact HK.out _ _ xzc hJ rfl (Ext.refl _ _)
     case o4=>
      intro u a w' ev hJ hd K hK;rw [if_pos (wanted_free rfl)];have e9:a.tmps.getD 9 undef= .int .i64 k:=ev 9 (by decide);have HK:=hid hK;clear hK ev hd;go_simp;exact HK.out _ _ xzc hJ rfl (Ext.refl _ _)
     case o5=>
      intro u a w' ev hJ hd K hK;rw [if_pos (wanted_free rfl)];have e24:a.tmps.getD 24 undef= .slice (some ⟨bl,ol,none⟩) m lc:=(ev 24 (by decide)).trans (hd 3 _ xk rfl);have e25:a.tmps.getD 25 undef= .int .i64 k:=(ev 25 (by decide)).trans (hd 4 _ xk rfl);have HK:=hid hK;clear hK ev hd;go_simp;exact HK.out _ _ xzc hJ rfl (Ext.refl _ _)
     case o6=>
      intro u a w' ev hJ hd K hK;rw [if_pos (wanted_free rfl)];have e26:a.tmps.getD 26 undef= .pointer (some ⟨bl,ol+k,none⟩):=(ev 26 (by decide)).trans (hd 5 _ xk rfl);have g0:=(hJ.cell (p:=⟨bl,ol+k,none⟩) xdo).trans cl;have HK:=hid hK;clear hK ev hd;go_simp;exact HK.out _ _ xzc hJ rfl (Ext.refl _ _)
     case o7=>
      intro u a w' ev hJ hd K hK;rw [if_pos (wanted_free rfl)];have e23:a.tmps.getD 23 undef= .slice (some ⟨bk,ok,none⟩) n kc:=(ev 23 (by decide)).trans (hd 2 _ xk rfl);have e27:a.tmps.getD 27 undef= .int .i64 s:=(ev 27 (by decide)).trans (hd 6 _ xk rfl);have HK:=hid hK;clear hK ev hd;go_simp;exact HK.out _ _ xzc hJ rfl (Ext.refl _ _)
     case o8=>
      intro u a w' ev hJ hd K hK;rw [if_pos (wanted_free rfl)];have e28:a.tmps.getD 28 undef= .pointer (some ⟨bk,ok+s,none⟩):=(ev 28 (by decide)).trans (hd 7 _ xk rfl);have g0:=(hJ.cell (p:=⟨bk,ok+s,none⟩) xdo).trans ck;have HK:=hid hK;clear hK ev hd;go_simp;exact HK.out _ _ xzc hJ rfl (Ext.refl _ _)
     case o9=>
      intro u a w' ev hJ hd K hK;rw [if_pos (wanted_free rfl)];have e3:a.tmps.getD 3 undef= .pointer (some ⟨w.heap.size,0,none⟩):=ev 3 (by decide);have HK:=hid hK;clear hK ev hd;go_simp;exact HK.out _ _ xzc hJ rfl (Ext.refl _ _)
     case o10=>
      intro u a w' ev hJ hd K hK;rw [if_pos (wanted_free rfl)];have e30:a.tmps.getD 30 undef= .pointer (some ⟨w.heap.size,3,none⟩):=(ev 30 (by decide)).trans (hd 9 _ xk rfl);have g0:=(hJ.cell (p:=⟨w.heap.size,3,none⟩) xdo).trans cE3;have HK:=hid hK;clear hK ev hd;go_simp;exact HK.out _ _ xzc hJ rfl (Ext.refl _ _)
     case o11=>
      intro u a w' ev hJ hd K hK;rw [if_pos (wanted_free rfl)];have e8:a.tmps.getD 8 undef= .slice (some ⟨bl,ol,none⟩) m lc:=ev 8 (by decide);have HK:=hid hK;clear hK ev hd;go_simp;exact HK.out _ _ xzc hJ rfl (Ext.refl _ _)
     case o12=>
      intro u a w' ev hJ hd K hK;rw [if_pos (wanted_free rfl)];have e9:a.tmps.getD 9 undef= .int .i64 k:=ev 9 (by decide);have HK:=hid hK;clear hK ev hd;go_simp;exact HK.out _ _ xzc hJ rfl (Ext.refl _ _)
     case o13=>
      intro u a w' ev hJ hd K hK;rw [if_pos (wanted_free rfl)];have e32:a.tmps.getD 32 undef= .slice (some ⟨bl,ol,none⟩) m lc:=(ev 32 (by decide)).trans (hd 11 _ xk rfl);have e33:a.tmps.getD 33 undef= .int .i64 k:=(ev 33 (by decide)).trans (hd 12 _ xk rfl);have HK:=hid hK;clear hK ev hd;go_simp;exact HK.out _ _ xzc hJ rfl (Ext.refl _ _)
     case o14=>
      intro u a w' ev hJ hd K hK;rw [if_pos (wanted_free rfl)];have e34:a.tmps.getD 34 undef= .pointer (some ⟨bl,ol+k,none⟩):=(ev 34 (by decide)).trans (hd 13 _ xk rfl);have g0:=(hJ.cell (p:=⟨bl,ol+k,none⟩) xdo).trans cl;have HK:=hid hK;clear hK ev hd;go_simp;exact HK.out _ _ xzc hJ rfl (Ext.refl _ _)
     case o15=>
      intro u a w' ev hJ hd K hK;rw [if_pos (wanted_free rfl)];have e31:a.tmps.getD 31 undef= .slice (some ⟨bv,ov,none⟩) n vc:=(ev 31 (by decide)).trans (hd 10 _ xk rfl);have e35:a.tmps.getD 35 undef= .int .i64 s:=(ev 35 (by decide)).trans (hd 14 _ xk rfl);have HK:=hid hK;clear hK ev hd;go_simp;exact HK.out _ _ xzc hJ rfl (Ext.refl _ _)
     case o16=>
      intro u a w' ev hJ hd K hK;rw [if_pos (wanted_free rfl)];have e36:a.tmps.getD 36 undef= .pointer (some ⟨bv,ov+s,none⟩):=(ev 36 (by decide)).trans (hd 15 _ xk rfl);have g0:=(hJ.cell (p:=⟨bv,ov+s,none⟩) xdo).trans cv;have HK:=hid hK;clear hK ev hd;go_simp;exact HK.out _ _ xzc hJ rfl (Ext.refl _ _)
     case o17=>
      intro u a w' ev hJ hd K hK;rw [if_pos (wanted_free rfl)];have e29:a.tmps.getD 29 undef= .int .i64 kx:=(ev 29 (by decide)).trans (hd 8 _ xk rfl);have e37:a.tmps.getD 37 undef= .int .i64 vx:=(ev 37 (by decide)).trans (hd 16 _ xk rfl);have f29:a.tmps[29]?.getD undef= .int .i64 kx:=by rw [←Array.getD_eq_getD_getElem?];exact e29
      have f37:a.tmps[37]?.getD undef= .int .i64 vx:=by rw [←Array.getD_eq_getD_getElem?];exact e37
      have HK:=hid hK;clear hK ev hd;go_simp;exact HK.out _ _ xzc hJ rfl (Ext.refl _ _)
     case o18=>
      intro u a w' ev hJ hd K hK;rw [if_pos (wanted_free rfl)];have e38:a.tmps.getD 38 undef= .agg #[.int .i64 kx,.int .i64 vx]:=(ev 38 (by decide)).trans (hd 17 _ xk rfl);have f38:a.tmps[38]?.getD undef= .agg #[.int .i64 kx,.int .i64 vx]:=by rw [←Array.getD_eq_getD_getElem?];exact e38
      have HK:=hid hK;have hzJ:=hJ.size;have HJ:=hid hJ;clear hK ev hd hJ;go_simp;exact HK.out _ _ xzc (HJ.out.alloc hzJ _) ⟨_,rfl,hzJ,alloc_new _ _⟩ (Ext.below ((Below.refl _ _).alloc (Nat.le_refl _) _))
    case fin=>
     intro u w3 hJ hG;have h15:u 21= .slice ao k co:=hG 0 _ rfl;obtain ⟨b,h39,hbb,hheap⟩:(Fact.laid (T:=29) wr.heap.size 31 (by decide) #[.int .i64 kx,.int .i64 vx]).holds (u 39) w3:=hG 18 _ rfl;have f2:=(hJ.cell (p:=⟨w.heap.size,2,none⟩) xdo).trans cE2;have f3:=(hJ.cell (p:=⟨w.heap.size,3,none⟩) xdo).trans cE3;have HB3:=hid (below_via hJ HB.out xo);have HO3:=hid (owns_below HO.out hJ);have HR3:=hid (HR.out.below hJ);have hz13:w1.heap.size≤w3.heap.size:=by have:=hJ.size;omega
     have HNW:=hid (laid_news hheap);clear hG cE2 cE3 hJ hheap cl ck cv;simp only [mixFrame,mixL,dstsOf,List.take_succ_cons,List.take_zero,List.filterMap_cons,List.filterMap_nil,List.contains_cons,List.contains_nil,Nat.reduceBEq,Bool.or_false,Bool.false_or,Bool.or_true,Bool.true_or,if_true,if_false,Bool.false_eq_true,Nat.reduceAdd,Nat.zero_add,List.drop_succ_cons,List.drop_zero,h15,h39]
     gi_wp2_with (gi_at_builtin;refine wpListIn_append_own _ rfl (.tmp 21) (.tmp 39) 57 rfl w1.heap.size 31 _ (.agg #[.int .i64 0,.int .i64 0]) 2 16 Tryz.underlying57 (info_parts info_Pair).choose_spec.1 (info_parts info_Pair).choose_spec.2.1 (info_parts info_Pair).choose_spec.2.2.1 (info_parts info_Pair).choose_spec.2.2.2 rfl (by decide) _ k _ rfl HO3.out ⟨b,0,none⟩ 1 1 [.int .i64 kx,.int .i64 vx] rfl rfl HNW.out (by simp [Value.oneCell']) (by unfold maxLen;omega) xo (by have:=hz13;omega) ?_;intro v' w4 ho4 hg4 _
                  obtain ⟨a4,c4,rfl,-⟩:=owns_news ho4;have HO4:=hid ho4;have HG4:=hid hg4;clear ho4 hg4)
     have hne:∀q,q<w1.heap.size→w4.heap[q]? =w3.heap[q]? :=fun q hq=>HG4.out.block q xo (fun e=>(by have:=(HO3.out.lt _ e.symm).1;omega))
     have g2:w4.cell? ⟨w.heap.size,2,none⟩=some (.slice (some ⟨bk,ok,none⟩) n kc):=(World.cell?_of_block (a:=⟨w.heap.size,2,none⟩) (hne _ z_t)).trans f2;have g3:w4.cell? ⟨w.heap.size,3,none⟩=some (.slice (some ⟨bv,ov,none⟩) n vc):=(World.cell?_of_block (a:=⟨w.heap.size,3,none⟩) (hne _ z_t)).trans f3;have HR4:=hid (KpS.row (S:=fun q=>q<w1.heap.size) (W:=w3) (W':=w4) (fun q hq=>hne q hq) (fun x hx h0=>HLB.out x hx h0) HR3.out);have HB4:=hid (HB3.out.grown HG4.out (by have:=HB3.out.size;omega) (fun z hz=>by have:=(HO3.out.lt z hz).1;omega));have hz4:w1.heap.size≤w4.heap.size:=Nat.le_trans hz13 HG4.out.size;clear hne;go_wp2
     go_roundg (gk-1)
     case measure=>have:=HK2.out;omega
     case rel=>
      refine ⟨k+1,by have:=HK2.out;omega,by go_num,hid ?_,g2,g3,HB4,hz4,HR4⟩;rw [HTK.out,prI_append,List.map_append];exact HO4.out
  · have hkm:m=k:=xo;subst hkm;obtain ⟨ao,co,rfl,-⟩:=owns_news HO.out;go_wp2
    go_ret
    refine ⟨_,rfl,?_,HB.out⟩;have h9:=HO.out;rw [List.take_of_length_le (by rw [HPL.out];exact Nat.le_refl _)] at h9;rw [HPL.out];exact owns_base h9 xo
end
section
open Go.RowKit
def Fact.len {T:TypeId} (n:Nat):Fact T:=⟨fun v _=>∃a c,v= .slice a n c,fun _ _ _ _ h=>h⟩
theorem slMay_in (c:SlC) (a:SlA) (hh:slHead c=true) (w:World) (hin:SlIn w c a):
    Calls Tryz.prog 82 #[slV c a] w (AnsB w (.bool (slMay c))):=by
 obtain ⟨S,M,hS,hS4,hS64,hnk,hnv,hnc,hM1,hSM,hM2,hnw,-,-,-⟩:=slHead_facts hh;have he:=slMay_eq c hh;simp only [slHead,Bool.and_eq_true,decide_eq_true_eq] at hh;obtain ⟨⟨⟨hf,-⟩,hwm⟩,-⟩:=hh;rw [hnk] at hf hwm;obtain ⟨R,hR⟩:∃R,slMay c=R:=⟨_,rfl⟩
 have hR2:R=((List.range c.ks.length).all (clrAt c.ws c.ks c.vs)&&(List.range c.cs.length).all (cntAt c.seg c.ws c.cs)):=by rw [←hR,he]
 rw [hR];clear he hR;obtain ⟨seg,ws,ks,vs,cs,laid⟩:=c;obtain ⟨wa,ka,va,ca,wc,kc,vc,cc⟩:=a;obtain ⟨hw,hk,hv,hcn,hu⟩:=hin;dsimp only at *;subst hS;have HW:=hid hw;have HK:=hid hk;have HV:=hid hv;have HN:=hid hcn;have HU:=hid hu;obtain ⟨n,hn⟩:∃n,S*M=n:=⟨_,rfl⟩
 rw [hn] at hnk hnv hnw hf hwm hSM;have HLW:=hid hnw;have F1:=hid (fun w=>Fits04_ok S n w);rw [hf] at F1;have O1:=hid (fun w hw=>May02_ok wa wc ws hu n hSM xo w hw);have IS:=hid (fun i hi hi2 w hw=>Is02_ok wa wc ws hu i hi hi2 w hw);have C1:=hid (fun p1 p2 h1 h2 h3 w hw=>Places02_ok wa wc ws hu p1 p2 h1 h2 h3 w hw);rw [hwm] at O1;have hqI:(n:Int)/(S:Int)=(M:Int):=by rw [←hn];push_cast;exact Int.mul_ediv_cancel_left _ xo
 have hqM:((M:Int) != wrap64 ((n:Int)/(S:Int)))=false:=by rw [hqI,IntWalk.wrap64_in _ xo];simp
 have htd:(n:Int).tdiv S=(n:Int)/S:=Int.tdiv_eq_ediv_of_nonneg xo;have hS0:((S:Int)==0)=false:=by simp;omega
 have HRR:=hid hR2;have HKL:=hid hnk;have HVL:=hid hnv;have HCL:=hid hnc;have HNM:=hid hn;obtain ⟨lw,hlw⟩:∃lw,ws.length=lw:=⟨_,rfl⟩
 dsimp only [slV];rw [hnk,hnv,hnc,hlw];rw [hlw] at O1 C1 IS;have HLL:=hid hlw;clear hw hk hv hcn hu hf hwm hR2 hnk hnv hnc hnw hlw hqI hn;go_enter Tryz.func82,Tryz.ntmps82
 go_wp2
 have d0:(w.alloc (.cells #[.int .i64 (S:Int),.slice wa lw wc,.slice ka n kc,.slice va n vc,.slice ca M cc,.int .u64 laid] 29)).cell? ⟨w.heap.size,0,none⟩=some (.int .i64 (S:Int)):=xcw;have d1:(w.alloc (.cells #[.int .i64 (S:Int),.slice wa lw wc,.slice ka n kc,.slice va n vc,.slice ca M cc,.int .u64 laid] 29)).cell? ⟨w.heap.size,1,none⟩=some (.slice wa lw wc):=xcw;have d2:(w.alloc (.cells #[.int .i64 (S:Int),.slice wa lw wc,.slice ka n kc,.slice va n vc,.slice ca M cc,.int .u64 laid] 29)).cell? ⟨w.heap.size,2,none⟩=some (.slice ka n kc):=xcw;have d3:(w.alloc (.cells #[.int .i64 (S:Int),.slice wa lw wc,.slice ka n kc,.slice va n vc,.slice ca M cc,.int .u64 laid] 29)).cell? ⟨w.heap.size,3,none⟩=some (.slice va n vc):=xcw;have d4:(w.alloc (.cells #[.int .i64 (S:Int),.slice wa lw wc,.slice ka n kc,.slice va n vc,.slice ca M cc,.int .u64 laid] 29)).cell? ⟨w.heap.size,4,none⟩=some (.slice ca M cc):=xcw;have HB0:Hid (Below w.heap.size w (w.alloc (.cells #[.int .i64 (S:Int),.slice wa lw wc,.slice ka n kc,.slice va n vc,.slice ca M cc,.int .u64 laid] 29))):=hid ((Below.refl _ _).alloc (Nat.le_refl _) _);have hz0:w.heap.size<(w.alloc (.cells #[.int .i64 (S:Int),.slice wa lw wc,.slice ka n kc,.slice va n vc,.slice ca M cc,.int .u64 laid] 29)).heap.size:=by simp
 generalize (w.alloc (.cells #[.int .i64 (S:Int),.slice wa lw wc,.slice ka n kc,.slice va n vc,.slice ca M cc,.int .u64 laid] 29))=w1 at *;have Q1:=hid (fun q=>Calls.quiet_of_same ((F1.out (w1.drewN q)).mono fun _ _ h=>⟨h.1,h.2.symm⟩));have Q2:=hid (fun q=>Calls.quiet_of_same ((O1.out (w1.drewN q) (HW.out.below (below_drewN HB0.out q))).mono fun _ _ h=>⟨h.1,h.2.symm⟩));go_quiet (first|exact Q1.out _|exact Q2.out _)
 have HB1:=hid (below_drewN HB0.out nq);replace d0:(w1.drewN nq).cell? ⟨w.heap.size,0,none⟩=some (.int .i64 (S:Int)):=d0;replace d1:(w1.drewN nq).cell? ⟨w.heap.size,1,none⟩=some (.slice wa lw wc):=d1;replace d2:(w1.drewN nq).cell? ⟨w.heap.size,2,none⟩=some (.slice ka n kc):=d2;replace d3:(w1.drewN nq).cell? ⟨w.heap.size,3,none⟩=some (.slice va n vc):=d3;replace d4:(w1.drewN nq).cell? ⟨w.heap.size,4,none⟩=some (.slice ca M cc):=d4;replace hz0:w.heap.size<(w1.drewN nq).heap.size:=by simpa using hz0
 generalize w1.drewN nq=w2 at *;clear Q1 Q2 HB0;go_wp2
 go_loopg [4] n (fun gk iv wr=>∃i:Nat,i+gk=n∧iv= .int .i64 i∧wr=w2∧Hid (∀j,j<i→clrAt ws ks vs j=true))
 case atStart=>exact ⟨0,by omega,rfl,rfl,hid (fun j h=>by omega)⟩
 case round=>
  obtain ⟨i,hi,rfl,rfl,HA⟩:=hrel;by_cases hlt:i<n
  · have hw64:i/64<lw:=by have:=HLL.out;have:=HLW.out;omega
    have B:=hid (IS.out i hw64 xo wr (HW.out.below HB1.out));obtain ⟨bk,ok,kx,rfl,hkx,ck,-⟩:=(HK.out.below HB1.out).get (i:=i) (by rw [HKL.out];exact hlt);obtain ⟨bv,ov,vx,rfl,hvx,cv,-⟩:=(HV.out.below HB1.out).get (i:=i) (by rw [HVL.out];exact hlt);have hclr:clrAt ws ks vs i=(bitW ws i||(kx==0&&vx==0)):=by unfold clrAt;rw [hkx.out,hvx.out]
    generalize bitW ws i=bt at *;clear hkx hvx;cases bt with
    | true=>
     have HC:=hid hclr;clear hclr;go_wp2_with (go_at_call 115;refine B.out.mono ?_;rintro e w' ⟨rfl,rfl⟩)
     go_roundg (gk-1)
     case measure=>omega
     case rel=>
      refine ⟨i+1,by omega,by go_num,rfl,hid (fun j hj=> ?_)⟩;by_cases e:j=i
      · rw [e,HC.out];rfl
      · exact HA.out j xo
    | false=>
     by_cases hk0:kx=0
     · by_cases hv0:vx=0
       · subst hk0 hv0;have HC:=hid hclr;clear hclr;go_wp2_with (go_at_call 115;refine B.out.mono ?_;rintro e w' ⟨rfl,rfl⟩)
         go_roundg (gk-1)
         case measure=>omega
         case rel=>
          refine ⟨i+1,by omega,by go_num,rfl,hid (fun j hj=> ?_)⟩;by_cases e:j=i
          · rw [e,HC.out];rfl
          · exact HA.out j xo
       · subst hk0;have hv1:(vx != 0)=true:=by simpa using hv0
         have hR8:R=false:=by rw [HRR.out,HKL.out,all_not hlt (by rw [hclr];simp [hv0]),Bool.false_and]
         subst hR8;clear hclr;go_wp2_with (go_at_call 115;refine B.out.mono ?_;rintro e w' ⟨rfl,rfl⟩)
         go_ret
         exact ⟨rfl,HB1.out⟩
     · have hk1:(kx != 0)=true:=by simpa using hk0
       have hR8:R=false:=by rw [HRR.out,HKL.out,all_not hlt (by rw [hclr];simp [hk0]),Bool.false_and]
       subst hR8;clear hclr;go_wp2_with (go_at_call 115;refine B.out.mono ?_;rintro e w' ⟨rfl,rfl⟩)
       go_ret
       exact ⟨rfl,HB1.out⟩
  · have hin:n=i:=xo;subst hin;have HAL:=hid (all_upto.2 (fun j (hj:j<n)=>HA.out j xo));clear HA;go_wp2
    go_loopg [5] M (fun gk iv wr=>∃k:Nat,k+gk=M∧iv= .int .i64 k∧wr.cell? ⟨w.heap.size,0,none⟩=some (.int .i64 (S:Int))∧wr.cell? ⟨w.heap.size,1,none⟩=some (.slice wa lw wc)∧wr.cell? ⟨w.heap.size,4,none⟩=some (.slice ca M cc)∧Hid (Below w.heap.size w wr)∧w.heap.size<wr.heap.size∧Hid (∀j,j<k→cntAt S ws cs j=true))
    case atStart=>exact ⟨0,by omega,rfl,d0,d1,d4,HB1,hz0,hid (fun j h=>by omega)⟩
    case round=>
     obtain ⟨k,hk,rfl,cE0,cE1,cE4,HB,hz,HA2⟩:=hrel;by_cases hlt2:k<M
     · obtain ⟨bn,on,y,rfl,hy,cy,zbn⟩:=(HN.out.below HB.out).get (i:=k) (by rw [HCL.out];exact hlt2);have hca:cntAt S ws cs k=(y==(cntW ws (k*S) ((k+1)*S):Int)):=by unfold cntAt;rw [hy.out,Int.toNat_natCast]
       have hk1:(k:Int)*(S:Int)=((k*S:Nat):Int):=by push_cast;rfl
       have hk2:((k:Int)+1)*(S:Int)=(((k+1)*S:Nat):Int):=by push_cast;rfl
       have hkb1:k*S≤n:=by rw [←HNM.out,Nat.mul_comm S];exact Nat.mul_le_mul_right _ xo
       have hkb2:(k+1)*S≤n:=by rw [←HNM.out,Nat.mul_comm S];exact Nat.mul_le_mul_right _ xo
       have hzl:(ints (plsW ws (k*S) ((k+1)*S))).length=cntW ws (k*S) ((k+1)*S):=by rw [ints_length,plsW_length]
       have HPP:=hid (fun w' (hb:Below wr.heap.size wr w')=>C1.out (k*S) ((k+1)*S) (by have:=HLL.out;have:=HLW.out;omega) xo xo w' (HW.out.below (below_via hb HB.out xo)));generalize cntW ws (k*S) ((k+1)*S)=z at *;generalize k*S=p1 at *;generalize (k+1)*S=p2 at *;have hw1:IntKind.i64.wrap ((k:Int)+1)=(k:Int)+1:=IntWalk.i64_in _ xo;have hw2:IntKind.i64.wrap (p1:Int)=(p1:Int):=IntWalk.i64_in _ xo;have hw3:IntKind.i64.wrap (p2:Int)=(p2:Int):=IntWalk.i64_in _ xo;have HZL:=hid hzl;have HCA:=hid hca;have HK2:=hid hk;clear hy hzl hca hk;go_wp2
       refine wp_region_facts 19 xk (N:=90) rfl xk xk (by decide) (fun w'=>Below wr.heap.size wr w') (Ext 29) (factAt [
         .is (.pointer (some ⟨w.heap.size,4,none⟩)),.is (.slice (some ⟨bn,on,none⟩) M cc),.is (.int .i64 k),.is (.pointer (some ⟨bn,on+k,none⟩)),.is (.int .i64 y),.is (.pointer (some ⟨w.heap.size,1,none⟩)),.is (.slice wa lw wc),.is (.int .i64 k),.is (.pointer (some ⟨w.heap.size,0,none⟩)),.is (.int .i64 S),.is (.int .i64 p1),.is (.int .i64 k),.is (.int .i64 ((k:Int)+1)),.is (.pointer (some ⟨w.heap.size,0,none⟩)),.is (.int .i64 S),.is (.int .i64 p2),.len z,.is (.int .i64 z),.is (.bool ((y:Int) != (z:Int)))]) (factAt_stays _) (Below.refl _ _).drew ?steps ?fin
       case steps=>
        refine ⟨?o0,?o1,?o2,?o3,?o4,?o5,?o6,?o7,?o8,?o9,?o10,?o11,?o12,?o13,?o14,?o15,?o16,?o17,?o18,trivial⟩
        case o0=>
         intro u a w' ev hJ hd K hK;have e1:a.tmps.getD 1 undef= .pointer (some ⟨w.heap.size,0,none⟩):=ev 1 (by decide);have HK:=hid hK;clear hK ev hd;go_simp;exact HK.out _ _ xzc hJ rfl (Ext.refl _ _)
        case o1=>
         intro u a w' ev hJ hd K hK;have e71:a.tmps.getD 71 undef= .pointer (some ⟨w.heap.size,4,none⟩):=(ev 71 (by decide)).trans (hd 0 _ xk rfl);have g0:=(hJ.cell (p:=⟨w.heap.size,4,none⟩) xdo).trans cE4;have HK:=hid hK;clear hK ev hd;go_simp;exact HK.out _ _ xzc hJ rfl (Ext.refl _ _)
        case o2=>
         intro u a w' ev hJ hd K hK;have e5:a.tmps.getD 5 undef= .int .i64 k:=ev 5 (by decide);have HK:=hid hK;clear hK ev hd;go_simp;exact HK.out _ _ xzc hJ rfl (Ext.refl _ _)
        case o3=>
         intro u a w' ev hJ hd K hK;have e72:a.tmps.getD 72 undef= .slice (some ⟨bn,on,none⟩) M cc:=(ev 72 (by decide)).trans (hd 1 _ xk rfl);have e73:a.tmps.getD 73 undef= .int .i64 k:=(ev 73 (by decide)).trans (hd 2 _ xk rfl);have HK:=hid hK;clear hK ev hd;go_simp;exact HK.out _ _ xzc hJ rfl (Ext.refl _ _)
        case o4=>
         intro u a w' ev hJ hd K hK;have e74:a.tmps.getD 74 undef= .pointer (some ⟨bn,on+k,none⟩):=(ev 74 (by decide)).trans (hd 3 _ xk rfl);have g0:=(hJ.cell (p:=⟨bn,on+k,none⟩) xdo).trans cy;have HK:=hid hK;clear hK ev hd;go_simp;exact HK.out _ _ xzc hJ rfl (Ext.refl _ _)
        case o5=>
         intro u a w' ev hJ hd K hK;have e1:a.tmps.getD 1 undef= .pointer (some ⟨w.heap.size,0,none⟩):=ev 1 (by decide);have HK:=hid hK;clear hK ev hd;go_simp;exact HK.out _ _ xzc hJ rfl (Ext.refl _ _)
        case o6=>
         intro u a w' ev hJ hd K hK;have e76:a.tmps.getD 76 undef= .pointer (some ⟨w.heap.size,1,none⟩):=(ev 76 (by decide)).trans (hd 5 _ xk rfl);have g0:=(hJ.cell (p:=⟨w.heap.size,1,none⟩) xdo).trans cE1;have HK:=hid hK;clear hK ev hd;go_simp;exact HK.out _ _ xzc hJ rfl (Ext.refl _ _)
        case o7=>
         intro u a w' ev hJ hd K hK;have e5:a.tmps.getD 5 undef= .int .i64 k:=ev 5 (by decide);have HK:=hid hK;clear hK ev hd;go_simp;exact HK.out _ _ xzc hJ rfl (Ext.refl _ _)
        case o8=>
         intro u a w' ev hJ hd K hK;have e1:a.tmps.getD 1 undef= .pointer (some ⟨w.heap.size,0,none⟩):=ev 1 (by decide);have HK:=hid hK;clear hK ev hd;go_simp;exact HK.out _ _ xzc hJ rfl (Ext.refl _ _)
        case o9=>
         intro u a w' ev hJ hd K hK;have e79:a.tmps.getD 79 undef= .pointer (some ⟨w.heap.size,0,none⟩):=(ev 79 (by decide)).trans (hd 8 _ xk rfl);have g0:=(hJ.cell (p:=⟨w.heap.size,0,none⟩) xdo).trans cE0;have HK:=hid hK;clear hK ev hd;go_simp;exact HK.out _ _ xzc hJ rfl (Ext.refl _ _)
        case o10=>
         intro u a w' ev hJ hd K hK;have e78:a.tmps.getD 78 undef= .int .i64 k:=(ev 78 (by decide)).trans (hd 7 _ xk rfl);have e80:a.tmps.getD 80 undef= .int .i64 S:=(ev 80 (by decide)).trans (hd 9 _ xk rfl);have HK:=hid hK;clear hK ev hd;go_simp;exact HK.out _ _ xzc hJ rfl (Ext.refl _ _)
        case o11=>
         intro u a w' ev hJ hd K hK;have e5:a.tmps.getD 5 undef= .int .i64 k:=ev 5 (by decide);have HK:=hid hK;clear hK ev hd;go_simp;exact HK.out _ _ xzc hJ rfl (Ext.refl _ _)
        case o12=>
         intro u a w' ev hJ hd K hK;have e82:a.tmps.getD 82 undef= .int .i64 k:=(ev 82 (by decide)).trans (hd 11 _ xk rfl);have HK:=hid hK;clear hK ev hd;go_simp;exact HK.out _ _ xzc hJ rfl (Ext.refl _ _)
        case o13=>
         intro u a w' ev hJ hd K hK;have e1:a.tmps.getD 1 undef= .pointer (some ⟨w.heap.size,0,none⟩):=ev 1 (by decide);have HK:=hid hK;clear hK ev hd;go_simp;exact HK.out _ _ xzc hJ rfl (Ext.refl _ _)
        case o14=>
         intro u a w' ev hJ hd K hK;have e84:a.tmps.getD 84 undef= .pointer (some ⟨w.heap.size,0,none⟩):=(ev 84 (by decide)).trans (hd 13 _ xk rfl);have g0:=(hJ.cell (p:=⟨w.heap.size,0,none⟩) xdo).trans cE0;have HK:=hid hK;clear hK ev hd;go_simp;exact HK.out _ _ xzc hJ rfl (Ext.refl _ _)
        case o15=>
         intro u a w' ev hJ hd K hK;have e83:a.tmps.getD 83 undef= .int .i64 ((k:Int)+1):=(ev 83 (by decide)).trans (hd 12 _ xk rfl);have e85:a.tmps.getD 85 undef= .int .i64 S:=(ev 85 (by decide)).trans (hd 14 _ xk rfl);have HK:=hid hK;clear hK ev hd;go_simp;exact HK.out _ _ xzc hJ rfl (Ext.refl _ _)
        case o16=>
         intro u a w' ev hJ hd K hK;have e1':a.tmps.getD 77 undef= .slice wa lw wc:=(ev 77 (by decide)).trans (hd 6 _ xk rfl);have e2':a.tmps.getD 81 undef= .int .i64 p1:=(ev 81 (by decide)).trans (hd 10 _ xk rfl);have e3':a.tmps.getD 86 undef= .int .i64 p2:=(ev 86 (by decide)).trans (hd 15 _ xk rfl);have HK:=hid hK;have HPL:=hid (HPP.out w' hJ);have hzJ:=hJ.size;clear hK ev hd;go_simp;refine HPL.out.mono ?_;rintro e w'' ⟨v,rfl,ho,hb⟩;obtain ⟨ao,co,rfl,-⟩:=owns_news ho;rw [HZL.out];exact HK.out _ _ xzc (hJ.trans (hb.mono hzJ)) ⟨_,_,rfl⟩ (Ext.below hb)
        case o17=>
         intro u a w' ev hJ hd K hK;obtain ⟨ao,co,h1⟩:(Fact.len (T:=29) z).holds (u 87) w':=hd 16 _ xk rfl;have e1':a.tmps.getD 87 undef= .slice ao z co:=(ev 87 (by decide)).trans h1;have HK:=hid hK;clear hK ev hd h1;go_simp;exact HK.out _ _ xzc hJ rfl (Ext.refl _ _)
        case o18=>
         intro u a w' ev hJ hd K hK;have e75:a.tmps.getD 75 undef= .int .i64 y:=(ev 75 (by decide)).trans (hd 4 _ xk rfl);have e88:a.tmps.getD 88 undef= .int .i64 z:=(ev 88 (by decide)).trans (hd 17 _ xk rfl);have HK:=hid hK;clear hK ev hd;go_simp;exact HK.out _ _ xzc hJ rfl (Ext.refl _ _)
       case fin=>
        intro u w3 hJ hG;have h1:u 89= .bool ((y:Int) != (z:Int)):=hG 18 _ rfl;have f0:=(hJ.cell (p:=⟨w.heap.size,0,none⟩) hz).trans cE0;have f1:=(hJ.cell (p:=⟨w.heap.size,1,none⟩) hz).trans cE1;have f4:=(hJ.cell (p:=⟨w.heap.size,4,none⟩) hz).trans cE4;have HB3:=hid (below_via hJ HB.out xo);have hz3:w.heap.size<w3.heap.size:=by have:=hJ.size;omega
        clear hG cE0 cE1 cE4 hJ;simp only [mixFrame,mixL,dstsOf,List.take_succ_cons,List.take_zero,List.filterMap_cons,List.filterMap_nil,List.contains_cons,List.contains_nil,Nat.reduceBEq,Bool.or_false,Bool.false_or,Bool.or_true,Bool.true_or,if_true,if_false,Bool.false_eq_true,Nat.reduceAdd,Nat.zero_add,List.drop_succ_cons,List.drop_zero,h1];by_cases hyz:y=(z:Int)
        · subst hyz;have hne:((z:Int) != (z:Int))=false:=by simp
          go_wp2
          go_roundg (gk-1)
          case measure=>have:=HK2.out;omega
          case rel=>
           refine ⟨k+1,by have:=HK2.out;omega,by go_num,f0,f1,f4,HB3,hz3,hid (fun j hj=> ?_)⟩;by_cases e:j=k
           · rw [e,HCA.out];simp
           · exact HA2.out j xo
        · have hne:(y != (z:Int))=true:=by simpa using hyz
          have hR8:R=false:=by rw [HRR.out,HCL.out,all_not (p:=cntAt S ws cs) hlt2 (by rw [HCA.out];simpa using hyz),Bool.and_false]
          subst hR8;go_wp2
          go_ret
          exact ⟨rfl,HB3.out⟩
     · have hR0:R=true:=by
         rw [HRR.out,HKL.out,HCL.out,HAL.out,all_upto.2 (fun j (hj:j<M)=>HA2.out j xo)];rfl
       subst hR0;go_wp2
       go_ret
       exact ⟨rfl,HB.out⟩
theorem slMay_bad (c:SlC) (a:SlA) (hh:slHead c=false) (hl:c.ws.length≤1000000000000) (hl2:c.ks.length≤1000000000000) (w:World) (hin:SlIn w c a):
    Calls Tryz.prog 82 #[slV c a] w (AnsB w (.bool (slMay c))):=by
 have he:slMay c=false:=by rw [slMay,hh];rfl
 rw [he];clear he;obtain ⟨seg,ws,ks,vs,cs,laid⟩:=c;obtain ⟨wa,ka,va,ca,wc,kc,vc,cc⟩:=a;obtain ⟨hw,-,-,-,hu⟩:=hin;dsimp only at *;dsimp only [slV];simp only [slHead] at hh;have HW:=hid hw;have F1:=hid (fun w=>Fits04_ok seg ks.length w);cases hf:fitB seg ks.length with
 | false=>
  rw [hf] at F1;clear hh hf;generalize ws.length=lw at *;generalize ks.length=n at *;generalize vs.length=lv at *;generalize cs.length=lc at *;clear hw hu;go_enter Tryz.func82,Tryz.ntmps82
  go_wp2
  have d0:(w.alloc (.cells #[.int .i64 seg,.slice wa lw wc,.slice ka n kc,.slice va lv vc,.slice ca lc cc,.int .u64 laid] 29)).cell? ⟨w.heap.size,0,none⟩=some (.int .i64 seg):=xcw;have d1:(w.alloc (.cells #[.int .i64 seg,.slice wa lw wc,.slice ka n kc,.slice va lv vc,.slice ca lc cc,.int .u64 laid] 29)).cell? ⟨w.heap.size,1,none⟩=some (.slice wa lw wc):=xcw;have d3:(w.alloc (.cells #[.int .i64 seg,.slice wa lw wc,.slice ka n kc,.slice va lv vc,.slice ca lc cc,.int .u64 laid] 29)).cell? ⟨w.heap.size,3,none⟩=some (.slice va lv vc):=xcw;have d4:(w.alloc (.cells #[.int .i64 seg,.slice wa lw wc,.slice ka n kc,.slice va lv vc,.slice ca lc cc,.int .u64 laid] 29)).cell? ⟨w.heap.size,4,none⟩=some (.slice ca lc cc):=xcw;have HB0:Hid (Below w.heap.size w (w.alloc (.cells #[.int .i64 seg,.slice wa lw wc,.slice ka n kc,.slice va lv vc,.slice ca lc cc,.int .u64 laid] 29))):=hid ((Below.refl _ _).alloc (Nat.le_refl _) _);generalize (w.alloc (.cells #[.int .i64 seg,.slice wa lw wc,.slice ka n kc,.slice va lv vc,.slice ca lc cc,.int .u64 laid] 29))=w1 at *;have Q1:=hid (fun q=>Calls.quiet_of_same ((F1.out (w1.drewN q)).mono fun _ _ h=>⟨h.1,h.2.symm⟩));go_quiet (exact Q1.out _)
  go_wp2
  go_ret
  exact ⟨rfl,below_drewN HB0.out _⟩
 | true=>
  rw [hf] at F1 hh;obtain ⟨f1,f2,-,f4,f5,f6,-⟩:=fitB_facts hf;have O1:=hid (fun w hw=>May02_ok wa wc ws hu ks.length xo hl w hw);clear hf;by_cases c2:vs.length=ks.length
  · have hv1:((vs.length:Int) != (ks.length:Int))=false:=by simp [c2]
    rw [decide_eq_true c2,Bool.true_and,Bool.true_and] at hh;cases hwm:wMayB ws ks.length with
    | true=>
     rw [hwm,Bool.true_and,decide_eq_false_iff_not] at hh;rw [hwm] at O1;have hd0:0≤(ks.length:Int)/seg:=Int.ediv_nonneg xo xo;have hd1:(ks.length:Int)/seg≤ks.length:=Int.ediv_le_self _ xo;have hqM:((cs.length:Int) != wrap64 ((ks.length:Int)/seg))=true:=by
      rw [IntWalk.wrap64_in _ xo];simpa using hh
     have htd:(ks.length:Int).tdiv seg=(ks.length:Int)/seg:=Int.tdiv_eq_ediv_of_nonneg xo;have hS0:(seg==0)=false:=by simp;omega
     clear hh hwm hd0 hd1 c2;generalize ws.length=lw at *;generalize ks.length=n at *;generalize vs.length=lv at *;generalize cs.length=lc at *;clear hw hu;go_enter Tryz.func82,Tryz.ntmps82
     go_wp2
     have d0:(w.alloc (.cells #[.int .i64 seg,.slice wa lw wc,.slice ka n kc,.slice va lv vc,.slice ca lc cc,.int .u64 laid] 29)).cell? ⟨w.heap.size,0,none⟩=some (.int .i64 seg):=xcw;have d1:(w.alloc (.cells #[.int .i64 seg,.slice wa lw wc,.slice ka n kc,.slice va lv vc,.slice ca lc cc,.int .u64 laid] 29)).cell? ⟨w.heap.size,1,none⟩=some (.slice wa lw wc):=xcw;have d3:(w.alloc (.cells #[.int .i64 seg,.slice wa lw wc,.slice ka n kc,.slice va lv vc,.slice ca lc cc,.int .u64 laid] 29)).cell? ⟨w.heap.size,3,none⟩=some (.slice va lv vc):=xcw;have d4:(w.alloc (.cells #[.int .i64 seg,.slice wa lw wc,.slice ka n kc,.slice va lv vc,.slice ca lc cc,.int .u64 laid] 29)).cell? ⟨w.heap.size,4,none⟩=some (.slice ca lc cc):=xcw;have HB0:Hid (Below w.heap.size w (w.alloc (.cells #[.int .i64 seg,.slice wa lw wc,.slice ka n kc,.slice va lv vc,.slice ca lc cc,.int .u64 laid] 29))):=hid ((Below.refl _ _).alloc (Nat.le_refl _) _);generalize (w.alloc (.cells #[.int .i64 seg,.slice wa lw wc,.slice ka n kc,.slice va lv vc,.slice ca lc cc,.int .u64 laid] 29))=w1 at *;have Q1:=hid (fun q=>Calls.quiet_of_same ((F1.out (w1.drewN q)).mono fun _ _ h=>⟨h.1,h.2.symm⟩));have Q2:=hid (fun q=>Calls.quiet_of_same ((O1.out (w1.drewN q) (HW.out.below (below_drewN HB0.out q))).mono fun _ _ h=>⟨h.1,h.2.symm⟩));go_quiet (first|exact Q1.out _|exact Q2.out _)
     go_wp2
     go_ret
     exact ⟨rfl,below_drewN HB0.out _⟩
    | false=>
     rw [hwm] at O1;clear hh hwm c2;generalize ws.length=lw at *;generalize ks.length=n at *;generalize vs.length=lv at *;generalize cs.length=lc at *;clear hw hu;go_enter Tryz.func82,Tryz.ntmps82
     go_wp2
     have d0:(w.alloc (.cells #[.int .i64 seg,.slice wa lw wc,.slice ka n kc,.slice va lv vc,.slice ca lc cc,.int .u64 laid] 29)).cell? ⟨w.heap.size,0,none⟩=some (.int .i64 seg):=xcw;have d1:(w.alloc (.cells #[.int .i64 seg,.slice wa lw wc,.slice ka n kc,.slice va lv vc,.slice ca lc cc,.int .u64 laid] 29)).cell? ⟨w.heap.size,1,none⟩=some (.slice wa lw wc):=xcw;have d3:(w.alloc (.cells #[.int .i64 seg,.slice wa lw wc,.slice ka n kc,.slice va lv vc,.slice ca lc cc,.int .u64 laid] 29)).cell? ⟨w.heap.size,3,none⟩=some (.slice va lv vc):=xcw;have d4:(w.alloc (.cells #[.int .i64 seg,.slice wa lw wc,.slice ka n kc,.slice va lv vc,.slice ca lc cc,.int .u64 laid] 29)).cell? ⟨w.heap.size,4,none⟩=some (.slice ca lc cc):=xcw;have HB0:Hid (Below w.heap.size w (w.alloc (.cells #[.int .i64 seg,.slice wa lw wc,.slice ka n kc,.slice va lv vc,.slice ca lc cc,.int .u64 laid] 29))):=hid ((Below.refl _ _).alloc (Nat.le_refl _) _);generalize (w.alloc (.cells #[.int .i64 seg,.slice wa lw wc,.slice ka n kc,.slice va lv vc,.slice ca lc cc,.int .u64 laid] 29))=w1 at *;have Q1:=hid (fun q=>Calls.quiet_of_same ((F1.out (w1.drewN q)).mono fun _ _ h=>⟨h.1,h.2.symm⟩));have Q2:=hid (fun q=>Calls.quiet_of_same ((O1.out (w1.drewN q) (HW.out.below (below_drewN HB0.out q))).mono fun _ _ h=>⟨h.1,h.2.symm⟩));go_quiet (first|exact Q1.out _|exact Q2.out _)
     go_wp2
     go_ret
     exact ⟨rfl,below_drewN HB0.out _⟩
  · have hv1:((vs.length:Int) != (ks.length:Int))=true:=by simp;omega
    clear hh c2;generalize ws.length=lw at *;generalize ks.length=n at *;generalize vs.length=lv at *;generalize cs.length=lc at *;clear hw hu;go_enter Tryz.func82,Tryz.ntmps82
    go_wp2
    have d0:(w.alloc (.cells #[.int .i64 seg,.slice wa lw wc,.slice ka n kc,.slice va lv vc,.slice ca lc cc,.int .u64 laid] 29)).cell? ⟨w.heap.size,0,none⟩=some (.int .i64 seg):=xcw;have d1:(w.alloc (.cells #[.int .i64 seg,.slice wa lw wc,.slice ka n kc,.slice va lv vc,.slice ca lc cc,.int .u64 laid] 29)).cell? ⟨w.heap.size,1,none⟩=some (.slice wa lw wc):=xcw;have d3:(w.alloc (.cells #[.int .i64 seg,.slice wa lw wc,.slice ka n kc,.slice va lv vc,.slice ca lc cc,.int .u64 laid] 29)).cell? ⟨w.heap.size,3,none⟩=some (.slice va lv vc):=xcw;have d4:(w.alloc (.cells #[.int .i64 seg,.slice wa lw wc,.slice ka n kc,.slice va lv vc,.slice ca lc cc,.int .u64 laid] 29)).cell? ⟨w.heap.size,4,none⟩=some (.slice ca lc cc):=xcw;have HB0:Hid (Below w.heap.size w (w.alloc (.cells #[.int .i64 seg,.slice wa lw wc,.slice ka n kc,.slice va lv vc,.slice ca lc cc,.int .u64 laid] 29))):=hid ((Below.refl _ _).alloc (Nat.le_refl _) _);generalize (w.alloc (.cells #[.int .i64 seg,.slice wa lw wc,.slice ka n kc,.slice va lv vc,.slice ca lc cc,.int .u64 laid] 29))=w1 at *;have Q1:=hid (fun q=>Calls.quiet_of_same ((F1.out (w1.drewN q)).mono fun _ _ h=>⟨h.1,h.2.symm⟩));go_quiet (exact Q1.out _)
    go_wp2
    go_ret
    exact ⟨rfl,below_drewN HB0.out _⟩
theorem May04_ok (c:SlC) (a:SlA) (hl:c.ws.length≤1000000000000) (hl2:c.ks.length≤1000000000000) (w:World) (hin:SlIn w c a):
    Calls Tryz.prog 82 #[slV c a] w (AnsB w (.bool (slMay c))):=by
 cases hh:slHead c with
 | true=>exact slMay_in c a hh w hin
 | false=>exact slMay_bad c a hh hl hl2 w hin
end
section
open Go.RowKit
theorem pr_get {l:List (Int×Int)} {W:World} {a:Option Addr} (h:IsRow .i64 W a (prI l)) {i:Nat} (hi:i<l.length):
    ∃b off,a=some ⟨b,off,none⟩∧W.cell? ⟨b,off+i*2,none⟩=some (.int .i64 (l.getD i (0,0)).1)∧W.cell? ⟨b,off+i*2+1,none⟩=some (.int .i64 (l.getD i (0,0)).2)∧b<W.heap.size:=by
 obtain ⟨g1,g2⟩:=prI_get hi;obtain ⟨b,off,x,y,e,hx,hy,c1,c2,hb⟩:=h.get2 (i:=i) (by rw [prI_length];omega);rw [←hx.out,g1] at c1;rw [←hy.out,g2] at c2;exact ⟨b,off,e,c1,c2,hb⟩
end
end Go.Proofs.YtookgoidlnlckaaGreatDoor

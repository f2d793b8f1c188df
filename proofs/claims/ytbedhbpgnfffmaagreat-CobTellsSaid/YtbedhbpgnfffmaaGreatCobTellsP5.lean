/- Merged: Ref02, Of04, May04, Seek, IdxTree, DownPlain, DownMay. -/
import Derived.Test.YtbedhbpgnfffmaaGreatCobTellsP2
import Derived.Test.YtbedhbpgnfffmaaGreatCobTellsP3
import Derived.Test.YtbedhbpgnfffmaaGreatCobTellsP4
namespace Go.Proofs.YtbedhbpgnfffmaaGreat
set_option maxRecDepth 100000
set_option maxHeartbeats 40000000
set_option linter.unusedVariables false
set_option linter.unusedSimpArgs false
section
open Go.RowKit
theorem bit02_ok (x:Int) (h0:0≤x) (h1:x<18446744073709551616) (k:Nat) (hk:k<64) (w:World):
    Calls Tryz.prog 143 #[.int .u64 x,.int .i64 k] w fun e w'=>e= .returned (.bool (bitI x k))∧w=w':=by
 have hd:=bitI_div h0 k;have hq0:0≤x/2^k:=Int.ediv_nonneg h0 (Int.le_of_lt (Int.pow_pos xo));generalize bitI x k=b at *;obtain ⟨q,hq⟩:∃q,x/2^k=q:=⟨_,rfl⟩
 rw [hq] at hd hq0;have hb:(q%2==1)=b:=by cases b<;>simp [hd]
 clear hd;go_enter Tryz.func143,Tryz.ntmps143
 go_wp2
 go_ret
 exact ⟨by rw [←hb];rfl,rfl⟩
theorem Is02_ok (wa:Option Addr) (wc:Nat) (ws:List Int) (hu:U64s ws) (i:Nat) (hi:i/64<ws.length) (hi2:i≤1000000000000) (w:World) (hw:IsRow .u64 w wa ws):
    Calls Tryz.prog 120 #[.slice wa ws.length wc,.int .i64 i] w fun e w'=>e= .returned (.bool (bitW ws i))∧w=w':=by
 obtain ⟨b,off,x,rfl,hx,hc,-⟩:=hw.get hi;have hg:=hu.get (i/64);rw [hx.out] at hg;have hb:bitW ws i=bitI x (i%64):=by rw [bitW,hx.out]
 rw [hb];have B:=hid (fun w=>bit02_ok x hg.1 hg.2 (i%64) (Nat.mod_lt _ xo) w);obtain ⟨q,hq⟩:∃q,i/64=q:=⟨_,rfl⟩
 obtain ⟨r,hr⟩:∃r,i%64=r:=⟨_,rfl⟩
 have hqI:(i:Int)/64=(q:Int):=xo;have hrI:(i:Int)%64=(r:Int):=xo;rw [hq] at hc hi;rw [hr] at B ⊢;generalize ws.length=m at *;clear hx hb hw hu hq hr;go_enter Tryz.func120,Tryz.ntmps120
 go_wp2_with (go_at_call 143;refine (B.out _).mono ?_;rintro e w' ⟨rfl,rfl⟩)
 go_ret
 exact ⟨rfl,rfl⟩
theorem May02_ok (wa:Option Addr) (wc:Nat) (ws:List Int) (hu:U64s ws) (n:Nat) (hn:n≤65536) (hl:ws.length≤9223372036854775807) (w:World) (hw:IsRow .u64 w wa ws):
    Calls Tryz.prog 138 #[.slice wa ws.length wc,.int .i64 n] w fun e w'=>e= .returned (.bool (wMayB ws n))∧w=w':=by
 by_cases c1:ws.length=(n+63)/64
 · have e1:wMayB ws n=(List.range' n (64*ws.length-n)).all fun i=> !bitW ws i:=by rw [wMayB,decide_eq_true c1,Bool.true_and]
   have hd:((ws.length:Int) != ((n:Int)+63)/64)=false:=by simp;omega
   have IS:=hid (fun i hi w hw=>Is02_ok wa wc ws hu i hi xo w hw);have hnb:64*ws.length≤65600:=xo;have hnl:n≤64*ws.length:=xo;obtain ⟨z,hz⟩:∃z,wMayB ws n=z:=⟨_,rfl⟩
   have HZ:=hid (e1.symm.trans hz);rw [hz];have HW:=hid hw;obtain ⟨m,hm⟩:∃m,ws.length=m:=⟨_,rfl⟩
   rw [hm] at hd IS hnb hnl ⊢;have HM:=hid hm;clear hw c1 e1 hz hm hl;go_enter Tryz.func138,Tryz.ntmps138
   go_wp2
   go_loopg [5] (64*m-n) (fun gk iv wr=>∃i:Nat,i+gk=64*m∧n≤i∧iv= .int .i64 i∧wr=w∧Hid (∀j,n≤j→j<i→bitW ws j=false))
   case atStart=>exact ⟨n,by omega,Nat.le_refl _,rfl,rfl,hid (fun j h1 h2=>by omega)⟩
   case round=>
    obtain ⟨i,hi,hni,rfl,rfl,HF⟩:=hrel;by_cases hlt:i<64*m
    · have B:=hid (IS.out i xo wr HW.out);cases hb:bitW ws i with
      | true=>
       rw [hb] at B;have hzf:z=false:=by
        rw [←HZ.out,HM.out,List.all_eq_false];exact ⟨i,List.mem_range'_1.2 xo,by simp [hb]⟩
       subst hzf;clear hb;go_wp2_with (go_at_call 120;refine B.out.mono ?_;rintro e w' ⟨rfl,rfl⟩)
       go_ret
       exact ⟨rfl,rfl⟩
      | false=>
       rw [hb] at B;have HB:=hid hb;clear hb;go_wp2_with (go_at_call 120;refine B.out.mono ?_;rintro e w' ⟨rfl,rfl⟩)
       go_roundg (gk-1)
       case measure=>omega
       case rel=>
        refine ⟨i+1,by omega,by omega,by go_num,rfl,hid (fun j h1 h2=> ?_)⟩;by_cases e:j=i
        · rw [e];exact HB.out
        · exact HF.out j h1 xo
    · have hzt:z=true:=by
        rw [←HZ.out,HM.out,List.all_eq_true];intro j hj;have:=List.mem_range'_1.1 hj;rw [HF.out j xo xo];rfl
      subst hzt;go_wp2
      go_ret
      exact ⟨rfl,rfl⟩
 · have e:wMayB ws n=false:=by simp [wMayB,c1]
   have hd:((ws.length:Int) != ((n:Int)+63)/64)=true:=by simp;omega
   rw [e];generalize ws.length=m at *;clear e;go_enter Tryz.func138,Tryz.ntmps138
   go_wp2
   go_ret
   exact ⟨rfl,rfl⟩
theorem Places02_ok (wa:Option Addr) (wc:Nat) (ws:List Int) (hu:U64s ws) (a b:Nat) (hb:b≤64*ws.length) (hbb:b≤65600) (haa:a≤100000) (w:World) (hw:IsRow .u64 w wa ws):
    Calls Tryz.prog 89 #[.slice wa ws.length wc,.int .i64 a,.int .i64 b] w (FreshInts w (ints (plsW ws a b))):=by
 have IS:=hid (fun i hi hi2 w hw=>Is02_ok wa wc ws hu i hi hi2 w hw);have HW:=hid hw;obtain ⟨m,hm⟩:∃m,ws.length=m:=⟨_,rfl⟩
 rw [hm] at IS hb ⊢;clear hw hm;go_enter Tryz.func89,Tryz.ntmps89
 go_wp2
 go_loopg [7,8] (b-a) (fun gk v iv wr=>∃i:Nat,i+gk=a+(b-a)∧a≤i∧iv= .int .i64 i∧Hid (wr.ownsRow w.heap.size 3 1 v (ints (plsW ws a i)).length ((ints (plsW ws a i)).map (Value.int .i64)))∧Hid (Below w.heap.size w wr))
 case atStart=>
  refine ⟨a,by omega,Nat.le_refl _,rfl,hid ?_,hid br⟩;rw [plsW_nil];exact World.ownsRow_nil _ _ _ _
 case round=>
  obtain ⟨i,hi,hai,rfl,HO,HB⟩:=hrel;by_cases hlt:i<b
  · have B:=hid (IS.out i xo xo wr (HW.out.below HB.out));have hz:=HB.out.size;cases hbi:bitW ws i with
    | true=>
     rw [hbi] at B;have hsu:ints (plsW ws a (i+1))=ints (plsW ws a i)++[(i:Int)]:=by rw [plsW_succ hai,if_pos hbi,ints_append];rfl
     have hlen:(ints (plsW ws a i)).length≤65600:=by
      rw [ints_length,plsW_length];have:=cntW_le ws a i;omega
     have HSU:=hid hsu;obtain ⟨a',c',rfl,hn',-⟩:=owns_news HO.out;clear hsu hbi;go_wp2_with (first
       | (go_at_call 120;refine B.out.mono ?_;rintro e w' ⟨rfl,rfl⟩)
       | (at_builtin;refine wpl_append (.tmp 18) (.tmp 20) 26 3 (.int .i64 0) 1 8 Tryz.underlying26 info_int rfl xdd xdd w.heap.size _ _ _ (some ⟨wr.heap.size,0,none⟩) 1 1 [.int .i64 i] (HO.out.alloc _) rfl xzc (new_cells _ [.int .i64 i] _ _ rfl) (by simp [Value.oneCell']) xo (by simp;omega) rfl rfl rfl rfl ?_;intro v2 w2 ho2 hg2 _
          have HO2:=hid ho2;have HB2:=hid ((HB.out.alloc hz (.cells #[.int .i64 i] 3)).grown hg2 (by simp;omega) (fun z hz=>(HO.out.lt z hz).1));clear ho2 hg2))
     go_roundg (gk-1)
     case measure=>omega
     case rel=>
      refine ⟨i+1,by omega,by omega,by go_num,hid ?_,HB2⟩;rw [HSU.out,List.length_append,List.map_append];exact HO2.out
    | false=>
     rw [hbi] at B;have hsu:ints (plsW ws a (i+1))=ints (plsW ws a i):=by rw [plsW_succ hai,if_neg (by rw [hbi];decide),List.append_nil]
     have HSU:=hid hsu;clear hsu hbi;go_wp2_with (go_at_call 120;refine B.out.mono ?_;rintro e w' ⟨rfl,rfl⟩)
     go_roundg (gk-1)
     case measure=>omega
     case rel=>exact ⟨i+1,by omega,by omega,by go_num,hid (by rw [HSU.out];exact HO.out),HB⟩
  · have he:plsW ws a b=plsW ws a i:=by
      by_cases h:a≤b
      · rw [show i=b by omega]
      · rw [plsW_none (by omega:b≤a),show i=a by omega,plsW_nil]
    have HE:=hid he;clear he;go_wp2
    go_ret
    refine ⟨_,rfl,?_,HB.out⟩;rw [HE.out];exact HO.out
end
section
open Go.RowKit Go.Shelf
attribute [local go_sem] Oper.semAt_some
def Fact.laid {T:TypeId} (base:Nat) (t:TypeId) (he:t≠T) (vs:Array Value):Fact T:=
  ⟨fun v w=>∃b,v= .slice (some ⟨b,0,none⟩) 1 1∧base≤b∧w.heap[b]? =some (.cells vs t),fun _ _ _ h ⟨b,e,hb,hh⟩=>⟨b,e,hb,h.same _ _ hh (fun cs fr e=>by cases e;exact he rfl)⟩⟩
theorem laid_news {w:World} {b:Nat} {vs:Array Value} {t:TypeId} (h:w.heap[b]? =some (.cells vs t)):∀j u,vs.toList[j]? =some u→w.cell? ((⟨b,0,none⟩:Addr).add j)=some u:=by
 intro j u hj;rw [Addr.add_lit,Nat.zero_add];simp only [World.cell?,h];simpa using hj
theorem plsW_getD {ws:List Int} {a b k:Nat} (h:k<(plsW ws a b).length):a≤(plsW ws a b).getD k 0∧(plsW ws a b).getD k 0<b:=by
 rw [List.getD_eq_getElem?_getD,List.getElem?_eq_getElem h];exact plsW_mem (List.getElem_mem h)
theorem prs_take_succ {c:SlC} {a b k:Nat} (h:k<(plsW c.ws a b).length):(prs c a b).take (k+1)=(prs c a b).take k++[(c.ks.getD ((plsW c.ws a b).getD k 0) 0,c.vs.getD ((plsW c.ws a b).getD k 0) 0)]:=by
 rw [prs,←List.map_take,←List.map_take,List.take_succ_eq_append_getElem h,List.map_append];congr 1
 have e:(plsW c.ws a b).getD k 0=(plsW c.ws a b)[k]:=by simp [List.getD_eq_getElem?_getD,List.getElem?_eq_getElem h]
 rw [e];rfl
theorem Of04_ok (c:SlC) (a:SlA) (lo hi:Nat) (hlo:lo≤100000) (hwn:hi≤64*c.ws.length) (hkn:hi≤c.ks.length) (hvn:c.vs.length=c.ks.length) (hb:hi≤65600) (w:World) (hin:SlIn w c a):
    Calls Tryz.prog 58 #[slV c a,.int .i64 lo,.int .i64 hi] w (FreshPr w (prs c lo hi)):=by
 have PL:=hid (fun w hw=>Places02_ok a.wa a.wc c.ws hin.u lo hi hwn hb hlo w hw);have HIN:=hid hin;have HPT:=hid (fun k (h:k<(plsW c.ws lo hi).length)=>prs_take_succ (c:=c) h);have HPB:=hid (fun k (h:k<(plsW c.ws lo hi).length)=>plsW_getD h);have hml:(plsW c.ws lo hi).length≤65600:=by rw [plsW_length];have:=cntW_le c.ws lo hi;omega
 have hpl:(prs c lo hi).length=(plsW c.ws lo hi).length:=by rw [prs_length,plsW_length]
 have HPL:=hid hpl;generalize prs c lo hi=L at *;generalize plsW c.ws lo hi=pl at *;have HIL:=hid (ints_length pl);obtain ⟨m,hm⟩:∃m,pl.length=m:=⟨_,rfl⟩
 rw [hm] at HPT HPB HIL HPL hml;obtain ⟨seg,ws,ks,vs,cs,laid⟩:=c;obtain ⟨wa,ka,va,ca,wc,kc,vc,cc⟩:=a;dsimp only [slV] at *;obtain ⟨n,hn⟩:∃n,ks.length=n:=⟨_,rfl⟩
 rw [hn] at hkn hvn ⊢;rw [hvn];have HKL:=hid hn;have HVL:=hid hvn;clear hin hm hpl hn hvn;go_enter Tryz.func58,Tryz.ntmps58
 go_wp2_with fail
 refine (PL.out _ (HIN.out.w.below (br.alloc (Nat.le_refl _) _))).mono ?_;rintro e w1 ⟨vl,rfl,hol,hb1⟩;have hz_w1:=hb1.size;try simp only [World.size_alloc,World.size_setCell] at hz_w1
 have c_t0:w1.cell? ⟨w.heap.size,0,none⟩=some (.int .i64 seg):=xjt hb1 xlt xcn;have c_t1:w1.cell? ⟨w.heap.size,1,none⟩=some (.slice wa ws.length wc):=xjt hb1 xlt xcn;have c_t2:w1.cell? ⟨w.heap.size,2,none⟩=some (.slice ka n kc):=xjt hb1 xlt xcn;have c_t3:w1.cell? ⟨w.heap.size,3,none⟩=some (.slice va n vc):=xjt hb1 xlt xcn;have z_t:w.heap.size<w1.heap.size:=xo;have hB1:Below w.heap.size w w1:=xbel;obtain ⟨la,lc,rfl,hil,-,-,-,-⟩:=row_of_owns hol;rw [HIL.out];have HRL:=hid hil;have HB1:=hid hB1;have HLB:=hid (row_block hil);clear hb1 hB1 hol hil;go_wp2
 go_loopg [7,9] m (fun gk v iv wr=>∃k:Nat,k+gk=m∧iv= .int .i64 k∧Hid (wr.ownsRow w1.heap.size 52 2 v k ((prI (L.take k)).map (Value.int .i64)))∧wr.cell? ⟨w.heap.size,2,none⟩=some (.slice ka n kc)∧wr.cell? ⟨w.heap.size,3,none⟩=some (.slice va n vc)∧Hid (Below w.heap.size w wr)∧w1.heap.size≤wr.heap.size∧Hid (IsRow .i64 wr la (ints pl)))
 case atStart=>exact ⟨0,by omega,rfl,hid (World.ownsRow_nil _ _ _ _),c_t2,c_t3,HB1,Nat.le_refl _,HRL⟩
 case round=>
  obtain ⟨k,hk,rfl,HO,cE2,cE3,HB,hz,HR⟩:=hrel;by_cases hlt:k<m
  · obtain ⟨ao,co,rfl,-⟩:=owns_news HO.out;obtain ⟨bl,ol,s',rfl,hs',cl,zl⟩:=HR.out.get (i:=k) (by rw [HIL.out];exact hlt);obtain ⟨s,hs⟩:∃s,pl.getD k 0=s:=⟨_,rfl⟩
    have hss:s'=(s:Int):=by rw [←hs'.out,getD_ints,hs]
    subst hss;have hpb:=HPB.out k hlt;have hpt:=HPT.out k hlt;rw [hs] at hpb hpt;have hsn:s<n:=xo;obtain ⟨bk,ok,kx,rfl,hkx,ck,zk⟩:=(HIN.out.k.below HB.out).get (i:=s) (by dsimp only;rw [HKL.out];exact hsn);obtain ⟨bv,ov,vx,rfl,hvx,cv,zv⟩:=(HIN.out.v.below HB.out).get (i:=s) (by dsimp only;rw [HVL.out];exact hsn);dsimp only at hkx hvx;rw [hkx.out,hvx.out] at hpt;have HTK:=hid hpt;have HK2:=hid hk;have hlt1:(prI (L.take k)).length=k*2:=by rw [prI_length,List.length_take];have:=HPL.out;omega
    clear hpt hkx hvx hs hs' hk HRL;go_wp2
    refine wpIn_wide (n:=0).1 (wpIn_region_facts 19 xk (N:=42) rfl xk xk xdd (fun w'=>Below wr.heap.size wr w') (Ext 29) (factAt [.is (.slice ao k co),.is (.pointer (some ⟨w.heap.size,2,none⟩)),.is (.slice (some ⟨bk,ok,none⟩) n kc),.is (.slice (some ⟨bl,ol,none⟩) m lc),.is (.int .i64 k),.is (.pointer (some ⟨bl,ol+k,none⟩)),.is (.int .i64 s),.is (.pointer (some ⟨bk,ok+s,none⟩)),.is (.int .i64 kx),.is (.pointer (some ⟨w.heap.size,3,none⟩)),.is (.slice (some ⟨bv,ov,none⟩) n vc),.is (.slice (some ⟨bl,ol,none⟩) m lc),.is (.int .i64 k),.is (.pointer (some ⟨bl,ol+k,none⟩)),.is (.int .i64 s),.is (.pointer (some ⟨bv,ov+s,none⟩)),.is (.int .i64 vx),.is (.agg #[.int .i64 kx,.int .i64 vx]),.laid wr.heap.size 52 xdd #[.int .i64 kx,.int .i64 vx]]) (factAt_stays _) br.drew ?steps ?fin)
    case steps=>
     refine ⟨?o0,?o1,?o2,?o3,?o4,?o5,?o6,?o7,?o8,?o9,?o10,?o11,?o12,?o13,?o14,?o15,?o16,?o17,?o18,trivial⟩<;>intro u a w' ev hJ hd K hK
     case o0=>
      rw [if_pos (wanted_free rfl)];have e7:tg a 7= .slice ao k co:=ev 7 xdd;have HK:=hid hK;clear hK ev hd;go_simp;exact HK.out _ _ xzc hJ rfl (Ext.refl _ _)
     case o1=>
      rw [if_pos (wanted_free rfl)];have e3:tg a 3= .pointer (some ⟨w.heap.size,0,none⟩):=ev 3 xdd;have HK:=hid hK;clear hK ev hd;go_simp;exact HK.out _ _ xzc hJ rfl (Ext.refl _ _)
     case o2=>
      rw [if_pos (wanted_free rfl)];have e22:tg a 22= .pointer (some ⟨w.heap.size,2,none⟩):=(ev 22 xdd).trans (hd 1 _ xk rfl);have g0:=xjc hJ cE2;have HK:=hid hK;clear hK ev hd;go_simp;exact HK.out _ _ xzc hJ rfl (Ext.refl _ _)
     case o3=>
      rw [if_pos (wanted_free rfl)];have e8:tg a 8= .slice (some ⟨bl,ol,none⟩) m lc:=ev 8 xdd;have HK:=hid hK;clear hK ev hd;go_simp;exact HK.out _ _ xzc hJ rfl (Ext.refl _ _)
     case o4=>
      rw [if_pos (wanted_free rfl)];have e9:tg a 9= .int .i64 k:=ev 9 xdd;have HK:=hid hK;clear hK ev hd;go_simp;exact HK.out _ _ xzc hJ rfl (Ext.refl _ _)
     case o5=>
      rw [if_pos (wanted_free rfl)];have e24:tg a 24= .slice (some ⟨bl,ol,none⟩) m lc:=(ev 24 xdd).trans (hd 3 _ xk rfl);have e25:tg a 25= .int .i64 k:=(ev 25 xdd).trans (hd 4 _ xk rfl);have HK:=hid hK;clear hK ev hd;go_simp;exact HK.out _ _ xzc hJ rfl (Ext.refl _ _)
     case o6=>
      rw [if_pos (wanted_free rfl)];have e26:tg a 26= .pointer (some ⟨bl,ol+k,none⟩):=(ev 26 xdd).trans (hd 5 _ xk rfl);have g0:=xjc hJ cl;have HK:=hid hK;clear hK ev hd;go_simp;exact HK.out _ _ xzc hJ rfl (Ext.refl _ _)
     case o7=>
      rw [if_pos (wanted_free rfl)];have e23:tg a 23= .slice (some ⟨bk,ok,none⟩) n kc:=(ev 23 xdd).trans (hd 2 _ xk rfl);have e27:tg a 27= .int .i64 s:=(ev 27 xdd).trans (hd 6 _ xk rfl);have HK:=hid hK;clear hK ev hd;go_simp;exact HK.out _ _ xzc hJ rfl (Ext.refl _ _)
     case o8=>
      rw [if_pos (wanted_free rfl)];have e28:tg a 28= .pointer (some ⟨bk,ok+s,none⟩):=(ev 28 xdd).trans (hd 7 _ xk rfl);have g0:=xjc hJ ck;have HK:=hid hK;clear hK ev hd;go_simp;exact HK.out _ _ xzc hJ rfl (Ext.refl _ _)
     case o9=>
      rw [if_pos (wanted_free rfl)];have e3:tg a 3= .pointer (some ⟨w.heap.size,0,none⟩):=ev 3 xdd;have HK:=hid hK;clear hK ev hd;go_simp;exact HK.out _ _ xzc hJ rfl (Ext.refl _ _)
     case o10=>
      rw [if_pos (wanted_free rfl)];have e30:tg a 30= .pointer (some ⟨w.heap.size,3,none⟩):=(ev 30 xdd).trans (hd 9 _ xk rfl);have g0:=xjc hJ cE3;have HK:=hid hK;clear hK ev hd;go_simp;exact HK.out _ _ xzc hJ rfl (Ext.refl _ _)
     case o11=>
      rw [if_pos (wanted_free rfl)];have e8:tg a 8= .slice (some ⟨bl,ol,none⟩) m lc:=ev 8 xdd;have HK:=hid hK;clear hK ev hd;go_simp;exact HK.out _ _ xzc hJ rfl (Ext.refl _ _)
     case o12=>
      rw [if_pos (wanted_free rfl)];have e9:tg a 9= .int .i64 k:=ev 9 xdd;have HK:=hid hK;clear hK ev hd;go_simp;exact HK.out _ _ xzc hJ rfl (Ext.refl _ _)
     case o13=>
      rw [if_pos (wanted_free rfl)];have e32:tg a 32= .slice (some ⟨bl,ol,none⟩) m lc:=(ev 32 xdd).trans (hd 11 _ xk rfl);have e33:tg a 33= .int .i64 k:=(ev 33 xdd).trans (hd 12 _ xk rfl);have HK:=hid hK;clear hK ev hd;go_simp;exact HK.out _ _ xzc hJ rfl (Ext.refl _ _)
     case o14=>
      rw [if_pos (wanted_free rfl)];have e34:tg a 34= .pointer (some ⟨bl,ol+k,none⟩):=(ev 34 xdd).trans (hd 13 _ xk rfl);have g0:=xjc hJ cl;have HK:=hid hK;clear hK ev hd;go_simp;exact HK.out _ _ xzc hJ rfl (Ext.refl _ _)
     case o15=>
      rw [if_pos (wanted_free rfl)];have e31:tg a 31= .slice (some ⟨bv,ov,none⟩) n vc:=(ev 31 xdd).trans (hd 10 _ xk rfl);have e35:tg a 35= .int .i64 s:=(ev 35 xdd).trans (hd 14 _ xk rfl);have HK:=hid hK;clear hK ev hd;go_simp;exact HK.out _ _ xzc hJ rfl (Ext.refl _ _)
     case o16=>
      rw [if_pos (wanted_free rfl)];have e36:tg a 36= .pointer (some ⟨bv,ov+s,none⟩):=(ev 36 xdd).trans (hd 15 _ xk rfl);have g0:=xjc hJ cv;have HK:=hid hK;clear hK ev hd;go_simp;exact HK.out _ _ xzc hJ rfl (Ext.refl _ _)
     case o17=>
      rw [if_pos (wanted_free rfl)];have e29:tg a 29= .int .i64 kx:=(ev 29 xdd).trans (hd 8 _ xk rfl);have e37:tg a 37= .int .i64 vx:=(ev 37 xdd).trans (hd 16 _ xk rfl);have f29:a.tmps[29]?.getD undef= .int .i64 kx:=by rw [←Array.getD_eq_getD_getElem?];exact e29
      have f37:a.tmps[37]?.getD undef= .int .i64 vx:=by rw [←Array.getD_eq_getD_getElem?];exact e37
      have HK:=hid hK;clear hK ev hd;go_simp;exact HK.out _ _ xzc hJ rfl (Ext.refl _ _)
     case o18=>
      rw [if_pos (wanted_free rfl)];have e38:tg a 38= .agg #[.int .i64 kx,.int .i64 vx]:=(ev 38 xdd).trans (hd 17 _ xk rfl);have f38:a.tmps[38]?.getD undef= .agg #[.int .i64 kx,.int .i64 vx]:=by rw [←Array.getD_eq_getD_getElem?];exact e38
      have HK:=hid hK;have hzJ:=hJ.size;have HJ:=hid hJ;clear hK ev hd hJ;go_simp;exact HK.out _ _ xzc (HJ.out.alloc hzJ _) ⟨_,rfl,hzJ,alloc_new _ _⟩ (Ext.below (br.alloc (Nat.le_refl _) _))
    case fin=>
     intro u w3 hJ hG;have h15:u 21= .slice ao k co:=hG 0 _ rfl;obtain ⟨b,h39,hbb,hheap⟩:(Fact.laid (T:=29) wr.heap.size 52 xdd #[.int .i64 kx,.int .i64 vx]).holds (u 39) w3:=hG 18 _ rfl;have f2:=xjc hJ cE2;have f3:=xjc hJ cE3;have HB3:=hid (below_via hJ HB.out xo);have HO3:=hid (owns_below HO.out hJ);have HR3:=hid (HR.out.below hJ);have hz13:w1.heap.size≤w3.heap.size:=by have:=hJ.size;omega
     have HNW:=hid (laid_news hheap);clear hG cE2 cE3 hJ hheap cl ck cv;simp only [mixFrame,mixL,dstsOf,List.take_succ_cons,List.take_zero,List.filterMap_cons,List.filterMap_nil,List.contains_cons,List.contains_nil,Nat.reduceBEq,Bool.or_false,Bool.false_or,Bool.or_true,Bool.true_or,if_true,if_false,Bool.false_eq_true,Nat.reduceAdd,Nat.zero_add,List.drop_succ_cons,List.drop_zero,h15,h39]
     gi_wp2_with (gi_at_builtin;refine wpListIn_append_own _ rfl (.tmp 21) (.tmp 39) 82 rfl w1.heap.size 52 _ (.agg #[.int .i64 0,.int .i64 0]) 2 16 Tryz.underlying82 (info_parts info_Pair).choose_spec.1 (info_parts info_Pair).choose_spec.2.1 (info_parts info_Pair).choose_spec.2.2.1 (info_parts info_Pair).choose_spec.2.2.2 rfl xdd _ k _ rfl HO3.out ⟨b,0,none⟩ 1 1 [.int .i64 kx,.int .i64 vx] rfl rfl HNW.out (by simp [Value.oneCell']) (by unfold maxLen;omega) xo (by have:=hz13;omega) ?_;intro v' w4 ho4 hg4 _
                  obtain ⟨a4,c4,rfl,-⟩:=owns_news ho4;have HO4:=hid ho4;have HG4:=hid hg4;clear ho4 hg4)
     have hne:∀q,q<w1.heap.size→w4.heap[q]? =w3.heap[q]? :=fun q hq=>HG4.out.block q xo (fun e=>(by have:=(HO3.out.lt _ e.symm).1;omega))
     have g2:w4.cell? ⟨w.heap.size,2,none⟩=some (.slice (some ⟨bk,ok,none⟩) n kc):=xob f2 (hne _ z_t);have g3:w4.cell? ⟨w.heap.size,3,none⟩=some (.slice (some ⟨bv,ov,none⟩) n vc):=xob f3 (hne _ z_t);have HR4:=hid (KpS.row (S:=fun q=>q<w1.heap.size) (W:=w3) (W':=w4) (fun q hq=>hne q hq) (fun x hx h0=>HLB.out x hx h0) HR3.out);have HB4:=hid (HB3.out.grown HG4.out (by have:=HB3.out.size;omega) (fun z hz=>by have:=(HO3.out.lt z hz).1;omega));have hz4:w1.heap.size≤w4.heap.size:=Nat.le_trans hz13 HG4.out.size;clear hne;go_wp2
     go_roundg (gk-1)
     case measure=>have:=HK2.out;omega
     case rel=>
      refine ⟨k+1,by have:=HK2.out;omega,by go_num,hid ?_,g2,g3,HB4,hz4,HR4⟩;rw [HTK.out,prI_append,List.map_append];exact HO4.out
  · have hkm:m=k:=xo;subst hkm;obtain ⟨ao,co,rfl,-⟩:=owns_news HO.out;go_wp2
    go_ret
    refine ⟨_,rfl,?_,HB.out⟩;have h9:=HO.out;rw [List.take_of_length_le (by rw [HPL.out];exact Nat.le_refl _)] at h9;rw [HPL.out];exact owns_base h9 xo
end
section
open Go.RowKit
def Fact.len {T:TypeId} (n:Nat):Fact T:=⟨fun v _=>∃a c,v= .slice a n c,fun _ _ _ _ h=>h⟩
theorem slMay_in (c:SlC) (a:SlA) (hh:slHead c=true) (w:World) (hin:SlIn w c a):
    Calls Tryz.prog 103 #[slV c a] w (AnsB w (.bool (slMay c))):=by
 obtain ⟨S,M,hS,hS4,hS64,hnk,hnv,hnc,hM1,hSM,hM2,hnw,-,-,-⟩:=slHead_facts hh;have he:=slMay_eq c hh;simp only [slHead,Bool.and_eq_true,decide_eq_true_eq] at hh;obtain ⟨⟨⟨hf,-⟩,hwm⟩,-⟩:=hh;rw [hnk] at hf hwm;obtain ⟨R,hR⟩:∃R,slMay c=R:=⟨_,rfl⟩
 have hR2:R=((List.range c.ks.length).all (clrAt c.ws c.ks c.vs)&&(List.range c.cs.length).all (cntAt c.seg c.ws c.cs)):=by rw [←hR,he]
 rw [hR];clear he hR;obtain ⟨seg,ws,ks,vs,cs,laid⟩:=c;obtain ⟨wa,ka,va,ca,wc,kc,vc,cc⟩:=a;obtain ⟨hw,hk,hv,hcn,hu⟩:=hin;dsimp only at *;subst hS;have HW:=hid hw;have HK:=hid hk;have HV:=hid hv;have HN:=hid hcn;have HU:=hid hu;obtain ⟨n,hn⟩:∃n,S*M=n:=⟨_,rfl⟩
 rw [hn] at hnk hnv hnw hf hwm hSM;have HLW:=hid hnw;have F1:=hid (fun w=>Fits04_ok S n w);rw [hf] at F1;have O1:=hid (fun w hw=>May02_ok wa wc ws hu n hSM xo w hw);have IS:=hid (fun i hi hi2 w hw=>Is02_ok wa wc ws hu i hi hi2 w hw);have C1:=hid (fun p1 p2 h1 h2 h3 w hw=>Places02_ok wa wc ws hu p1 p2 h1 h2 h3 w hw);rw [hwm] at O1;have hqI:(n:Int)/(S:Int)=(M:Int):=by rw [←hn];push_cast;exact Int.mul_ediv_cancel_left _ xo
 have hqM:((M:Int) != wrap64 ((n:Int)/(S:Int)))=false:=by rw [hqI,IntWalk.wrap64_in _ xo];simp
 have htd:(n:Int).tdiv S=(n:Int)/S:=Int.tdiv_eq_ediv_of_nonneg xo;have hS0:((S:Int)==0)=false:=by simp;omega
 have HRR:=hid hR2;have HKL:=hid hnk;have HVL:=hid hnv;have HCL:=hid hnc;have HNM:=hid hn;obtain ⟨lw,hlw⟩:∃lw,ws.length=lw:=⟨_,rfl⟩
 dsimp only [slV];rw [hnk,hnv,hnc,hlw];rw [hlw] at O1 C1 IS;have HLL:=hid hlw;clear hw hk hv hcn hu hf hwm hR2 hnk hnv hnc hnw hlw hqI hn;go_enter Tryz.func103,Tryz.ntmps103
 go_wp2
 have d0:(w.alloc (.cells #[.int .i64 (S:Int),.slice wa lw wc,.slice ka n kc,.slice va n vc,.slice ca M cc,.int .u64 laid] 29)).cell? ⟨w.heap.size,0,none⟩=some (.int .i64 (S:Int)):=xcw;have d1:(w.alloc (.cells #[.int .i64 (S:Int),.slice wa lw wc,.slice ka n kc,.slice va n vc,.slice ca M cc,.int .u64 laid] 29)).cell? ⟨w.heap.size,1,none⟩=some (.slice wa lw wc):=xcw;have d2:(w.alloc (.cells #[.int .i64 (S:Int),.slice wa lw wc,.slice ka n kc,.slice va n vc,.slice ca M cc,.int .u64 laid] 29)).cell? ⟨w.heap.size,2,none⟩=some (.slice ka n kc):=xcw;have d3:(w.alloc (.cells #[.int .i64 (S:Int),.slice wa lw wc,.slice ka n kc,.slice va n vc,.slice ca M cc,.int .u64 laid] 29)).cell? ⟨w.heap.size,3,none⟩=some (.slice va n vc):=xcw;have d4:(w.alloc (.cells #[.int .i64 (S:Int),.slice wa lw wc,.slice ka n kc,.slice va n vc,.slice ca M cc,.int .u64 laid] 29)).cell? ⟨w.heap.size,4,none⟩=some (.slice ca M cc):=xcw;have HB0:Hid (Below w.heap.size w (w.alloc (.cells #[.int .i64 (S:Int),.slice wa lw wc,.slice ka n kc,.slice va n vc,.slice ca M cc,.int .u64 laid] 29))):=hid (br.alloc (Nat.le_refl _) _);have hz0:w.heap.size<(w.alloc (.cells #[.int .i64 (S:Int),.slice wa lw wc,.slice ka n kc,.slice va n vc,.slice ca M cc,.int .u64 laid] 29)).heap.size:=by simp
 generalize (w.alloc (.cells #[.int .i64 (S:Int),.slice wa lw wc,.slice ka n kc,.slice va n vc,.slice ca M cc,.int .u64 laid] 29))=w1 at *;have Q1:=hid (fun q=>Calls.quiet_of_same ((F1.out (w1.drewN q)).mono fun _ _ h=>⟨h.1,h.2.symm⟩));have Q2:=hid (fun q=>Calls.quiet_of_same ((O1.out (w1.drewN q) (HW.out.below (below_drewN HB0.out q))).mono fun _ _ h=>⟨h.1,h.2.symm⟩));go_quiet (first|exact Q1.out _|exact Q2.out _)
 have HB1:=hid (below_drewN HB0.out nq);replace d0:(w1.drewN nq).cell? ⟨w.heap.size,0,none⟩=some (.int .i64 (S:Int)):=d0;replace d1:(w1.drewN nq).cell? ⟨w.heap.size,1,none⟩=some (.slice wa lw wc):=d1;replace d2:(w1.drewN nq).cell? ⟨w.heap.size,2,none⟩=some (.slice ka n kc):=d2;replace d3:(w1.drewN nq).cell? ⟨w.heap.size,3,none⟩=some (.slice va n vc):=d3;replace d4:(w1.drewN nq).cell? ⟨w.heap.size,4,none⟩=some (.slice ca M cc):=d4;replace hz0:w.heap.size<(w1.drewN nq).heap.size:=by simpa using hz0
 generalize w1.drewN nq=w2 at *;clear Q1 Q2 HB0;go_wp2
 go_loopg [4] n (fun gk iv wr=>∃i:Nat,i+gk=n∧iv= .int .i64 i∧wr=w2∧Hid (∀j,j<i→clrAt ws ks vs j=true))
 case atStart=>exact ⟨0,by omega,rfl,rfl,hid (fun j h=>by omega)⟩
 case round=>
  obtain ⟨i,hi,rfl,rfl,HA⟩:=hrel;by_cases hlt:i<n
  · have hw64:i/64<lw:=by have:=HLL.out;have:=HLW.out;omega
    have B:=hid (IS.out i hw64 xo wr (HW.out.below HB1.out));obtain ⟨bk,ok,kx,rfl,hkx,ck,-⟩:=(HK.out.below HB1.out).get (i:=i) (by rw [HKL.out];exact hlt);obtain ⟨bv,ov,vx,rfl,hvx,cv,-⟩:=(HV.out.below HB1.out).get (i:=i) (by rw [HVL.out];exact hlt);have hclr:clrAt ws ks vs i=(bitW ws i||(kx==0&&vx==0)):=by unfold clrAt;rw [hkx.out,hvx.out]
    generalize bitW ws i=bt at *;clear hkx hvx;cases bt with
    | true=>
     have HC:=hid hclr;clear hclr;go_wp2_with (go_at_call 120;refine B.out.mono ?_;rintro e w' ⟨rfl,rfl⟩)
     go_roundg (gk-1)
     case measure=>omega
     case rel=>
      refine ⟨i+1,by omega,by go_num,rfl,hid (fun j hj=> ?_)⟩;by_cases e:j=i
      · rw [e,HC.out];rfl
      · exact HA.out j xo
    | false=>
     by_cases hk0:kx=0
     · by_cases hv0:vx=0
       · subst hk0 hv0;have HC:=hid hclr;clear hclr;go_wp2_with (go_at_call 120;refine B.out.mono ?_;rintro e w' ⟨rfl,rfl⟩)
         go_roundg (gk-1)
         case measure=>omega
         case rel=>
          refine ⟨i+1,by omega,by go_num,rfl,hid (fun j hj=> ?_)⟩;by_cases e:j=i
          · rw [e,HC.out];rfl
          · exact HA.out j xo
       · subst hk0;have hv1:(vx != 0)=true:=by simpa using hv0
         have hR8:R=false:=by rw [HRR.out,HKL.out,all_not hlt (by rw [hclr];simp [hv0]),Bool.false_and]
         subst hR8;clear hclr;go_wp2_with (go_at_call 120;refine B.out.mono ?_;rintro e w' ⟨rfl,rfl⟩)
         go_ret
         exact ⟨rfl,HB1.out⟩
     · have hk1:(kx != 0)=true:=by simpa using hk0
       have hR8:R=false:=by rw [HRR.out,HKL.out,all_not hlt (by rw [hclr];simp [hk0]),Bool.false_and]
       subst hR8;clear hclr;go_wp2_with (go_at_call 120;refine B.out.mono ?_;rintro e w' ⟨rfl,rfl⟩)
       go_ret
       exact ⟨rfl,HB1.out⟩
  · have hin:n=i:=xo;subst hin;have HAL:=hid (all_upto.2 (fun j (hj:j<n)=>HA.out j xo));clear HA;go_wp2
    go_loopg [5] M (fun gk iv wr=>∃k:Nat,k+gk=M∧iv= .int .i64 k∧wr.cell? ⟨w.heap.size,0,none⟩=some (.int .i64 (S:Int))∧wr.cell? ⟨w.heap.size,1,none⟩=some (.slice wa lw wc)∧wr.cell? ⟨w.heap.size,4,none⟩=some (.slice ca M cc)∧Hid (Below w.heap.size w wr)∧w.heap.size<wr.heap.size∧Hid (∀j,j<k→cntAt S ws cs j=true))
    case atStart=>exact ⟨0,by omega,rfl,d0,d1,d4,HB1,hz0,hid (fun j h=>by omega)⟩
    case round=>
     obtain ⟨k,hk,rfl,cE0,cE1,cE4,HB,hz,HA2⟩:=hrel;by_cases hlt2:k<M
     · obtain ⟨bn,on,y,rfl,hy,cy,zbn⟩:=(HN.out.below HB.out).get (i:=k) (by rw [HCL.out];exact hlt2);have hca:cntAt S ws cs k=(y==(cntW ws (k*S) ((k+1)*S):Int)):=by unfold cntAt;rw [hy.out,Int.toNat_natCast]
       have hk1:(k:Int)*(S:Int)=((k*S:Nat):Int):=by push_cast;rfl
       have hk2:((k:Int)+1)*(S:Int)=(((k+1)*S:Nat):Int):=by push_cast;rfl
       have hkb1:k*S≤n:=by rw [←HNM.out,Nat.mul_comm S];exact Nat.mul_le_mul_right _ xo
       have hkb2:(k+1)*S≤n:=by rw [←HNM.out,Nat.mul_comm S];exact Nat.mul_le_mul_right _ xo
       have hzl:(ints (plsW ws (k*S) ((k+1)*S))).length=cntW ws (k*S) ((k+1)*S):=by rw [ints_length,plsW_length]
       have HPP:=hid (fun w' (hb:Below wr.heap.size wr w')=>C1.out (k*S) ((k+1)*S) (by have:=HLL.out;have:=HLW.out;omega) xo xo w' (HW.out.below (below_via hb HB.out xo)));generalize cntW ws (k*S) ((k+1)*S)=z at *;generalize k*S=p1 at *;generalize (k+1)*S=p2 at *;have hw1:IntKind.i64.wrap ((k:Int)+1)=(k:Int)+1:=IntWalk.i64_in _ xo;have hw2:IntKind.i64.wrap (p1:Int)=(p1:Int):=IntWalk.i64_in _ xo;have hw3:IntKind.i64.wrap (p2:Int)=(p2:Int):=IntWalk.i64_in _ xo;have HZL:=hid hzl;have HCA:=hid hca;have HK2:=hid hk;clear hy hzl hca hk;go_wp2
       refine wp_region_facts 19 xk (N:=90) rfl xk xk xdd (fun w'=>Below wr.heap.size wr w') (Ext 29) (factAt [
         .is (.pointer (some ⟨w.heap.size,4,none⟩)),.is (.slice (some ⟨bn,on,none⟩) M cc),.is (.int .i64 k),.is (.pointer (some ⟨bn,on+k,none⟩)),.is (.int .i64 y),.is (.pointer (some ⟨w.heap.size,1,none⟩)),.is (.slice wa lw wc),.is (.int .i64 k),.is (.pointer (some ⟨w.heap.size,0,none⟩)),.is (.int .i64 S),.is (.int .i64 p1),.is (.int .i64 k),.is (.int .i64 ((k:Int)+1)),.is (.pointer (some ⟨w.heap.size,0,none⟩)),.is (.int .i64 S),.is (.int .i64 p2),.len z,.is (.int .i64 z),.is (.bool ((y:Int) != (z:Int)))]) (factAt_stays _) br.drew ?steps ?fin
       case steps=>
        refine ⟨?o0,?o1,?o2,?o3,?o4,?o5,?o6,?o7,?o8,?o9,?o10,?o11,?o12,?o13,?o14,?o15,?o16,?o17,?o18,trivial⟩<;>intro u a w' ev hJ hd K hK
        case o0=>
         have e1:tg a 1= .pointer (some ⟨w.heap.size,0,none⟩):=ev 1 xdd;have HK:=hid hK;clear hK ev hd;go_simp;exact HK.out _ _ xzc hJ rfl (Ext.refl _ _)
        case o1=>
         have e71:tg a 71= .pointer (some ⟨w.heap.size,4,none⟩):=(ev 71 xdd).trans (hd 0 _ xk rfl);have g0:=xjc hJ cE4;have HK:=hid hK;clear hK ev hd;go_simp;exact HK.out _ _ xzc hJ rfl (Ext.refl _ _)
        case o2=>
         have e5:tg a 5= .int .i64 k:=ev 5 xdd;have HK:=hid hK;clear hK ev hd;go_simp;exact HK.out _ _ xzc hJ rfl (Ext.refl _ _)
        case o3=>
         have e72:tg a 72= .slice (some ⟨bn,on,none⟩) M cc:=(ev 72 xdd).trans (hd 1 _ xk rfl);have e73:tg a 73= .int .i64 k:=(ev 73 xdd).trans (hd 2 _ xk rfl);have HK:=hid hK;clear hK ev hd;go_simp;exact HK.out _ _ xzc hJ rfl (Ext.refl _ _)
        case o4=>
         have e74:tg a 74= .pointer (some ⟨bn,on+k,none⟩):=(ev 74 xdd).trans (hd 3 _ xk rfl);have g0:=xjc hJ cy;have HK:=hid hK;clear hK ev hd;go_simp;exact HK.out _ _ xzc hJ rfl (Ext.refl _ _)
        case o5=>
         have e1:tg a 1= .pointer (some ⟨w.heap.size,0,none⟩):=ev 1 xdd;have HK:=hid hK;clear hK ev hd;go_simp;exact HK.out _ _ xzc hJ rfl (Ext.refl _ _)
        case o6=>
         have e76:tg a 76= .pointer (some ⟨w.heap.size,1,none⟩):=(ev 76 xdd).trans (hd 5 _ xk rfl);have g0:=xjc hJ cE1;have HK:=hid hK;clear hK ev hd;go_simp;exact HK.out _ _ xzc hJ rfl (Ext.refl _ _)
        case o7=>
         have e5:tg a 5= .int .i64 k:=ev 5 xdd;have HK:=hid hK;clear hK ev hd;go_simp;exact HK.out _ _ xzc hJ rfl (Ext.refl _ _)
        case o8=>
         have e1:tg a 1= .pointer (some ⟨w.heap.size,0,none⟩):=ev 1 xdd;have HK:=hid hK;clear hK ev hd;go_simp;exact HK.out _ _ xzc hJ rfl (Ext.refl _ _)
        case o9=>
         have e79:tg a 79= .pointer (some ⟨w.heap.size,0,none⟩):=(ev 79 xdd).trans (hd 8 _ xk rfl);have g0:=xjc hJ cE0;have HK:=hid hK;clear hK ev hd;go_simp;exact HK.out _ _ xzc hJ rfl (Ext.refl _ _)
        case o10=>
         have e78:tg a 78= .int .i64 k:=(ev 78 xdd).trans (hd 7 _ xk rfl);have e80:tg a 80= .int .i64 S:=(ev 80 xdd).trans (hd 9 _ xk rfl);have HK:=hid hK;clear hK ev hd;go_simp;exact HK.out _ _ xzc hJ rfl (Ext.refl _ _)
        case o11=>
         have e5:tg a 5= .int .i64 k:=ev 5 xdd;have HK:=hid hK;clear hK ev hd;go_simp;exact HK.out _ _ xzc hJ rfl (Ext.refl _ _)
        case o12=>
         have e82:tg a 82= .int .i64 k:=(ev 82 xdd).trans (hd 11 _ xk rfl);have HK:=hid hK;clear hK ev hd;go_simp;exact HK.out _ _ xzc hJ rfl (Ext.refl _ _)
        case o13=>
         have e1:tg a 1= .pointer (some ⟨w.heap.size,0,none⟩):=ev 1 xdd;have HK:=hid hK;clear hK ev hd;go_simp;exact HK.out _ _ xzc hJ rfl (Ext.refl _ _)
        case o14=>
         have e84:tg a 84= .pointer (some ⟨w.heap.size,0,none⟩):=(ev 84 xdd).trans (hd 13 _ xk rfl);have g0:=xjc hJ cE0;have HK:=hid hK;clear hK ev hd;go_simp;exact HK.out _ _ xzc hJ rfl (Ext.refl _ _)
        case o15=>
         have e83:tg a 83= .int .i64 ((k:Int)+1):=(ev 83 xdd).trans (hd 12 _ xk rfl);have e85:tg a 85= .int .i64 S:=(ev 85 xdd).trans (hd 14 _ xk rfl);have HK:=hid hK;clear hK ev hd;go_simp;exact HK.out _ _ xzc hJ rfl (Ext.refl _ _)
        case o16=>
         have e1':a.tmps.getD 77 undef= .slice wa lw wc:=(ev 77 xdd).trans (hd 6 _ xk rfl);have e2':a.tmps.getD 81 undef= .int .i64 p1:=(ev 81 xdd).trans (hd 10 _ xk rfl);have e3':a.tmps.getD 86 undef= .int .i64 p2:=(ev 86 xdd).trans (hd 15 _ xk rfl);have HK:=hid hK;have HPL:=hid (HPP.out w' hJ);have hzJ:=hJ.size;clear hK ev hd;go_simp;refine HPL.out.mono ?_;rintro e w'' ⟨v,rfl,ho,hb⟩;obtain ⟨ao,co,rfl,-⟩:=owns_news ho;rw [HZL.out];exact HK.out _ _ xzc (hJ.trans (hb.mono hzJ)) ⟨_,_,rfl⟩ (Ext.below hb)
        case o17=>
         obtain ⟨ao,co,h1⟩:(Fact.len (T:=29) z).holds (u 87) w':=hd 16 _ xk rfl;have e1':a.tmps.getD 87 undef= .slice ao z co:=(ev 87 xdd).trans h1;have HK:=hid hK;clear hK ev hd h1;go_simp;exact HK.out _ _ xzc hJ rfl (Ext.refl _ _)
        case o18=>
         have e75:tg a 75= .int .i64 y:=(ev 75 xdd).trans (hd 4 _ xk rfl);have e88:tg a 88= .int .i64 z:=(ev 88 xdd).trans (hd 17 _ xk rfl);have HK:=hid hK;clear hK ev hd;go_simp;exact HK.out _ _ xzc hJ rfl (Ext.refl _ _)
       case fin=>
        intro u w3 hJ hG;have h1:u 89= .bool ((y:Int) != (z:Int)):=hG 18 _ rfl;have f0:=(hJ.cell (p:=⟨w.heap.size,0,none⟩) hz).trans cE0;have f1:=(hJ.cell (p:=⟨w.heap.size,1,none⟩) hz).trans cE1;have f4:=(hJ.cell (p:=⟨w.heap.size,4,none⟩) hz).trans cE4;have HB3:=hid (below_via hJ HB.out xo);have hz3:w.heap.size<w3.heap.size:=by have:=hJ.size;omega
        clear hG cE0 cE1 cE4 hJ;simp only [mixFrame,mixL,dstsOf,List.take_succ_cons,List.take_zero,List.filterMap_cons,List.filterMap_nil,List.contains_cons,List.contains_nil,Nat.reduceBEq,Bool.or_false,Bool.false_or,Bool.or_true,Bool.true_or,if_true,if_false,Bool.false_eq_true,Nat.reduceAdd,Nat.zero_add,List.drop_succ_cons,List.drop_zero,h1];by_cases hyz:y=(z:Int)
        · subst hyz;have hne:((z:Int) != (z:Int))=false:=by simp
          go_wp2
          go_roundg (gk-1)
          case measure=>have:=HK2.out;omega
          case rel=>
           refine ⟨k+1,by have:=HK2.out;omega,by go_num,f0,f1,f4,HB3,hz3,hid (fun j hj=> ?_)⟩;by_cases e:j=k
           · rw [e,HCA.out];simp
           · exact HA2.out j xo
        · have hne:(y != (z:Int))=true:=by simpa using hyz
          have hR8:R=false:=by rw [HRR.out,HCL.out,all_not (p:=cntAt S ws cs) hlt2 (by rw [HCA.out];simpa using hyz),Bool.and_false]
          subst hR8;go_wp2
          go_ret
          exact ⟨rfl,HB3.out⟩
     · have hR0:R=true:=by
         rw [HRR.out,HKL.out,HCL.out,HAL.out,all_upto.2 (fun j (hj:j<M)=>HA2.out j xo)];rfl
       subst hR0;go_wp2
       go_ret
       exact ⟨rfl,HB.out⟩
theorem slMay_bad (c:SlC) (a:SlA) (hh:slHead c=false) (hl:c.ws.length≤9223372036854775807) (hl2:c.ks.length≤1000000000000) (w:World) (hin:SlIn w c a):
    Calls Tryz.prog 103 #[slV c a] w (AnsB w (.bool (slMay c))):=by
 have he:slMay c=false:=by rw [slMay,hh];rfl
 rw [he];clear he;obtain ⟨seg,ws,ks,vs,cs,laid⟩:=c;obtain ⟨wa,ka,va,ca,wc,kc,vc,cc⟩:=a;obtain ⟨hw,-,-,-,hu⟩:=hin;dsimp only at *;dsimp only [slV];simp only [slHead] at hh;have HW:=hid hw;have F1:=hid (fun w=>Fits04_ok seg ks.length w);cases hf:fitB seg ks.length with
 | false=>
  rw [hf] at F1;clear hh hf;generalize ws.length=lw at *;generalize ks.length=n at *;generalize vs.length=lv at *;generalize cs.length=lc at *;clear hw hu;go_enter Tryz.func103,Tryz.ntmps103
  go_wp2
  have d0:(w.alloc (.cells #[.int .i64 seg,.slice wa lw wc,.slice ka n kc,.slice va lv vc,.slice ca lc cc,.int .u64 laid] 29)).cell? ⟨w.heap.size,0,none⟩=some (.int .i64 seg):=xcw;have d1:(w.alloc (.cells #[.int .i64 seg,.slice wa lw wc,.slice ka n kc,.slice va lv vc,.slice ca lc cc,.int .u64 laid] 29)).cell? ⟨w.heap.size,1,none⟩=some (.slice wa lw wc):=xcw;have d3:(w.alloc (.cells #[.int .i64 seg,.slice wa lw wc,.slice ka n kc,.slice va lv vc,.slice ca lc cc,.int .u64 laid] 29)).cell? ⟨w.heap.size,3,none⟩=some (.slice va lv vc):=xcw;have d4:(w.alloc (.cells #[.int .i64 seg,.slice wa lw wc,.slice ka n kc,.slice va lv vc,.slice ca lc cc,.int .u64 laid] 29)).cell? ⟨w.heap.size,4,none⟩=some (.slice ca lc cc):=xcw;have HB0:Hid (Below w.heap.size w (w.alloc (.cells #[.int .i64 seg,.slice wa lw wc,.slice ka n kc,.slice va lv vc,.slice ca lc cc,.int .u64 laid] 29))):=hid (br.alloc (Nat.le_refl _) _);generalize (w.alloc (.cells #[.int .i64 seg,.slice wa lw wc,.slice ka n kc,.slice va lv vc,.slice ca lc cc,.int .u64 laid] 29))=w1 at *;have Q1:=hid (fun q=>Calls.quiet_of_same ((F1.out (w1.drewN q)).mono fun _ _ h=>⟨h.1,h.2.symm⟩));go_quiet (exact Q1.out _)
  go_wp2
  go_ret
  exact ⟨rfl,below_drewN HB0.out _⟩
 | true=>
  rw [hf] at F1 hh;obtain ⟨f1,f2,-,f4,f5,f6,-⟩:=fitB_facts hf;have O1:=hid (fun w hw=>May02_ok wa wc ws hu ks.length xo hl w hw);clear hf;by_cases c2:vs.length=ks.length
  · have hv1:((vs.length:Int) != (ks.length:Int))=false:=by simp [c2]
    rw [decide_eq_true c2,Bool.true_and,Bool.true_and] at hh;cases hwm:wMayB ws ks.length with
    | true=>
     rw [hwm,Bool.true_and,decide_eq_false_iff_not] at hh;rw [hwm] at O1;have hd0:0≤(ks.length:Int)/seg:=Int.ediv_nonneg xo xo;have hd1:(ks.length:Int)/seg≤ks.length:=Int.ediv_le_self _ xo;have hqM:((cs.length:Int) != wrap64 ((ks.length:Int)/seg))=true:=by
      rw [IntWalk.wrap64_in _ xo];simpa using hh
     have htd:(ks.length:Int).tdiv seg=(ks.length:Int)/seg:=Int.tdiv_eq_ediv_of_nonneg xo;have hS0:(seg==0)=false:=by simp;omega
     clear hh hwm hd0 hd1 c2;generalize ws.length=lw at *;generalize ks.length=n at *;generalize vs.length=lv at *;generalize cs.length=lc at *;clear hw hu;go_enter Tryz.func103,Tryz.ntmps103
     go_wp2
     have d0:(w.alloc (.cells #[.int .i64 seg,.slice wa lw wc,.slice ka n kc,.slice va lv vc,.slice ca lc cc,.int .u64 laid] 29)).cell? ⟨w.heap.size,0,none⟩=some (.int .i64 seg):=xcw;have d1:(w.alloc (.cells #[.int .i64 seg,.slice wa lw wc,.slice ka n kc,.slice va lv vc,.slice ca lc cc,.int .u64 laid] 29)).cell? ⟨w.heap.size,1,none⟩=some (.slice wa lw wc):=xcw;have d3:(w.alloc (.cells #[.int .i64 seg,.slice wa lw wc,.slice ka n kc,.slice va lv vc,.slice ca lc cc,.int .u64 laid] 29)).cell? ⟨w.heap.size,3,none⟩=some (.slice va lv vc):=xcw;have d4:(w.alloc (.cells #[.int .i64 seg,.slice wa lw wc,.slice ka n kc,.slice va lv vc,.slice ca lc cc,.int .u64 laid] 29)).cell? ⟨w.heap.size,4,none⟩=some (.slice ca lc cc):=xcw;have HB0:Hid (Below w.heap.size w (w.alloc (.cells #[.int .i64 seg,.slice wa lw wc,.slice ka n kc,.slice va lv vc,.slice ca lc cc,.int .u64 laid] 29))):=hid (br.alloc (Nat.le_refl _) _);generalize (w.alloc (.cells #[.int .i64 seg,.slice wa lw wc,.slice ka n kc,.slice va lv vc,.slice ca lc cc,.int .u64 laid] 29))=w1 at *;have Q1:=hid (fun q=>Calls.quiet_of_same ((F1.out (w1.drewN q)).mono fun _ _ h=>⟨h.1,h.2.symm⟩));have Q2:=hid (fun q=>Calls.quiet_of_same ((O1.out (w1.drewN q) (HW.out.below (below_drewN HB0.out q))).mono fun _ _ h=>⟨h.1,h.2.symm⟩));go_quiet (first|exact Q1.out _|exact Q2.out _)
     go_wp2
     go_ret
     exact ⟨rfl,below_drewN HB0.out _⟩
    | false=>
     rw [hwm] at O1;clear hh hwm c2;generalize ws.length=lw at *;generalize ks.length=n at *;generalize vs.length=lv at *;generalize cs.length=lc at *;clear hw hu;go_enter Tryz.func103,Tryz.ntmps103
     go_wp2
     have d0:(w.alloc (.cells #[.int .i64 seg,.slice wa lw wc,.slice ka n kc,.slice va lv vc,.slice ca lc cc,.int .u64 laid] 29)).cell? ⟨w.heap.size,0,none⟩=some (.int .i64 seg):=xcw;have d1:(w.alloc (.cells #[.int .i64 seg,.slice wa lw wc,.slice ka n kc,.slice va lv vc,.slice ca lc cc,.int .u64 laid] 29)).cell? ⟨w.heap.size,1,none⟩=some (.slice wa lw wc):=xcw;have d3:(w.alloc (.cells #[.int .i64 seg,.slice wa lw wc,.slice ka n kc,.slice va lv vc,.slice ca lc cc,.int .u64 laid] 29)).cell? ⟨w.heap.size,3,none⟩=some (.slice va lv vc):=xcw;have d4:(w.alloc (.cells #[.int .i64 seg,.slice wa lw wc,.slice ka n kc,.slice va lv vc,.slice ca lc cc,.int .u64 laid] 29)).cell? ⟨w.heap.size,4,none⟩=some (.slice ca lc cc):=xcw;have HB0:Hid (Below w.heap.size w (w.alloc (.cells #[.int .i64 seg,.slice wa lw wc,.slice ka n kc,.slice va lv vc,.slice ca lc cc,.int .u64 laid] 29))):=hid (br.alloc (Nat.le_refl _) _);generalize (w.alloc (.cells #[.int .i64 seg,.slice wa lw wc,.slice ka n kc,.slice va lv vc,.slice ca lc cc,.int .u64 laid] 29))=w1 at *;have Q1:=hid (fun q=>Calls.quiet_of_same ((F1.out (w1.drewN q)).mono fun _ _ h=>⟨h.1,h.2.symm⟩));have Q2:=hid (fun q=>Calls.quiet_of_same ((O1.out (w1.drewN q) (HW.out.below (below_drewN HB0.out q))).mono fun _ _ h=>⟨h.1,h.2.symm⟩));go_quiet (first|exact Q1.out _|exact Q2.out _)
     go_wp2
     go_ret
     exact ⟨rfl,below_drewN HB0.out _⟩
  · have hv1:((vs.length:Int) != (ks.length:Int))=true:=by simp;omega
    clear hh c2;generalize ws.length=lw at *;generalize ks.length=n at *;generalize vs.length=lv at *;generalize cs.length=lc at *;clear hw hu;go_enter Tryz.func103,Tryz.ntmps103
    go_wp2
    have d0:(w.alloc (.cells #[.int .i64 seg,.slice wa lw wc,.slice ka n kc,.slice va lv vc,.slice ca lc cc,.int .u64 laid] 29)).cell? ⟨w.heap.size,0,none⟩=some (.int .i64 seg):=xcw;have d1:(w.alloc (.cells #[.int .i64 seg,.slice wa lw wc,.slice ka n kc,.slice va lv vc,.slice ca lc cc,.int .u64 laid] 29)).cell? ⟨w.heap.size,1,none⟩=some (.slice wa lw wc):=xcw;have d3:(w.alloc (.cells #[.int .i64 seg,.slice wa lw wc,.slice ka n kc,.slice va lv vc,.slice ca lc cc,.int .u64 laid] 29)).cell? ⟨w.heap.size,3,none⟩=some (.slice va lv vc):=xcw;have d4:(w.alloc (.cells #[.int .i64 seg,.slice wa lw wc,.slice ka n kc,.slice va lv vc,.slice ca lc cc,.int .u64 laid] 29)).cell? ⟨w.heap.size,4,none⟩=some (.slice ca lc cc):=xcw;have HB0:Hid (Below w.heap.size w (w.alloc (.cells #[.int .i64 seg,.slice wa lw wc,.slice ka n kc,.slice va lv vc,.slice ca lc cc,.int .u64 laid] 29))):=hid (br.alloc (Nat.le_refl _) _);generalize (w.alloc (.cells #[.int .i64 seg,.slice wa lw wc,.slice ka n kc,.slice va lv vc,.slice ca lc cc,.int .u64 laid] 29))=w1 at *;have Q1:=hid (fun q=>Calls.quiet_of_same ((F1.out (w1.drewN q)).mono fun _ _ h=>⟨h.1,h.2.symm⟩));go_quiet (exact Q1.out _)
    go_wp2
    go_ret
    exact ⟨rfl,below_drewN HB0.out _⟩
theorem May04_ok (c:SlC) (a:SlA) (hl:c.ws.length≤9223372036854775807) (hl2:c.ks.length≤1000000000000) (w:World) (hin:SlIn w c a):
    Calls Tryz.prog 103 #[slV c a] w (AnsB w (.bool (slMay c))):=by
 cases hh:slHead c with
 | true=>exact slMay_in c a hh w hin
 | false=>exact slMay_bad c a hh hl hl2 w hin
def risAt (l:List (Int×Int)) (i:Nat):Bool:=i==0||decide ((l.getD (i-1) (0,0)).1<(l.getD i (0,0)).1)
def risB (l:List (Int×Int)):Bool:=(List.range l.length).all (risAt l)
def seekE (c:SlC):Int:=if slMay c=true then (if risB (prs c 0 c.ks.length)=true then 0 else 130) else 8
theorem pr_get {l:List (Int×Int)} {W:World} {a:Option Addr} (h:IsRow .i64 W a (prI l)) {i:Nat} (hi:i<l.length):
    ∃b off,a=some ⟨b,off,none⟩∧W.cell? ⟨b,off+i*2,none⟩=some (.int .i64 (l.getD i (0,0)).1)∧W.cell? ⟨b,off+i*2+1,none⟩=some (.int .i64 (l.getD i (0,0)).2)∧b<W.heap.size:=by
 obtain ⟨g1,g2⟩:=prI_get hi;obtain ⟨b,off,x,y,e,hx,hy,c1,c2,hb⟩:=h.get2 (i:=i) (by rw [prI_length];omega);rw [←hx.out,g1] at c1;rw [←hy.out,g2] at c2;exact ⟨b,off,e,c1,c2,hb⟩
theorem seekCheck_ok (c:SlC) (a:SlA) (hl:c.ws.length≤9223372036854775807) (hl2:c.ks.length≤1000000000000) (w:World) (hin:SlIn w c a):
    Calls Tryz.prog 65 #[slV c a] w (AnsB w (.int .i64 (seekE c))):=by
 have PR:=hid (fun W (hb:Below w.heap.size w W)=>Pairs_ok c a hl hl2 0 c.ks.length W (hin.below hb));by_cases hm:slMay c=true
 · have he :partE c 0 c.ks.length=0:=by rw [partE,if_pos hm,if_pos xo]
   have hr:prsR c 0 c.ks.length=prs c 0 c.ks.length:=if_pos he;have hv:seekE c=if risB (prs c 0 c.ks.length)=true then 0 else 130:=if_pos hm
   rw [he,hr] at PR;have hlen:(prs c 0 c.ks.length).length≤65536:=by
    obtain ⟨S,M,-,-,-,hnk,-,-,-,hSM,-⟩:=slHead_facts (slMay_head hm);rw [prs_length];have:=cntW_le c.ws 0 c.ks.length;omega
   obtain ⟨R,hR⟩:∃R,seekE c=R:=⟨_,rfl⟩
   have HR:=hid (hR.symm.trans hv);rw [hR];generalize prs c 0 c.ks.length=L at *;obtain ⟨seg,ws,ks,vs,cs,laid⟩:=c;obtain ⟨wa,ka,va,ca,wc,kc,vc,cc⟩:=a;dsimp only [slV] at *;clear hin hm he hr hv hR hl hl2;go_enter Tryz.func65,Tryz.ntmps65
   go_wp2_with fail
   refine (PR.out _ (br.alloc (Nat.le_refl _) _)).mono ?_;rintro e w1 ⟨vl,rfl,hol,hb1⟩;have hz_w1:=hb1.size;try simp only [World.size_alloc,World.size_setCell] at hz_w1
   have c_t0:w1.cell? ⟨w.heap.size,0,none⟩=some (.int .i64 seg):=xjt hb1 xlt xcn;have c_t1:w1.cell? ⟨w.heap.size,1,none⟩=some (.slice wa ws.length wc):=xjt hb1 xlt xcn;have c_t2:w1.cell? ⟨w.heap.size,2,none⟩=some (.slice ka ks.length kc):=xjt hb1 xlt xcn;have c_t3:w1.cell? ⟨w.heap.size,3,none⟩=some (.slice va vs.length vc):=xjt hb1 xlt xcn;have c_t4:w1.cell? ⟨w.heap.size,4,none⟩=some (.slice ca cs.length cc):=xjt hb1 xlt xcn;have c_t5:w1.cell? ⟨w.heap.size,5,none⟩=some (.int .u64 laid):=xjt hb1 xlt xcn;have z_t:w.heap.size<w1.heap.size:=xo;have hB1:Below w.heap.size w w1:=xbel;obtain ⟨la,lc,rfl,hil,-,-,-,-⟩:=row_of_owns hol;have HRL:=hid hil;have HB1:=hid hB1;obtain ⟨m,hmm⟩:∃m,L.length=m:=⟨_,rfl⟩
   rw [hmm] at hlen ⊢;have HML:=hid hmm;clear hb1 hB1 hol hil hmm;go_wp2
   go_loopg [20] m (fun gk iv wr=>∃k:Nat,k+gk=m∧iv= .int .i64 k∧Hid (Below w.heap.size w wr)∧Hid (Below w1.heap.size w1 wr)∧Hid (∀j,j<k→risAt L j=true))
   case atStart=>exact ⟨0,by omega,rfl,HB1,hid br,hid (fun j h=>by omega)⟩
   case round=>
    obtain ⟨k,hk,rfl,HB,HBL,HA⟩:=hrel;have hz:=HB.out.size;by_cases hlt:k<m
    · obtain ⟨bl,ol,rfl,c0,c1,zl⟩:=pr_get (HRL.out.below HBL.out) (i:=k) (by rw [HML.out];exact hlt);have hra:risAt L k=(k==0||decide ((L.getD (k-1) (0,0)).1<(L.getD k (0,0)).1)):=rfl;have HK2:=hid hk;have hz1:=HBL.out.size;by_cases hk0:k=0
      · subst hk0;generalize (L.getD 0 (0,0)).1=x at *;generalize (L.getD 0 (0,0)).2=y at *;have HRA:=hid hra;have g0:decide ((0:Int)>0)=false:=rfl;simp only [Nat.zero_mul,Nat.add_zero] at c0 c1;clear hra;go_wp2
        have p0:(wr.alloc (.cells #[.int .i64 x,.int .i64 y] 52)).cell? ⟨wr.heap.size,0,none⟩=some (.int .i64 x):=xcw;go_quiet (fail)
        go_wp2
        go_roundg (gk-1)
        case measure=>have:=HK2.out;omega
        case rel=>
         refine ⟨1,by have:=HK2.out;omega,rfl,hid (below_drewN (HB.out.alloc hz _) _),hid (below_drewN (HBL.out.alloc hz1 _) _),hid (fun j hj=> ?_)⟩;rw [show j=0 by omega];rfl
      · obtain ⟨q,rfl⟩:∃q,k=q+1:=⟨k-1,by omega⟩
        obtain ⟨bl',ol',hbe,e0,e1,-⟩:=pr_get (HRL.out.below HBL.out) (i:=q) (by rw [HML.out];omega);cases hbe;rw [Nat.add_sub_cancel] at hra;generalize (L.getD (q+1) (0,0)).1=x at *;generalize (L.getD (q+1) (0,0)).2=y at *;generalize (L.getD q (0,0)).1=z at *;have g0:decide ((q:Int)+1>0)=true:=by simp<;>omega
        have hqI:((q+1:Nat):Int)=(q:Int)+1:=xo;by_cases hxz:z<x
        · have HRA:=hid hra;have g1:decide (x≤z)=false:=by simp;omega
          clear hra;go_wp2
          have p0:(wr.alloc (.cells #[.int .i64 x,.int .i64 y] 52)).cell? ⟨wr.heap.size,0,none⟩=some (.int .i64 x):=xcw;replace e0:=(((Below.refl _ wr).alloc (Nat.le_refl _) (.cells #[.int .i64 x,.int .i64 y] 52)).cell (World.block_lt_of_cell? _ _ e0)).trans e0;go_quiet (fail)
          go_wp2
          go_roundg (gk-1)
          case measure=>have:=HK2.out;omega
          case rel=>
           refine ⟨q+2,by have:=HK2.out;omega,by go_num,hid (below_drewN (HB.out.alloc hz _) _),hid (below_drewN (HBL.out.alloc hz1 _) _),hid (fun j hj=> ?_)⟩;by_cases e:j=q+1
           · rw [e,HRA.out];simp [hxz]
           · exact HA.out j xo
        · have hR:R=130:=by
            rw [HR.out,if_neg];intro h;have:=all_upto.1 h (q+1) (by rw [HML.out];exact hlt);rw [hra] at this;simp [hxz] at this
          subst hR;have g1:decide (x≤z)=true:=by simp;omega
          clear hra;go_wp2
          have p0:(wr.alloc (.cells #[.int .i64 x,.int .i64 y] 52)).cell? ⟨wr.heap.size,0,none⟩=some (.int .i64 x):=xcw;replace e0:=(((Below.refl _ wr).alloc (Nat.le_refl _) (.cells #[.int .i64 x,.int .i64 y] 52)).cell (World.block_lt_of_cell? _ _ e0)).trans e0;go_quiet (fail)
          go_wp2
          go_ret
          exact ⟨rfl,below_drewN (HB.out.alloc hz _) _⟩
    · have hR:R=0:=by
        rw [HR.out,if_pos (show risB L=true from all_upto.2 (fun j hj=>HA.out j (by have:=HML.out;omega)))]
      subst hR;go_wp2
      go_ret
      exact ⟨rfl,HB.out⟩
 · have he:partE c 0 c.ks.length=8:=if_neg hm;have hv:seekE c=8:=if_neg hm;rw [he] at PR;rw [hv];obtain ⟨seg,ws,ks,vs,cs,laid⟩:=c;obtain ⟨wa,ka,va,ca,wc,kc,vc,cc⟩:=a;dsimp only [slV] at *;clear hin hm he hv hl hl2;go_enter Tryz.func65,Tryz.ntmps65
   go_wp2_with fail
   refine (PR.out _ (br.alloc (Nat.le_refl _) _)).mono ?_;rintro e w1 ⟨vl,rfl,hol,hb1⟩;have hz_w1:=hb1.size;try simp only [World.size_alloc,World.size_setCell] at hz_w1
   have hB1:Below w.heap.size w w1:=xbel;go_wp2
   go_ret
   exact ⟨rfl,hB1⟩
def leafT (c:SlC) (k:Nat):Int×Int:=
  if prs c (k*c.seg.toNat) ((k+1)*c.seg.toNat)=[] then (0,0)
  else (((prs c (k*c.seg.toNat) ((k+1)*c.seg.toNat)).getD ((prs c (k*c.seg.toNat) ((k+1)*c.seg.toNat)).length-1) (0,0)).1,((prs c (k*c.seg.toNat) ((k+1)*c.seg.toNat)).length:Nat))
def abvT (a b:Int×Int):Int×Int:=(abM a.1 b.1 b.2,abC a.2 b.2)
def trH (c:SlC) (M:Nat):Nat→Nat→Int×Int
  | 0,n=>leafT c (n-M)
  | d+1,n=>abvT (trH c M d (2*n)) (trH c M d (2*n+1))
def trN (c:SlC) (D n:Nat):Int×Int:=trH c (2^D) (D-n.log2) n
theorem leafT_bd (c:SlC) (k:Nat):0≤(leafT c k).2∧(leafT c k).2≤(c.seg.toNat:Nat):=by
 unfold leafT;split
 · exact ⟨Int.le_refl _,by omega⟩
 · simp only [prs_length];have:=cntW_le c.ws (k*c.seg.toNat) ((k+1)*c.seg.toNat);have e:(k+1)*c.seg.toNat=k*c.seg.toNat+c.seg.toNat:=by rw [Nat.add_mul,Nat.one_mul]
   omega
theorem abC_bd {a b x y:Int} (h1:0≤a) (h2:a≤x) (h3:0≤b) (h4:b≤y):0≤abC a b∧abC a b≤x+y:=by unfold abC;split<;>omega
theorem trH_bd (c:SlC) (M:Nat):∀d n,0≤(trH c M d n).2∧(trH c M d n).2≤((c.seg.toNat* 2^d:Nat):Int):=by
 intro d;induction d with
 | zero=>
  intro n;rw [Nat.pow_zero,Nat.mul_one];exact leafT_bd c (n-M)
 | succ d ih=>
  intro n;have h1:=ih (2*n);have h2:=ih (2*n+1);have:=abC_bd h1.1 h1.2 h2.1 h2.2;rw [trH,abvT];refine ⟨this.1,Int.le_trans this.2 ?_⟩;have e:c.seg.toNat* 2^(d+1)=c.seg.toNat* 2^d+c.seg.toNat* 2^d:=by rw [Nat.pow_succ,←Nat.mul_assoc];omega
  rw [e];push_cast
  omega
theorem trN_bd (c:SlC) (D n:Nat):0≤(trN c D n).2∧(trN c D n).2≤((c.seg.toNat* 2^D:Nat):Int):=by
 have h:=trH_bd c (2^D) (D-n.log2) n;have h2:c.seg.toNat* 2^(D-n.log2)≤c.seg.toNat* 2^D:=Nat.mul_le_mul_left _ (Nat.pow_le_pow_right xo xo);unfold trN;omega
theorem trN_leaf {c:SlC} {D n:Nat} (h:2^D≤n):trN c D n=leafT c (n-2^D):=by
 have hp:=Nat.two_pow_pos D;have:D≤n.log2:=(Nat.le_log2 xo).2 h;rw [trN,show D-n.log2=0 by omega,trH]
theorem trN_node {c:SlC} {D n:Nat} (h1:1≤n) (h:n<2^D):trN c D n=abvT (trN c D (2*n)) (trN c D (2*n+1)):=by
 have hl:n.log2<D:=(Nat.log2_lt xo).2 h;have e1:(2*n).log2=n.log2+1:=by rw [log2_two xo];congr 2;omega
 have e2:(2*n+1).log2=n.log2+1:=by rw [log2_two xo];congr 2;omega
 rw [trN,trN,trN,e1,e2,show D-n.log2=D-(n.log2+1)+1 by omega,trH]
def bltF (L:Nat) (f:Nat→Int) (p:Nat→Bool):List Int:=(lay L 1).map fun n=>if p n then f n else 0
theorem bltF_length {L:Nat} (h:1≤L) (f:Nat→Int) (p:Nat→Bool):(bltF L f p).length=2^L-1:=by rw [bltF,List.length_map,lay_len 1 h]
theorem bltF_none (L:Nat) (h:1≤L) (f:Nat→Int) {p:Nat→Bool} (hp:∀n,1≤n→n<2^L→p n=false):bltF L f p=List.replicate (2^L-1) 0:=by
 refine List.ext_getElem (by rw [bltF_length h,List.length_replicate]) fun i h1 h2=> ?_
 rw [bltF_length h] at h1;have hi:=lay_in h h1;simp only [bltF,List.getElem_map,List.getElem_replicate];have e:(lay L 1)[i]'(by rw [lay_len 1 h];exact h1)=(lay L 1).getD i 0:=by simp [List.getD_eq_getElem?_getD,lay_len 1 h,h1]
 rw [e,hp _ hi.1 xo];rfl
theorem bltF_set {L:Nat} (h:1≤L) (f:Nat→Int) {p q:Nat→Bool} {n:Nat} (h1:1≤n) (h2:n<2^L) (hq:q n=true) (hne:∀m,m≠n→q m=p m):(bltF L f p).set (vpos L n) (f n)=bltF L f q:=by
 refine List.ext_getElem (by rw [List.length_set,bltF_length h,bltF_length h]) fun i h3 h4=> ?_
 rw [bltF_length h] at h4;have e:(lay L 1)[i]'(by rw [lay_len 1 h];exact h4)=(lay L 1).getD i 0:=by simp [List.getD_eq_getElem?_getD,lay_len 1 h,h4]
 rw [List.getElem_set];by_cases hi:vpos L n=i
 · rw [if_pos hi];simp only [bltF,List.getElem_map];rw [e,←hi,(vpos_lay h h1 h2).2,hq];rfl
 · rw [if_neg hi];simp only [bltF,List.getElem_map];rw [e,hne];intro hx;exact hi (by rw [←hx];exact lay_vpos h h4)
theorem bltF_all (L:Nat) (h:1≤L) (f:Nat→Int) {p:Nat→Bool} (hp:∀n,1≤n→n<2^L→p n=true):bltF L f p=(lay L 1).map f:=by
 refine List.map_congr_left fun n hn=> ?_
 obtain ⟨i,hi,rfl⟩:=List.getElem_of_mem hn;have hi2:i<2^L-1:=by rw [lay_len 1 h] at hi;exact hi
 have e:(lay L 1)[i]=(lay L 1).getD i 0:=by simp [List.getD_eq_getElem?_getD,hi]
 have:=lay_in h hi2;rw [e,hp _ this.1 xo];rfl
theorem bltF_get {L:Nat} (h:1≤L) (f:Nat→Int) (p:Nat→Bool) {n:Nat} (h1:1≤n) (h2:n<2^L):(bltF L f p).getD (vpos L n) 0=if p n then f n else 0:=by
 obtain ⟨a,b⟩:=vpos_lay h h1 h2;rw [bltF,List.getD_eq_getElem?_getD,List.getElem?_map,List.getElem?_eq_getElem (by rw [lay_len 1 h];exact a)];have e:(lay L 1)[vpos L n]'(by rw [lay_len 1 h];exact a)=n:=by
  refine Eq.trans ?_ b;simp [List.getD_eq_getElem?_getD,lay_len 1 h,a]
 simp [e]
def bLev (c:SlC):Nat:=c.cs.length.log2+1
def bMax (c:SlC):List Int:=(lay (bLev c) 1).map fun n=>(trN c c.cs.length.log2 n).1
def bCnt (c:SlC):List Int:=(lay (bLev c) 1).map fun n=>(trN c c.cs.length.log2 n).2
def bldE (c:SlC):Int:=if seekE c=0 then (if 8192<c.cs.length then 4 else 0) else seekE c
def bldL (c:SlC):Int:=if bldE c=0 then (bLev c:Int) else 0
def bldM (c:SlC):List Int:=if bldE c=0 then bMax c else []
def bldC (c:SlC):List Int:=if bldE c=0 then bCnt c else []
theorem seekE_may {c:SlC} (h:seekE c=0):slMay c=true:=by
 unfold seekE at h;split at h
 · assumption
 · cases h
theorem bldE_seek {c:SlC} (h:bldE c=0):seekE c=0∧c.cs.length≤8192:=by
 unfold bldE at h;split at h
 · rename_i h0
   split at h
   · cases h
   · exact ⟨h0,by omega⟩
 · exact absurd h (by assumption)
theorem bld_facts {c:SlC} (h:slMay c=true) (h2:c.cs.length≤8192):∃S D M:Nat,c.seg=S∧c.seg.toNat=S∧4≤S∧S≤64∧c.cs.length=M∧M.log2=D∧2^D=M∧D≤13∧S*M≤65536∧c.ks.length=S*M∧c.vs.length=S*M∧S*M≤64*c.ws.length∧c.ws.length≤1024:=by
 obtain ⟨S,M,hS,hS4,hS64,hnk,hnv,hnc,hM1,hSM,-,hnw,-,hpm,-⟩:=slHead_facts (slMay_head h);have hD:=(pwB_iff (by omega:0<M)).1 hpm;refine ⟨S,M.log2,M,hS,by omega,hS4,hS64,hnc,rfl,hD,?_,hSM,hnk,hnv,by omega,by omega⟩;have:M.log2<14:=(Nat.log2_lt xo).2 xo;omega
section
variable {f g:Nat→Int}
def lvs (f g:Nat→Int):Nat→Nat→List (Int×Int)
  | 0,n=>[(f n,g n)]
  | d+1,n=>lvs f g d (2*n)++lvs f g d (2*n+1)
theorem lvs_length:∀d n,(lvs f g d n).length=2^d:=by
 intro d;induction d with
 | zero=>intro n;rfl
 | succ d ih=>intro n;rw [lvs,List.length_append,ih,ih,Nat.pow_succ];omega
theorem lvs_get:∀d n i,i<2^d→(lvs f g d n)[i]? =some (f (n*2^d+i),g (n*2^d+i)):=by
 intro d;induction d with
 | zero=>
  intro n i hi;have:i=0:=by simp at hi;exact hi
  subst this;simp [lvs]
 | succ d ih=>
  intro n i hi;rw [Nat.pow_succ] at hi;rw [lvs];by_cases h:i<2^d
  · rw [List.getElem?_append_left (by rw [lvs_length];exact h),ih _ _ h];rw [show n*2^(d+1)+i=2*n*2^d+i by rw [Nat.pow_succ,Nat.mul_comm 2 n,Nat.mul_assoc,Nat.mul_comm 2]]
  · rw [List.getElem?_append_right (by rw [lvs_length];omega),lvs_length,ih _ _ xo];rw [show n*2^(d+1)+i=(2*n+1)*2^d+(i-2^d) by rw [Nat.pow_succ,Nat.add_mul,Nat.mul_comm 2 n,Nat.mul_assoc,Nat.mul_comm 2];omega]
def Good (f g:Nat→Int):Nat→Nat→Prop
  | 0,n=>ownB (f n) (g n)=true
  | d+1,n=>ownB (f n) (g n)=true∧joinR (f n) (g n) (f (2*n)) (g (2*n)) (f (2*n+1)) (g (2*n+1))=true∧Good f g d (2*n)∧Good f g d (2*n+1)
theorem Good.own:∀ {d n},Good f g d n→ownB (f n) (g n)=true
  | 0,_,h=>h
  | _+1,_,h=>h.1
def cntL (l:List (Int×Int)):Int:=(l.map (·.2)).sum
theorem cntL_append (a b:List (Int×Int)):cntL (a++b)=cntL a+cntL b:=by simp [cntL]
theorem cntL_cons (p:Int×Int) (b:List (Int×Int)):cntL (p::b)=p.2+cntL b:=by simp [cntL]
theorem own_facts {m c:Int} (h:ownB m c=true):0≤c∧c≤65536∧(c=0→m=0):=by
 simp only [ownB,Bool.and_eq_true,Bool.or_eq_true,decide_eq_true_eq] at h;omega
theorem join_facts {m c am ac bm bc:Int} (h:joinR m c am ac bm bc=true):c=ac+bc∧(0<bc→m=bm)∧(¬0<bc→m=am)∧(0<ac→0<bc→am<bm):=by
 simp only [joinR,Bool.and_eq_true,Bool.or_eq_true,decide_eq_true_eq] at h;obtain ⟨⟨⟨⟨⟨h1,h2⟩,h3⟩,h4⟩,h5,h6⟩,h7⟩:=h;unfold abM at h5;refine ⟨by omega,fun hb=>by rw [if_pos hb] at h5;exact h5,fun hb=>by rw [if_neg hb] at h5;exact h5,fun ha hb=>by rcases h7 with (h7|h7)|h7<;>omega⟩
theorem Good.cnt:∀ {d n},Good f g d n→cntL (lvs f g d n)=g n:=by
 intro d;induction d with
 | zero=>intro n _;simp [lvs,cntL]
 | succ d ih=>
  intro n h;obtain ⟨h1,h2,h3,h4⟩:=h;rw [lvs,cntL_append,ih h3,ih h4,(join_facts h2).1]
theorem Good.nonneg:∀ {d n},Good f g d n→∀p ∈ lvs f g d n,0≤p.2:=by
 intro d;induction d with
 | zero=>
  intro n h p hp;simp [lvs] at hp;subst hp;exact (own_facts h).1
 | succ d ih=>
  intro n h p hp;rw [lvs,List.mem_append] at hp;exact hp.elim (ih h.2.2.1 p) (ih h.2.2.2 p)
theorem Good.max_le:∀ {d n},Good f g d n→∀p ∈ lvs f g d n,0<p.2→0<g n∧p.1≤f n:=by
 intro d;induction d with
 | zero=>
  intro n h p hp h0;simp [lvs] at hp;subst hp;exact ⟨h0,Int.le_refl _⟩
 | succ d ih=>
  intro n h p hp h0;obtain ⟨h1,h2,h3,h4⟩:=h;obtain ⟨j1,j2,j3,j4⟩:=join_facts h2;have o3:=own_facts h3.own;have o4:=own_facts h4.own;rw [lvs,List.mem_append] at hp;rcases hp with hp|hp
  · obtain ⟨k1,k2⟩:=ih h3 p hp h0;refine ⟨by omega,?_⟩;by_cases hb:0<g (2*n+1)
    · have:=j2 hb;have:=j4 k1 hb;omega
    · have:=j3 hb;omega
  · obtain ⟨k1,k2⟩:=ih h4 p hp h0;exact ⟨by omega,by have:=j2 k1;omega⟩
theorem Good.max_mem:∀ {d n},Good f g d n→0<g n→∃p ∈ lvs f g d n,0<p.2∧p.1=f n:=by
 intro d;induction d with
 | zero=>intro n h h0;exact ⟨(f n,g n),by simp [lvs],h0,rfl⟩
 | succ d ih=>
  intro n h h0;obtain ⟨h1,h2,h3,h4⟩:=h;obtain ⟨j1,j2,j3,j4⟩:=join_facts h2;have o3:=own_facts h3.own;have o4:=own_facts h4.own;by_cases hb:0<g (2*n+1)
  · obtain ⟨p,hp,q1,q2⟩:=ih h4 hb;exact ⟨p,by rw [lvs,List.mem_append];exact .inr hp,q1,by rw [q2,j2 hb]⟩
  · obtain ⟨p,hp,q1,q2⟩:=ih h3 xo;exact ⟨p,by rw [lvs,List.mem_append];exact .inl hp,q1,by rw [q2,j3 hb]⟩
def srv (key m c:Int):Prop:=0<c∧key≤m
instance (key m c:Int):Decidable (srv key m c):=by unfold srv;infer_instance
theorem Good.srv_iff {d n:Nat} (h:Good f g d n) (key:Int):srv key (f n) (g n)↔∃p ∈ lvs f g d n,srv key p.1 p.2:=by
 constructor
 · rintro ⟨h1,h2⟩;obtain ⟨p,hp,q1,q2⟩:=h.max_mem h1;exact ⟨p,hp,q1,by rw [q2];exact h2⟩
 · rintro ⟨p,hp,q1,q2⟩;obtain ⟨k1,k2⟩:=h.max_le p hp q1;exact ⟨k1,by omega⟩
def homeL (key:Int):List (Int×Int)→Int→Int→Int×Int×Int
  | [],_,_=>(0,0,6)
  | p::r,i,s=>if srv key p.1 p.2 then (i,s,0) else homeL key r (i+1) (s+p.2)
theorem homeL_none {key:Int}:∀(a b:List (Int×Int)) (i s:Int),(∀p ∈ a,¬srv key p.1 p.2)→homeL key (a++b) i s=homeL key b (i+a.length) (s+cntL a):=by
 intro a;induction a with
 | nil=>intro b i s _;simp [cntL]
 | cons p r ih=>
  intro b i s h;rw [List.cons_append,homeL,if_neg (h p xsi),ih _ _ _ (fun q hq=>h q (by simp [hq])),cntL_cons];congr 1
  · simp;omega
  · omega
theorem homeL_some {key:Int}:∀(a b:List (Int×Int)) (i s:Int),(∃p ∈ a,srv key p.1 p.2)→homeL key (a++b) i s=homeL key a i s:=by
 intro a;induction a with
 | nil=>intro b i s h;obtain ⟨p,hp,_⟩:=h;cases hp
 | cons p r ih=>
  intro b i s h;rw [List.cons_append,homeL,homeL];by_cases hp:srv key p.1 p.2
  · rw [if_pos hp,if_pos hp]
  · rw [if_neg hp,if_neg hp];refine ih _ _ _ ?_;obtain ⟨q,hq,hs⟩:=h;rcases List.mem_cons.1 hq with rfl|hq
    · exact absurd hs hp
    · exact ⟨q,hq,hs⟩
theorem Good.home_step {d n:Nat} (h:Good f g (d+1) n) (key:Int) (hs:srv key (f n) (g n)) (i s:Int):
    if srv key (f (2*n)) (g (2*n)) then homeL key (lvs f g (d+1) n) i s=homeL key (lvs f g d (2*n)) i s
    else srv key (f (2*n+1)) (g (2*n+1))∧homeL key (lvs f g (d+1) n) i s=homeL key (lvs f g d (2*n+1)) (i+((2^d:Nat):Int)) (s+g (2*n)):=by
 obtain ⟨h1,h2,h3,h4⟩:=h;obtain ⟨j1,j2,j3,j4⟩:=join_facts h2;have o3:=own_facts h3.own;have o4:=own_facts h4.own;split
 · rename_i hl
   rw [lvs,homeL_some _ _ _ _ ((h3.srv_iff key).1 hl)]
 · rename_i hl
   refine ⟨?_,?_⟩
   · obtain ⟨k1,k2⟩:=hs;by_cases hb:0<g (2*n+1)
     · exact ⟨hb,by have:=j2 hb;omega⟩
     · exact absurd ⟨by omega,by have:=j3 hb;omega⟩ hl
   · rw [lvs,homeL_none _ _ _ _ (fun p hp hq=>hl ((h3.srv_iff key).2 ⟨p,hp,hq⟩)),lvs_length,h3.cnt]
def nthL:List (Int×Int)→Int→Int→Int×Int×Int
  | [],_,_=>(0,0,290)
  | p::r,i,k=>if k<p.2 then (i,k,0) else nthL r (i+1) (k-p.2)
theorem nthL_past:∀(a b:List (Int×Int)) (i k:Int),(∀p ∈ a,0≤p.2)→cntL a≤k→nthL (a++b) i k=nthL b (i+a.length) (k-cntL a):=by
 intro a;induction a with
 | nil=>intro b i k _ _;simp [cntL]
 | cons p r ih=>
  intro b i k h hk;rw [cntL_cons] at hk;have hr:0≤cntL r:=by
   have:∀l:List (Int×Int),(∀p ∈ l,0≤p.2)→0≤cntL l:=by
    intro l;induction l with
    | nil=>intro _;simp [cntL]
    | cons q t iht=>intro hq;rw [cntL_cons];have:=hq q xsi;have:=iht fun x hx=>hq x (by simp [hx]);omega
   exact this r fun q hq=>h q (by simp [hq])
  rw [List.cons_append,nthL,if_neg xo,ih _ _ _ (fun q hq=>h q (by simp [hq])) xo,cntL_cons];congr 1
  · simp;omega
  · omega
theorem nthL_in:∀(a b:List (Int×Int)) (i k:Int),0≤k→k<cntL a→nthL (a++b) i k=nthL a i k:=by
 intro a;induction a with
 | nil=>intro b i k h0 h;simp [cntL] at h;omega
 | cons p r ih=>
  intro b i k h0 h;rw [cntL_cons] at h;rw [List.cons_append,nthL,nthL];by_cases hp:k<p.2
  · rw [if_pos hp,if_pos hp]
  · rw [if_neg hp,if_neg hp];exact ih _ _ _ xo xo
end
theorem good_at {L:Nat} {ms cs:List Int} (h:allFrom (ndB L ms cs) 1 (2^L-1)=true):∀d n,d<L→2^(L-1-d)≤n→n<2^(L-d)→Good (tlF L ms) (tlF L cs) d n:=by
 rw [allFrom_iff] at h;intro d;induction d with
 | zero=>
  intro n hd h1 h2;have hp:=Nat.two_pow_pos (L-1-0);have:=h n xo (by rw [Nat.sub_zero] at h2;omega);unfold ndB at this;rw [Bool.and_eq_true] at this;exact this.1
 | succ d ih=>
  intro n hd h1 h2;have hp:=Nat.two_pow_pos (L-1-(d+1));have e1:2^(L-1-d)=2*2^(L-1-(d+1)):=by rw [show L-1-d=L-1-(d+1)+1 by omega,Nat.pow_succ];omega
  have e2:2^(L-d)=2*2^(L-(d+1)):=by rw [show L-d=L-(d+1)+1 by omega,Nat.pow_succ];omega
  have e3:2^(L-d)≤2^L:=Nat.pow_le_pow_right xo xo;have hn:=h n xo xo;unfold ndB at hn;rw [Bool.and_eq_true,decide_eq_false (by omega:¬2^L-1<2*n),Bool.false_or] at hn;exact ⟨hn.1,hn.2,ih (2*n) xo xo xo,ih (2*n+1) xo xo xo⟩
theorem good_root {L:Nat} {ms cs:List Int} (hL:1≤L) (h:allFrom (ndB L ms cs) 1 (2^L-1)=true):Good (tlF L ms) (tlF L cs) (L-1) 1:=by
 refine good_at h (L-1) 1 xo (by rw [Nat.sub_self];exact Nat.le_refl _) ?_;rw [show L-(L-1)=1 by omega];decide
theorem pos_zero:∀m L,L≤m→pos L 0 0=0:=by
 intro m;induction m with
 | zero=>
  intro L h;rw [pos];simp [show L≤1 by omega]
 | succ m ih=>
  intro L h;by_cases h1:2≤L
  · rw [pos_up 0 h1 xo];exact ih _ xo
  · rw [pos];simp [show L≤1 by omega]
theorem lvs_take {f g:Nat→Int} {D d m:Nat} (hd:d≤D) (h1:2^D≤m*2^d) (h2:(m+1)*2^d≤2*2^D):
    (lvs f g D 1).take (m*2^d-2^D+2^d)=(lvs f g D 1).take (m*2^d-2^D)++lvs f g d m:=by
 rw [Nat.add_mul,Nat.one_mul] at h2;obtain ⟨P,hP⟩:∃P,m*2^d=P:=⟨_,rfl⟩
 rw [hP] at h1 h2 ⊢;have p1:=Nat.two_pow_pos d;have p2:=Nat.two_pow_pos D;generalize hQ:2^D=Q at h1 h2 p2 ⊢;generalize hR:2^d=R at h2 p1 ⊢;have e:((lvs f g D 1).take (P-Q)).length=P-Q:=by
  rw [List.length_take,lvs_length,hQ];omega
 refine List.ext_getElem? fun k=> ?_
 by_cases hk:k<P-Q
 · rw [List.getElem?_take,if_pos xo,List.getElem?_append_left (by rw [e];exact hk),List.getElem?_take,if_pos hk]
 · rw [List.getElem?_append_right (by rw [e];omega),e];by_cases hk2:k<P-Q+R
   · rw [List.getElem?_take,if_pos hk2,lvs_get _ _ _ (by rw [hQ];omega),lvs_get _ _ _ (by rw [hR];omega),hP,hQ];rw [show 1*Q+k=P+(k-(P-Q)) by omega]
   · rw [List.getElem?_take,if_neg hk2,List.getElem?_eq_none (by rw [lvs_length,hR];omega)]
theorem Good.ahead {f g:Nat→Int} {D d m:Nat} (h:Good f g d m) (hd:d≤D) (h1:2^D≤m*2^d) (h2:(m+1)*2^d≤2*2^D):
    cntL ((lvs f g D 1).take (m*2^d-2^D+2^d))=cntL ((lvs f g D 1).take (m*2^d-2^D))+g m:=by
 rw [lvs_take hd h1 h2,cntL_append,h.cnt]
theorem Good.nth_step {f g:Nat→Int} {d n:Nat} (h:Good f g (d+1) n) (i k:Int) (h0:0≤k) (hk:k<g n):
    if k<g (2*n) then nthL (lvs f g (d+1) n) i k=nthL (lvs f g d (2*n)) i k
    else k-g (2*n)<g (2*n+1)∧nthL (lvs f g (d+1) n) i k=nthL (lvs f g d (2*n+1)) (i+((2^d:Nat):Int)) (k-g (2*n)):=by
 obtain ⟨h1,h2,h3,h4⟩:=h;obtain ⟨j1,-,-,-⟩:=join_facts h2;split
 · rename_i hl
   rw [lvs,nthL_in _ _ _ _ h0 (by rw [h3.cnt];exact hl)]
 · rename_i hl
   refine ⟨by omega,?_⟩;rw [lvs,nthL_past _ _ _ _ h3.nonneg (by rw [h3.cnt];omega),lvs_length,h3.cnt]
theorem homeL_fail {f g:Nat→Int} {d n:Nat} (h:Good f g d n) {key:Int} (hs:¬srv key (f n) (g n)) (i s:Int):homeL key (lvs f g d n) i s=(0,0,6):=by
 have:=homeL_none (key:=key) (lvs f g d n) [] i s (fun p hp hq=>hs ((h.srv_iff key).2 ⟨p,hp,hq⟩));rw [List.append_nil] at this;rw [this];rfl
theorem nthL_fail {f g:Nat→Int} {d n:Nat} (h:Good f g d n) {k:Int} (hk:g n≤k) (i:Int):nthL (lvs f g d n) i k=(0,0,290):=by
 have:=nthL_past (lvs f g d n) [] i k h.nonneg (by rw [h.cnt];exact hk);rw [List.append_nil] at this;rw [this];rfl
end
end Go.Proofs.YtbedhbpgnfffmaaGreat

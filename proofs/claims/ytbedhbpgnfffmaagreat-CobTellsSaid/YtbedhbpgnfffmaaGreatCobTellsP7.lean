/- Merged: VebRef, VebLaid, VebTab, IdxNodes, IdxRead, IdxAll, Ref10. -/
import Derived.Test.YtbedhbpgnfffmaaGreatCobTellsP2
import Derived.Test.YtbedhbpgnfffmaaGreatCobTellsP3
import Derived.Test.YtbedhbpgnfffmaaGreatCobTellsP6
import Derived.Test.YtbedhbpgnfffmaaGreatCobTellsP5
namespace Go.Proofs.YtbedhbpgnfffmaaGreat
set_option maxRecDepth 100000
set_option maxHeartbeats 40000000
set_option linter.unusedVariables false
set_option linter.unusedSimpArgs false
section
open Go.RowKit
theorem lay_pos (L r:Nat) (h:1≤L):0<(ints (lay L r)).length:=by
 rw [ints_length,lay_len r h];have:2^1≤2^L:=Nat.pow_le_pow_right xo h;omega
def layTo (L r k:Nat):List Nat:=lay (L/2) r++(List.range k).flatMap fun i=>lay (L-L/2) (r*2^(L/2)+i)
theorem layTo_succ (L r k:Nat):ints (layTo L r (k+1))=ints (layTo L r k)++ints (lay (L-L/2) (r*2^(L/2)+k)):=by
 rw [←ints_append];simp [layTo,List.range_succ]
theorem layTo_zero (L r:Nat):layTo L r 0=lay (L/2) r:=by simp [layTo]
theorem layTo_all (L r:Nat) (h:2≤L):layTo L r (2^(L/2))=lay L r:=by rw [lay_two h];rfl
theorem layTo_len (L r k:Nat) (h:2≤L) (h14:L≤14) (hk:k≤2^(L/2)):(ints (layTo L r k)).length≤16384:=by
 rw [ints_length,layTo,List.length_append,length_flatMap_const _ (2^(L-L/2)-1) (fun i=>lay_len _ xo),lay_len _ xo];have e:2^L=2^(L/2)*2^(L-L/2):=by rw [←Nat.pow_add];congr 1;omega
 have p1:2^L≤2^14:=Nat.pow_le_pow_right xo h14;have p2:=Nat.two_pow_pos (L-L/2);have p3:k*(2^(L-L/2)-1)≤2^(L/2)*(2^(L-L/2)-1):=Nat.mul_le_mul_right _ hk;have p4:2^(L/2)*(2^(L-L/2)-1)=2^(L/2)*2^(L-L/2)-2^(L/2):=by rw [Nat.mul_sub,Nat.mul_one]
 have:2^(L/2)*1≤2^(L/2)*2^(L-L/2):=Nat.mul_le_mul_left _ p2;omega
theorem kid_bd (L r k:Nat) (h:2≤L) (hk:k<2^(L/2)) (hB:(r+1)*2^L≤1048576):
    (r*2^(L/2)+k+1)*2^(L-L/2)≤1048576:=by
 have e:2^L=2^(L/2)*2^(L-L/2):=by rw [←Nat.pow_add];congr 1;omega
 rw [e,←Nat.mul_assoc] at hB;refine Nat.le_trans (Nat.mul_le_mul_right _ ?_) hB;rw [Nat.add_mul];omega
theorem Laid_ok:∀(m L r:Nat) (l q:Int) (w:World),l=L→q=r→L≤m→1≤L→L≤14→(r+1)*2^L≤1048576→
    Calls Tryz.prog 106 #[.int .i64 l,.int .i64 q] w (FreshInts w (ints (lay L r))):=by
 intro m;induction m with
 | zero=>intro L r l q w _ _ h1 h2;omega
 | succ m ih=>
  intro L r l q w hl hq h1 h2 h3 h4;subst hl hq;have IH:=hid ih;clear ih;by_cases h:L=1
  · subst h;go_enter Tryz.func106,Tryz.ntmps106
    go_wp2
    go_ret
    refine ⟨_,rfl,?_,br.alloc (Nat.le_refl _) _⟩;rw [lay_one];exact World.ownsRow_lit w #[.int .i64 r] 1 (Nat.le_refl _) xdd rfl
  · obtain ⟨i0,hi,hz0,hz1,hz2⟩:=info_parts info_int;have e1:((L:Int)==1)=false:=by simp;omega
    obtain ⟨u,hu⟩:∃u,L/2=u:=⟨_,rfl⟩
    have hu2:(L:Int)/2=(u:Int):=xo;have hul:1≤u∧u≤7∧u<L:=xo;obtain ⟨hb1,hb2⟩:=pow_bd u xo;have hp:(2:Nat)^u≤128:=Nat.le_trans (Nat.pow_le_pow_right xo hul.2.1) xdd;have hrb:(r+1)*2^u≤1048576:=Nat.le_trans (Nat.mul_le_mul_left _ (Nat.pow_le_pow_right xo xo)) h4;have HU:=hid hu;have HU2:=hid hu2;clear hu hu2;go_enter Tryz.func106,Tryz.ntmps106
    go_wp2_with fail
    rw [HU2.out];refine (IH.out u r _ _ _ rfl rfl xo xo xo hrb).mono ?_;rintro e w1 ⟨v1,rfl,ho1,hbel1⟩;go_wp2_with fail
    go_loopg [6,7] (2^u) (fun g v i wr=>∃k:Nat,k+g=2^u∧i= .int .i64 k∧
      wr.ownsRow w.heap.size 3 1 v (ints (layTo L r k)).length ((ints (layTo L r k)).map (Value.int .i64))∧Below w.heap.size w wr)
    case atStart=>exact ⟨0,by omega,rfl,by rw [layTo_zero,HU.out];exact ho1,hbel1⟩
    case round=>
     obtain ⟨k,hk,rfl,hown,hbel⟩:=hrel;have hm1:0≤(r:Int)*2^u:=Int.mul_nonneg xo xo;have hm2:(r:Int)*2^u+2^u≤1048576:=by
      have e:(r:Int)*2^u+2^u=(((r+1)*2^u:Nat):Int):=by push_cast;rw [Int.add_mul,Int.one_mul]
      rw [e];omega
     have hpc:((2^u:Nat):Int)=2^u:=by push_cast;rfl
     have hkk:(k:Int)+gk=2^u:=by rw [←hpc,←hk];push_cast;rfl
     have HPC:=hid hpc;have HK:=hid hk;clear hpc hk;by_cases hlt:0<gk
     · have hklt:(k:Int)<2^u:=xo;have HKK:=hid hkk;clear hkk;have hrk:=kid_bd L r k xo (by rw [HU.out];have:=HK.out;omega) h4;rw [HU.out] at hrk;go_wp2_with (go_at_call 105;refine (Pow_ok _ xo xo _).mono ?_;rintro e w' ⟨rfl,rfl⟩)
       refine (IH.out (L-u) (r*2^u+k) _ _ _ xo (by push_cast;rfl) xo xo xo hrk).mono ?_;rintro e w2 ⟨v2,rfl,ho2,hbel2⟩;have hown2:=owns_below hown hbel2;obtain ⟨g2,cap2,rfl,hg2,hcells⟩:=owns_some ho2 (lay_pos _ _ xo);have hn1:=layTo_len L r (k+1) xo h3 (by rw [HU.out];have:=HK.out;omega);have hsucc:=layTo_succ L r k;rw [HU.out] at hsucc;have hlen:=congrArg List.length hsucc;rw [List.length_append] at hlen;have hn2:(ints (layTo L r k)).length+(ints (lay (L-u) (r*2^u+k))).length≤4294967296:=xo;have HS:=hid hsucc;have hb0:=hbel.size;have hb2:=hbel2.size;clear hsucc hlen hown ho2;go_wp2_with (at_builtin;refine wpl_append_ints (.tmp 23) (.tmp 33) w.heap.size _ (ints (layTo L r k)) ⟨g2,0,none⟩ cap2 (ints (lay (L-u) (r*2^u+k))) hown2 hcells hn2 xo rfl rfl rfl rfl ?_;intro v3 w3 hown3 hgrow3)
       have hbel3:=((hbel.trans (hbel2.mono hb0))).grown hgrow3 xo (fun q hq=>(hown2.lt q hq).1);rw [←HS.out] at hown3;go_roundg (gk-1)
       case measure=>omega
       case rel=>exact ⟨k+1,by have:=HK.out;omega,by go_num,hown3,hbel3⟩
     · have hk2:k=2^u:=by have:=HK.out;omega
       have HK2:=hid hk2;have hge:¬((k:Int)<2^u):=xo;clear hk2 hkk;go_wp2_with (go_at_call 105;refine (Pow_ok _ xo xo _).mono ?_;rintro e w' ⟨rfl,rfl⟩)
       go_ret
       refine ⟨_,rfl,?_,hbel⟩;have e3:ints (layTo L r k)=ints (lay L r):=by rw [HK2.out,←HU.out,layTo_all _ _ xo]
       rw [←e3];exact hown
theorem Laid17_ok (L:Nat) (l:Int) (hl:l=L) (h1:1≤L) (h2:L≤14) (w:World):
    Calls Tryz.prog 106 #[.int .i64 l,.int .i64 1] w (FreshInts w (ints (lay L 1))):=
  Laid_ok L L 1 l 1 w hl rfl (Nat.le_refl _) h1 h2 (by have:2^L≤2^14:=Nat.pow_le_pow_right xo h2;omega)
theorem Places17_ok (L:Nat) (l:Int) (hl:l=L) (h1:1≤L) (h2:L≤14) (w:World):
    Calls Tryz.prog 72 #[.int .i64 l] w (FreshInts w (plc L)):=by
 subst hl;have hp:1≤2^L∧2^L≤16384:=⟨Nat.two_pow_pos L,Nat.pow_le_pow_right xo h2⟩
 have e1:(2:Int)^L-1=((2^L-1:Nat):Int):=by rw [Int.natCast_sub hp.1];push_cast;rfl
 go_enter Tryz.func72,Tryz.ntmps72
 have E1:=hid e1;clear e1;go_wp2_with (first
   | (go_at_call 71;refine (Many16_ok _ xo xo _).mono ?_;rintro e w' ⟨rfl,rfl⟩)
   | (at_make;refine wpl_make_ints (.tmp 7) (.tmp 7) w.heap.size (2^L-1) _ E1.out xo (Nat.le_refl _) rfl rfl rfl rfl ?_;intro g w1 hg hown hbel))
 refine (Laid17_ok L _ rfl h1 h2 _).mono ?_;rintro e w2 ⟨v2,rfl,ho2,hbel2⟩;have hownb:=owns_below hown hbel2;have hbelb:=hbel.trans (hbel2.mono hbel.size);obtain ⟨a2,cap2,rfl,hi2,hb2,_⟩:=ints_of_owns ho2;have hlen:(ints (lay L 1)).length=2^L-1:=by rw [ints_length,lay_len 1 h1]
 have HLEN:=hid hlen;have hlenb:(ints (lay L 1)).length≤16384:=xo;have hglt:=(hown.lt g rfl).2;clear hown hlen ho2;have HI:=hid hi2;have HB:=hid hb2;clear hi2 hb2;go_wp2
 go_loopg [5] (2^L-1) (fun gk i wr=>∃k:Nat,k+gk=2^L-1∧i= .int .i64 k∧
     wr.ownsRow w.heap.size 3 1 (.slice (some ⟨g,0,none⟩) (2^L-1) (2^L-1)) (fillTo (2^L-1) (lay L 1) k).length ((fillTo (2^L-1) (lay L 1) k).map (Value.int .i64))∧
     Below w.heap.size w wr∧IsInts wr a2 (ints (lay L 1)))
 case atStart=>exact ⟨0,by omega,rfl,hownb,hbelb,HI.out⟩
 case round=>
  obtain ⟨k,hk,rfl,how,hbe,hin⟩:=hrel;have HK:=hid hk;by_cases hlt:k<(ints (lay L 1)).length
  · have hin2:=lay_in (L:=L) (k:=k) h1 (by rw [←HLEN.out];exact hlt);obtain ⟨b2,o2,x,rfl,hx,hc2,hbl2⟩:=hin.get hlt;have hx2:=hx.out;rw [getD_ints] at hx2;have hxb:1≤x∧x≤16384:=xo;have hjl:(x.toNat-1)<(fillTo (2^L-1) (lay L 1) k).length:=by rw [fillTo_length];omega
    obtain ⟨⟨y,hy,hcy⟩,hfz,hst⟩:=ints_cell how hjl;have hle:x≤((2^L-1:Nat):Int):=xo;have HX:=hid hx2;clear hx2 hk hin2;go_wp2
    go_roundg (gk-1)
    case measure=>have:=HK.out;have:=HLEN.out;omega
    case rel=>
     have ex:x.toNat=(lay L 1).getD k 0:=by have:=HX.out;omega
     refine ⟨k+1,by have:=HK.out;have:=HLEN.out;omega,by go_num,?_,hbe.setCell (by exact hg) _,hin.setCell (fun z hz=> ?_) _⟩
     · rw [fillTo,←ex];exact hst k
     · have h9:w1.heap.size≤b2:=(HB.out ⟨b2,o2,none⟩ rfl).1;cases hz;show b2≠g;omega
  · go_wp2
    go_ret
    refine ⟨_,rfl,?_,hbe⟩;have hk2:k=2^L-1:=by have:=HLEN.out;omega
    rw [hk2] at how;have e2:(plc L).length=2^L-1:=by rw [plc,fillTo_length]
    rw [e2];rw [fillTo_length] at how;exact how
theorem info_part:(Tryz.prog.info? 203).map (fun i=>(i.zero,i.size,i.bytes))=some (some (.agg #[.int .i64 0,.int .i64 0]),2,16):=by kernel_rfl
def stk (st:List (Nat×Nat)):List Value:=st.flatMap fun p=>[.int .i64 p.1,.int .i64 p.2]
def unl (st:List (Nat×Nat)):List Nat:=st.reverse.flatMap fun p=>lay p.1 p.2
def msr (st:List (Nat×Nat)):Nat:=(st.map fun p=>2*2^p.1-3).sum
def psh (q d r k:Nat):List (Nat×Nat):=(List.range k).map fun i=>(d,r*2^q+2^q-1-i)
structure Laying (L:Nat) (n:Nat) (B:Nat) (w0:World) (out:List Nat) (st:List (Nat×Nat)) (vo vs:Value) (w:World):Prop where
 inv:out++unl st=lay L 1
 many:n=msr st
 each:∀p ∈ st,1≤p.1∧p.1≤14∧(p.2+1)*2^p.1≤1048576
 outs:w.ownsRow B 3 1 vo (ints out).length ((ints out).map (Value.int .i64))
 sts:w.ownsRow B 203 2 vs st.length (stk st)
 bel:Below B w0 w
def LayJ (L B:Nat) (w0:World) (n:Nat) (a':Act) (w:World):Prop:=
  ∃out st vo vs,Laying L n B w0 out st vo vs w∧∃u:Nat→Value,a'= {tmps:= #[.int .i64 L,undef,vo,vs,u 4,u 5,u 6,u 7,u 8,u 9,u 10,u 11,u 12,u 13,u 14,u 15,u 16,u 17,u 18,u 19,u 20,u 21,u 22,u 23,u 24,u 25,u 26,u 27,u 28,u 29,u 30,u 31,u 32,u 33,u 34,u 35,u 36,u 37,u 38,u 39,u 40,u 41,u 42,u 43,u 44,u 45,u 46,u 47,u 48,u 49,u 50,u 51,u 52,u 53,u 54,u 55,u 56,u 57,u 58,u 59,u 60,u 61,u 62,u 63,u 64,u 65,u 66,u 67,u 68,u 69],defers:=[]}
theorem stk_length (st:List (Nat×Nat)):(stk st).length=st.length*2:=by
 induction st with
 | nil=>rfl
 | cons p st ih=>simp [stk] at ih ⊢;omega
theorem stk_snoc (st:List (Nat×Nat)) (l r:Nat):stk (st.concat (l,r))=stk st++[.int .i64 l,.int .i64 r]:=by simp [stk]
theorem unl_snoc (st:List (Nat×Nat)) (l r:Nat):unl (st.concat (l,r))=lay l r++unl st:=by simp [unl]
theorem msr_snoc (st:List (Nat×Nat)) (l r:Nat):msr (st.concat (l,r))=msr st+(2*2^l-3):=by simp [msr]
theorem stk_append (a b:List (Nat×Nat)):stk (a++b)=stk a++stk b:=by simp [stk]
theorem psh_succ (q d r k:Nat):psh q d r (k+1)=psh q d r k++[(d,r*2^q+2^q-1-k)]:=by simp [psh,List.range_succ]
theorem psh_length (q d r k:Nat):(psh q d r k).length=k:=by simp [psh]
theorem unl_len (st:List (Nat×Nat)) (h:∀p ∈ st,1≤p.1):st.length≤(unl st).length:=by
 induction st with
 | nil=>simp
 | cons p st ih=>
  have h1:=ih (fun p hp=>h p (by simp [hp]));have h2:=lay_len p.2 (h p xsi);have h3:2^1≤2^p.1:=Nat.pow_le_pow_right xo (h p xsi);simp only [unl,List.reverse_cons,List.flatMap_append,List.length_append,List.length_cons] at h1 ⊢;simp only [List.flatMap_cons,List.flatMap_nil,List.append_nil];omega
theorem unl_psh (q d r:Nat):unl (psh q d r (2^q))=(List.range (2^q)).flatMap fun i=>lay d (r*2^q+i):=by
 have key:∀n,n≤2^q→(psh q d r n).reverse.flatMap (fun p=>lay p.1 p.2)=(List.range n).flatMap fun i=>lay d (r*2^q+2^q-n+i):=by
  intro n;induction n with
  | zero=>intro _;simp [psh]
  | succ n ih=>
   intro hn;rw [psh_succ,List.reverse_append,List.flatMap_append,ih xo,List.range_succ_eq_map];simp only [List.reverse_cons,List.reverse_nil,List.nil_append,List.flatMap_cons,List.flatMap_nil,List.append_nil,List.flatMap_map,Nat.add_zero];congr 1
   · congr 1;omega
   · refine congrArg (fun f=>(List.range n).flatMap f) ?_;funext i
     congr 1
     have:=Nat.two_pow_pos q;simp only [Nat.succ_eq_add_one];omega
 have:=key (2^q) (Nat.le_refl _);rw [unl,this];refine congrArg (fun f=>(List.range (2^q)).flatMap f) ?_;funext i
 congr 1
 omega
theorem unl_append (a b:List (Nat×Nat)):unl (a++b)=unl b++unl a:=by simp [unl]
theorem msr_append (a b:List (Nat×Nat)):msr (a++b)=msr a+msr b:=by simp [msr]
theorem msr_psh (q d r k:Nat):msr (psh q d r k)=k*(2*2^d-3):=by
 induction k with
 | zero=>simp [psh,msr]
 | succ k ih=>rw [psh_succ,msr_append,ih,Nat.add_mul];simp [msr]
theorem owns_slice {w:World} {B:Nat} {e:TypeId} {s:Nat} {v:Value} {n:Nat} {xs:List Value} (h:w.ownsRow B e s v n xs):
    ∃ao cap,v= .slice ao n cap∧n≤cap∧cap≤maxLen∧(∀x,ao=some x→∃g,x=⟨g,0,none⟩∧B≤g∧g<w.heap.size)∧(0<n→∃g,ao=some ⟨g,0,none⟩):=by
 obtain ⟨_,⟨rfl,rfl⟩ | ⟨g,cap,cur,rfl,hg,hh,hn,hm,_⟩⟩:=h
 · exact ⟨none,0,rfl,Nat.le_refl _,Nat.zero_le _,fun x hx=>(by cases hx),fun h=>xo⟩
 · exact ⟨some ⟨g,0,none⟩,cap,rfl,hn,hm,fun x hx=>(by cases hx;exact ⟨g,rfl,hg,(Array.getElem?_eq_some_iff.1 hh).1⟩),fun _=>⟨g,rfl⟩⟩
theorem laid_ok (L:Nat) (h1:1≤L) (h2:L≤14) (w:World):
    Calls Tryz.prog 142 #[.int .i64 L] w (FreshInts w (ints (lay L 1))):=by
 go_enter Tryz.func142,Tryz.ntmps142
 go_wp2
 refine wp_scope_loop 0 (LayJ L w.heap.size w) rfl ?_ ?_
 · rintro n a wo ⟨out,st,vo,vs,hl,u,rfl⟩ H hH;rcases List.eq_nil_or_concat st with rfl | ⟨st',⟨l,r⟩,rfl⟩
   · obtain ⟨ao,cap,rfl,_⟩:=owns_slice hl.sts;go_wp2
     simp only [Exit.jump];go_ret
     have e:out=lay L 1:=by have:=hl.inv;simpa [unl] using this
     refine ⟨vo,rfl,?_,hl.bel⟩;rw [←e];exact hl.outs
   · obtain ⟨hinv,hmany,heach,houts,hsts,hbel⟩:=hl;obtain ⟨m,hm⟩:∃m,st'.length=m:=⟨_,rfl⟩
     have hlen:(st'.concat (l,r)).length=m+1:=by simp [hm]
     rw [hlen,stk_snoc] at hsts;rw [unl_snoc] at hinv;rw [msr_snoc] at hmany;have hkl:(stk st').length=m*2:=by rw [stk_length,hm]
     obtain ⟨ao,cap,rfl,hle,hmax,_,hpos⟩:=owns_slice hsts;obtain ⟨g,rfl⟩:=hpos xo;unfold maxLen at hmax;have e0:((m:Int)+1==0)=false:=by simp;omega
     have hc0:wo.cell? ⟨g,m*2,none⟩=some (.int .i64 l):=by
      rw [hsts.cellAt (m*2) xo,←hkl];simp
     have hc1:wo.cell? ⟨g,m*2+1,none⟩=some (.int .i64 r):=by
      rw [hsts.cellAt (m*2+1) xo,←hkl];simp
     have hpop:=ownsRow_pop hkl hsts;have hap:=owns_apart houts hsts xdd;have hlr:=heach (l,r) xsi;have hch:∀p ∈ st',1≤p.1∧p.1≤14∧(p.2+1)*2^p.1≤1048576:=fun p hp=>heach p (by simp [hp])
     have hL:=congrArg List.length hinv;rw [List.length_append,lay_len 1 h1] at hL;have hL2:2^L≤16384:=Nat.pow_le_pow_right xo h2;have hlo:(ints out).length≤16384:=by rw [ints_length];omega
     have hsz:=hbel.size;have hmb:m≤16384:=by
      have h6:=unl_len st' (fun p hp=>(hch p hp).1);rw [List.length_append] at hL;omega
     have HM:=hid hm;have HI:=hid hinv;have HY:=hid hmany;have HE:=hid hch;have HA:=hid hap;obtain ⟨hl0,hl14,hlB⟩:=hlr;simp only at hl0 hl14 hlB;clear hm hlen hinv hmany heach hch hap hL hsts hpos;by_cases hl1:l=1
     · subst hl1;go_wp2_with (at_builtin;refine wpl_append (.tmp 30) (.tmp 33) 26 3 (.int .i64 0) 1 8 Tryz.underlying26 info_int rfl xdd xdd w.heap.size vo _ _ (some ⟨wo.heap.size+1,0,none⟩) 1 1 [.int .i64 r] ((houts.alloc _).alloc _) rfl xzc (new_cells _ [.int .i64 r] _ _ xsi) (by simp [Value.oneCell']) xo (by simp;omega) rfl rfl rfl rfl ?_;intro v3 w3 hown3 hgrow3 _)
       go_step3
       have hx:ints (out++[r])=ints out++[(r:Int)]:=by rw [ints_append];rfl
       have hown4:w3.ownsRow w.heap.size 3 1 v3 (ints (out++[r])).length ((ints (out++[r])).map (Value.int .i64)):=by
        rw [hx,List.length_append,List.map_append];exact hown3
       have hst3:=((hpop.alloc (.cells #[.int .i64 1,.int .i64 r] 203)).alloc (.cells #[.int .i64 r] 3)).kept hgrow3 (apart_symm HA.out);refine show (0=0∧H _ _) from ⟨rfl,hH (msr st') _ _ (by rw [HY.out];omega) ⟨out++[r],st',v3,_,⟨?_,rfl,HE.out,hown4,by rw [HM.out];exact hst3,?_⟩,frame_mk _ _ _ rfl⟩⟩
       · have:=HI.out;rw [lay_one] at this;simpa using this
       · exact ((hbel.alloc hsz _).alloc (by simp;omega) _).grown hgrow3 (by simp;omega) (fun q hq=>(houts.lt q hq).1)
     · have e1:((l:Int)==1)=false:=by simp;omega
       obtain ⟨q,hq⟩:∃q,l/2=q:=⟨_,rfl⟩
       obtain ⟨d,hd⟩:∃d,(l+1)/2=d:=⟨_,rfl⟩
       have hq2:(l:Int)/2=q:=xo;have hd2:((l:Int)+1)/2=d:=xo;have hqd:1≤q∧q≤7∧1≤d∧d≤7∧l=q+d:=xo;obtain ⟨hq0,hq7,hd0,hd7,hlqd⟩:=hqd;obtain ⟨hb1,hb2⟩:=pow_bd q xo;have HQ:=hid hq2;have HD:=hid hd2;have HL:=hid hlqd;clear hq2 hd2 hlqd hq hd;go_wp2_with fail
       refine (Split_ok _ xo xo _).mono ?_;rintro e w' ⟨rfl,rfl⟩;rw [HQ.out,HD.out];have hm1:0≤(r:Int)*2^q:=Int.mul_nonneg xo xo;have hm2:(r:Int)*2^q+2^q≤1048576:=by
        have e:(r:Int)*2^q+2^q=(((r+1)*2^q:Nat):Int):=by push_cast;rw [Int.add_mul,Int.one_mul]
        have h5:(r+1)*2^q≤(r+1)*2^l:=Nat.mul_le_mul_left _ (Nat.pow_le_pow_right xo (by have:=HL.out;omega));rw [e];omega
       have hp2:((2^q:Nat):Int)=2^q:=by push_cast;rfl
       have HP:=hid hp2;clear hp2;go_wp2
       go_loopg [3,44] (2^q) (fun gk v i wr=>∃k:Nat,k+gk=2^q∧i= .int .i64 k∧
         wr.ownsRow w.heap.size 203 2 v (m+k) (stk st'++stk (psh q d r k))∧v.ownBlock≠some wo.heap.size∧
         wr.ownsRow w.heap.size 3 1 vo (ints out).length ((ints out).map (Value.int .i64))∧Below w.heap.size w wr∧
         wr.cell? ⟨wo.heap.size,1,none⟩=some (.int .i64 r)∧wo.heap.size<wr.heap.size)
       case atStart=>
        refine ⟨0,by omega,rfl,?_,?_,houts.alloc _,hbel.alloc hsz _,by simp,by simp⟩
        · have:=hpop.alloc (.cells #[.int .i64 l,.int .i64 r] 203);simpa [psh,stk] using this
        · intro e;have:=(hpop.lt _ e).2;omega
       case round=>
        obtain ⟨k,hk,rfl,hs,hne,ho,hbe,hc1,hsz⟩:=hrel;have hkk:(k:Int)+gk=2^q:=by rw [←HP.out,←hk];push_cast;rfl
        have HK:=hid hk;clear hk;by_cases hlt:0<gk
        · have hklt:(k:Int)<2^q:=xo;have HKK:=hid hkk;clear hkk;have hmk:m+k+1≤4294967296:=by have:=HK.out;have h7:2^q≤2^7:=Nat.pow_le_pow_right xo hq7;omega
          have hw1:IntKind.i64.wrap ((r:Int)*2^q)=(r:Int)*2^q:=IntWalk.i64_in _ xo;have hw2:IntKind.i64.wrap ((2:Int)^q)=(2:Int)^q:=IntWalk.i64_in _ xo;have hw3:IntKind.i64.wrap ((r:Int)*2^q+2^q)=(r:Int)*2^q+2^q:=IntWalk.i64_in _ xo;have hw4:IntKind.i64.wrap ((r:Int)*2^q+2^q-1)=(r:Int)*2^q+2^q-1:=IntWalk.i64_in _ xo;have hw5:IntKind.i64.wrap ((r:Int)*2^q+2^q-1-k)=(r:Int)*2^q+2^q-1-k:=IntWalk.i64_in _ xo;go_wp2
          go_region_law (refine step_append (.tmp 47) (.tmp 60) 204 203 (.agg #[.int .i64 0,.int .i64 0]) 2 16 Tryz.underlying204 info_part rfl xdd xdd w.heap.size _ _ _ (some ⟨wr.heap.size,0,none⟩) 1 1 [.int .i64 d,.int .i64 ((r:Int)*2^q+2^q-1-k)] (hs.drew.alloc _) rfl xzc (new_cells wr.drew _ _ _ xsi) (by simp [Value.oneCell']) hmk (by simp;omega) rfl rfl rfl rfl ?_;intro v3 w3 hown3 hgrow3 hfr3)
          clear hw1 hw2 hw3 hw4 hw5;have hap3:=owns_apart ho hs xdd;have hes:stk st'++stk (psh q d r (k+1))=(stk st'++stk (psh q d r k))++[.int .i64 d,.int .i64 ((r:Int)*2^q+2^q-1-k)]:=by
           rw [psh_succ,stk_append,←List.append_assoc];have e:((r*2^q+2^q-1-k:Nat):Int)=(r:Int)*2^q+2^q-1-k:=by
            have h1:k+1≤2^q:=by have:=HK.out;omega
            have h2:((r*2^q+2^q-1-k:Nat):Int)=((r*2^q+2^q:Nat):Int)-1-k:=xo;rw [h2];push_cast;rfl
           simp [stk,e]
          rw [←hes] at hown3;have ho3:=((ho.drew).alloc (.cells #[.int .i64 d,.int .i64 ((r:Int)*2^q+2^q-1-k)] 203)).kept hgrow3 hap3;have hbe3:=((hbe.drew).alloc (by have:=hbe.size;simpa using this) (.cells #[.int .i64 d,.int .i64 ((r:Int)*2^q+2^q-1-k)] 203)).grown hgrow3 (by have:=hbe.size;simp;omega) (fun z hz=>(hs.lt z hz).1);have hc3:w3.cell? ⟨wo.heap.size,1,none⟩=some (.int .i64 r):=hgrow3.cell (by exact (World.cell?_alloc_lt wr _ _ hsz).trans hc1) (fun e=>hne e.symm);have hne3:v3.ownBlock≠some wo.heap.size:=by
           intro e;rcases hfr3 with h|h
           · exact hne (h.symm.trans e)
           · have:=h _ e;simp at this;omega
          have hsz3:wo.heap.size<w3.heap.size:=by have:=hgrow3.size;simp at this;omega
          clear hes hap3 hfr3;go_wp2
          go_roundg (gk-1)
          case measure=>omega
          case rel=>exact ⟨k+1,by have:=HK.out;omega,by go_num,hown3,hne3,ho3,hbe3,hc3,hsz3⟩
        · have hk2:k=2^q:=by have:=HK.out;omega
          have hge:¬((k:Int)<2^q):=xo;have HK2:=hid hk2;have h7:2^q≤2^7:=Nat.pow_le_pow_right xo hq7;have hmk:m+k+1≤4294967296:=xo;clear hk2 hkk;go_wp2_with (at_builtin;refine wpl_append (.tmp 63) (.tmp 68) 204 203 (.agg #[.int .i64 0,.int .i64 0]) 2 16 Tryz.underlying204 info_part rfl xdd xdd w.heap.size _ _ _ (some ⟨wr.heap.size,0,none⟩) 1 1 [.int .i64 q,.int .i64 r] (hs.alloc _) rfl xzc (new_cells _ _ _ _ rfl) (by simp [Value.oneCell']) hmk (by have:=hbe.size;simp;omega) rfl rfl rfl rfl ?_;intro v3 w3 hown3 hgrow3 _)
          go_step3
          have hap3:=owns_apart ho hs xdd;have ho3:=(ho.alloc (.cells #[.int .i64 q,.int .i64 r] 203)).kept hgrow3 hap3;have hbe3:=(hbe.alloc hbe.size (.cells #[.int .i64 q,.int .i64 r] 203)).grown hgrow3 (by have:=hbe.size;simp;omega) (fun z hz=>(hs.lt z hz).1);have hst:stk st'++stk (psh q d r k)++[.int .i64 q,.int .i64 r]=stk (st'++psh q d r (2^q)++[(q,r)]):=by
           rw [stk_append,stk_append,HK2.out];rfl
          have hln:m+k+1=(st'++psh q d r (2^q)++[(q,r)]).length:=by
           simp [psh_length,HM.out,HK2.out];omega
          rw [hst,hln] at hown3;have hpow:2^l=2^q*2^d:=by rw [HL.out,Nat.pow_add]
          refine show (0=0∧H _ _) from ⟨rfl,hH (msr (st'++psh q d r (2^q)++[(q,r)])) _ _ ?_ ⟨out,st'++psh q d r (2^q)++[(q,r)],vo,v3,⟨?_,rfl,?_,ho3,hown3,hbe3⟩,frame_mk _ _ _ rfl⟩⟩
          · rw [HY.out,msr_append,msr_append,msr_psh,hpow];have p1:=Nat.two_pow_pos q;have p2:2^1≤2^d:=Nat.pow_le_pow_right xo hd0;have p3:2^1≤2^q:=Nat.pow_le_pow_right xo hq0;have e3:2^q*(2*2^d-3)=2*(2^q*2^d)-3*2^q:=by
             rw [Nat.mul_sub,Nat.mul_left_comm,Nat.mul_comm 3]
            have e4:2^q*2≤2^q*2^d:=Nat.mul_le_mul_left _ p2;rw [e3];simp only [msr,List.map_cons,List.map_nil,List.sum_cons,List.sum_nil];omega
          · have e5:lay l r=lay q r++unl (psh q d r (2^q)):=by
              rw [unl_psh,lay_two xo];have e6:l/2=q:=by have:=HQ.out;omega
              have e7:l-q=d:=by have:=HL.out;omega
              rw [e6,e7]
            rw [unl_append,unl_append,←HI.out,e5];simp [unl]
          · intro p hp;rcases List.mem_append.1 hp with hp|hp
            · rcases List.mem_append.1 hp with hp|hp
              · exact HE.out p hp
              · simp only [psh,List.mem_map,List.mem_range] at hp;obtain ⟨i,hi,rfl⟩:=hp;refine ⟨hd0,by omega,?_⟩;simp only;rw [hpow,←Nat.mul_assoc] at hlB;refine Nat.le_trans (Nat.mul_le_mul_right _ ?_) hlB;rw [Nat.add_mul];omega
            · simp only [List.mem_singleton] at hp;subst hp;exact ⟨hq0,by omega,Nat.le_trans (Nat.mul_le_mul_left _ (Nat.pow_le_pow_right xo (by have:=HL.out;omega))) hlB⟩
 · intro H hH hpass;go_wp2
   go_step3
   go_step
   go_step
   refine hpass (msr [(L,1)]) _ _ ⟨[],[(L,1)],_,_,⟨by simp [unl],rfl,?_,World.ownsRow_nil _ _ _ _,World.ownsRow_lit w #[.int .i64 L,.int .i64 1] 1 (Nat.le_refl _) xdd rfl,br.alloc (Nat.le_refl _) _⟩,frame_mk _ _ _ rfl⟩;intro p hp;simp only [List.mem_singleton] at hp;subst hp;have:2^L≤2^14:=Nat.pow_le_pow_right xo h2;exact ⟨h1,h2,by simp only;omega⟩
theorem Table_ok (L:Nat) (l:Int) (hl:l=L) (h1:1≤L) (h2:L≤14) (w:World):
    Calls Tryz.prog 117 #[.int .i64 l] w fun e w'=>
     ∃v,e= .returned (.tuple #[v,.int .i64 0])∧w'.ownsRow w.heap.size 3 1 v (plc L).length ((plc L).map (Value.int .i64))∧Below w.heap.size w w':=by
 subst hl;have hp:1≤2^L∧2^L≤16384:=⟨Nat.two_pow_pos L,Nat.pow_le_pow_right xo h2⟩
 have e1:(2:Int)^L-1=((2^L-1:Nat):Int):=by rw [Int.natCast_sub hp.1];push_cast;rfl
 go_enter Tryz.func117,Tryz.ntmps117
 have E1:=hid e1;clear e1;go_wp2_with (first
   | (go_at_call 121;refine (Size_ok _ xo xo _).mono ?_;rintro e w' ⟨rfl,rfl⟩)
   | (at_make;refine wpl_make_ints (.tmp 17) (.tmp 17) w.heap.size (2^L-1) _ E1.out xo (Nat.le_refl _) rfl rfl rfl rfl ?_;intro g w1 hg hown hbel))
 refine (laid_ok L h1 h2 _).mono ?_;rintro e w2 ⟨v2,rfl,ho2,hbel2⟩;have hownb:=owns_below hown hbel2;have hbelb:=hbel.trans (hbel2.mono hbel.size);obtain ⟨a2,cap2,rfl,hi2,hb2,_⟩:=ints_of_owns ho2;have hlen:(ints (lay L 1)).length=2^L-1:=by rw [ints_length,lay_len 1 h1]
 have HLEN:=hid hlen;have hlenb:(ints (lay L 1)).length≤16384:=xo;have hglt:=(hown.lt g rfl).2;clear hown hlen ho2;have HI:=hid hi2;have HB:=hid hb2;clear hi2 hb2;go_wp2
 go_loopg [22] (2^L-1) (fun gk i wr=>∃k:Nat,k+gk=2^L-1∧i= .int .i64 k∧
     wr.ownsRow w.heap.size 3 1 (.slice (some ⟨g,0,none⟩) (2^L-1) (2^L-1)) (fillTo (2^L-1) (lay L 1) k).length ((fillTo (2^L-1) (lay L 1) k).map (Value.int .i64))∧
     Below w.heap.size w wr∧IsInts wr a2 (ints (lay L 1)))
 case atStart=>exact ⟨0,by omega,rfl,hownb,hbelb,HI.out⟩
 case round=>
  obtain ⟨k,hk,rfl,how,hbe,hin⟩:=hrel;have HK:=hid hk;by_cases hlt:k<(ints (lay L 1)).length
  · have hin2:=lay_in (L:=L) (k:=k) h1 (by rw [←HLEN.out];exact hlt);obtain ⟨b2,o2,x,rfl,hx,hc2,hbl2⟩:=hin.get hlt;have hx2:=hx.out;rw [getD_ints] at hx2;have hxb:1≤x∧x≤16384:=xo;have hjl:(x.toNat-1)<(fillTo (2^L-1) (lay L 1) k).length:=by rw [fillTo_length];omega
    obtain ⟨⟨y,hy,hcy⟩,hfz,hst⟩:=ints_cell how hjl;have hle:x≤((2^L-1:Nat):Int):=xo;have HX:=hid hx2;clear hx2 hk hin2;go_wp2
    go_roundg (gk-1)
    case measure=>have:=HK.out;have:=HLEN.out;omega
    case rel=>
     have ex:x.toNat=(lay L 1).getD k 0:=by have:=HX.out;omega
     refine ⟨k+1,by have:=HK.out;have:=HLEN.out;omega,by go_num,?_,hbe.setCell (by exact hg) _,hin.setCell (fun z hz=> ?_) _⟩
     · rw [fillTo,←ex];exact hst k
     · have h9:w1.heap.size≤b2:=(HB.out ⟨b2,o2,none⟩ rfl).1;cases hz;show b2≠g;omega
  · go_wp2
    go_ret2
    refine ⟨_,rfl,?_,hbe⟩;have hk2:k=2^L-1:=by have:=HLEN.out;omega
    rw [hk2] at how;have e2:(plc L).length=2^L-1:=by rw [plc,fillTo_length]
    rw [e2];rw [fillTo_length] at how;exact how
theorem info_node:(Tryz.prog.info? 138).map (fun i=>(i.zero,i.size,i.bytes))=some (some (.agg #[.int .i64 0,.int .i64 0,.int .i64 0]),3,24):=by kernel_rfl
def ndRow (a b c:Nat→Int) (M:Nat):List Value:=(flat3 a b c M).map (Value.int .i64)
theorem ndput_ok (L k g cap b1 b2 M B:Nat) (ao:Option Addr) (ac:Nat) (h2:k+1<M) (hM:M=2^L) (W:World)
    (hp:IsRow .i64 W ao (plc L)) (c1:W.cell? ⟨b1,0,none⟩=some (.slice ao (plc L).length ac)) (c2:W.cell? ⟨b2,0,none⟩=some (.slice (some ⟨g,0,none⟩) M cap))
    (ho:W.ownsRow B 138 3 (.slice (some ⟨g,0,none⟩) M cap) M (ndRow (fun _=>0) (fun _=>0) (upTo (pcF L) k) M)) (hb:M≤16384):
    Calls Tryz.prog 118 #[.int .i64 ((k:Int)+1),.pointer (some ⟨b1,0,none⟩),.pointer (some ⟨b2,0,none⟩)] W fun e W'=>e= .returned (.tuple #[])∧W'=W.drew.setCell ⟨g,(k+1)*3+2,none⟩ (.int .i64 (pcF L (k+1))):=by
 have hlen:=plc_length L;obtain ⟨b,off,x,rfl,hx,hcx,hlt⟩:=hp.get (i:=k) xo;have hxx:pcF L (k+1)=x:=by rw [pcF,if_neg xo];exact hx.out
 have hf3:(flat3 (fun _=>0) (fun _=>0) (upTo (pcF L) k) M).length=M*3:=flat3_length;obtain ⟨k1,k2⟩:=own_cell ho (j:=(k+1)*3+2) xo;rw [hxx];have hwr:IntKind.i64.wrap (k:Int)=(k:Int):=IntWalk.i64_in _ xo;have h5:((k:Int)+1).toNat=k+1:=xo;have h3:k<(plc L).length:=xo;generalize hN:(plc L).length=N at hp hlen c1 h3;generalize ((flat3 (fun x=>0) (fun x=>0) (upTo (pcF L) k) M).getD ((k+1)*3+2) 0)=z at k1;clear ho hp hf3 hx hlen hxx hM;go_enter Tryz.func118,Tryz.ntmps118
 go_still_tail 7,xk
 go_wp2
 all_goals exact bodyPost_end (results_none rfl _ _ _) rfl ⟨rfl,rfl⟩
theorem nodes_ok (L:Nat) (l:Int) (hl:l=L) (h1:1≤L) (h2:L≤14) (w:World):
    Calls Tryz.prog 82 #[.int .i64 l] w fun e w'=>∃g,e= .returned (.slice (some ⟨g,0,none⟩) (2^L) (2^L))∧
      w'.ownsRow w.heap.size 138 3 (.slice (some ⟨g,0,none⟩) (2^L) (2^L)) (2^L) (ndRow (fun _=>0) (fun _=>0) (pcF L) (2^L))∧Below w.heap.size w w':=by
 have hp:1≤2^L∧2^L≤16384:=⟨Nat.two_pow_pos L,Nat.pow_le_pow_right xo h2⟩
 have hlen:=plc_length L;obtain ⟨N,hN⟩:∃N,(plc L).length=N:=⟨_,rfl⟩
 have hM:N+1=2^L:=xo;have hMb:N+1≤16384:=xo;rw [←hM];have HM:=hid hM;have HN:=hid hN;have hT:=hid (Table_ok L l hl h1 h2 w);clear hM hp hlen h1 h2 hl hN;have hmf:∀(fn:Fn) (first cap:Array Value) (w:World),(Instr.makeFunc fn first cap).run Tryz.prog w= .ok (.func fn first cap) w:=fun _ _ _ _=>rfl
 go_enter Tryz.func82,Tryz.ntmps82
 go_wp2_with fail
 refine hT.out.mono ?_;rintro e w1 ⟨v,rfl,ho,hb⟩;obtain ⟨ao,ac,rfl,hi,hbl,-,-,-⟩:=row_of_owns ho;rw [HN.out];have HI:=hid hi;have HBL:=hid hbl;have hs1:=hb.size;clear ho hi hbl;go_wp2_with (first
   | (at_make;refine wpl_make (.tmp 15) (.tmp 15) 132 138 _ 3 24 Tryz.underlying132 info_node xdd w.heap.size (N+1) _ xo xo (by simp;omega) rfl rfl rfl rfl ?_;intro g w2 hg hown hbel;rw [show Value.cells (.agg #[.int .i64 0,.int .i64 0,.int .i64 0])= #[.int .i64 0,.int .i64 0,.int .i64 0] from rfl,made_flat3] at hown
      have hg2:w1.heap.size+1≤g:=by simpa using hg
      have hz2:w1.heap.size+1≤w2.heap.size:=by have:=hbel.size;simp at this;omega
      have hz3:w1.heap.size<w2.heap.size:=xo;have hgl:g<w2.heap.size:=(hown.lt g rfl).2;have c1:w2.cell? ⟨w1.heap.size,0,none⟩=some (.slice ao N ac):=(hbel.cell (p:=⟨w1.heap.size,0,none⟩) xsi).trans xcw;have hb2:Below w.heap.size w w2:=below_via hbel (hb.alloc hs1 _) (by simp;omega);have hi2:IsRow .i64 w2 ao (plc L):=HI.out.below (below_via hbel (br.alloc (Nat.le_refl _) _) xsi);have H2:=hid (And.intro hown (And.intro hb2 hi2));clear hown hbel hg hb2 hi2))
 go_loopg [20] N (fun gk i wr=>∃k:Nat,k+gk=N∧i= .int .i64 k∧wr.cell? ⟨w1.heap.size,0,none⟩=some (.slice ao N ac)∧wr.cell? ⟨w2.heap.size,0,none⟩=some (.slice (some ⟨g,0,none⟩) (N+1) (N+1))∧
     Hid (wr.ownsRow w.heap.size 138 3 (.slice (some ⟨g,0,none⟩) (N+1) (N+1)) (N+1) (ndRow (fun _=>0) (fun _=>0) (upTo (pcF L) k) (N+1)))∧Hid (Below w.heap.size w wr)∧Hid (IsRow .i64 wr ao (plc L))∧w2.heap.size<wr.heap.size)
 case atStart=>
  obtain ⟨hown,hb2,hi2⟩:=H2.out;refine ⟨0,by omega,rfl,by (exact xcn),by (exact xcn),hid ?_,hid (hb2.alloc xo _),hid (hi2.alloc _),by simp⟩;rw [upTo_zero (pcF_zero L)];exact owns_below hown (br.alloc (Nat.le_refl _) _)
 case round=>
  obtain ⟨k,hk,rfl,c1,c2,HO,HB,HI2,hz⟩:=hrel;by_cases hlt:k<N
  · have hc:=ndput_ok L k g (N+1) w1.heap.size w2.heap.size (N+1) w.heap.size ao ac xo HM.out wr HI2.out (by rw [HN.out];exact c1) c2 HO.out hMb;have HC:=hid hc;clear hc;go_wp2_with fail
    refine HC.out.mono ?_;rintro e w3 ⟨rfl,rfl⟩;go_wp2
    go_roundg (gk-1)
    case measure=>omega
    case rel=>
     refine ⟨k+1,by omega,by go_num,by (exact xcg),by (exact xcg),hid ?_,hid ((HB.out.setCell (by show w.heap.size≤g;omega) _).drew),hid ((HI2.out.setCell (fun z hz=>by have:=HBL.out z hz;show z.block≠g;omega) _).drewN 1),by simpa using hz⟩;have:=own_set HO.out ((k+1)*3+2) (pcF L (k+1));rw [flat3_set2 xo,putF_upTo _ _ _ rfl] at this;exact this
  · have hkN:k=N:=xo;go_wp2
    go_ret
    refine ⟨g,rfl,?_,HB.out⟩;have:=HO.out;have e:ndRow (fun _=>0) (fun _=>0) (upTo (pcF L) k) (N+1)=ndRow (fun _=>0) (fun _=>0) (pcF L) (N+1):=by
     unfold ndRow;rw [flat3_congr (c':=pcF L) (fun _ _=>rfl) (fun _ _=>rfl) (fun i hi=>by unfold upTo;rw [if_pos xo])]
    rw [←e];exact this
theorem read_ok (L N:Nat) (l:Int) (hl:l=L) (h1:1≤L) (h2:L≤14) (hN:N+1=2^L) (ma ca:Option Addr) (mc cc:Nat) (ms cs:List Int) (hlm:ms.length=N) (hlc:cs.length=N) (w:World)
    (hm:IsRow .i64 w ma ms) (hc:IsRow .i64 w ca cs):
    Calls Tryz.prog 90 #[ixV l ma N mc ca N cc] w fun e w'=>∃g,e= .returned (.tuple #[.slice (some ⟨g,0,none⟩) (N+1) (N+1),.bool true])∧
      w'.ownsRow (w.heap.size+1) 138 3 (.slice (some ⟨g,0,none⟩) (N+1) (N+1)) (N+1) (ndRow (tlF L ms) (tlF L cs) (pcF L) (N+1))∧Below w.heap.size w w':=by
 have hp:2^L≤16384:=Nat.pow_le_pow_right xo h2;have hMb:N+1≤16384:=xo;have hN1:0<N:=by have:2^1≤2^L:=Nat.pow_le_pow_right xo h1;omega
 have hS:=Size_ok l xo xo;have e1:(2:Int)^l.toNat-1=(N:Int):=by
  have:(2:Int)^l.toNat=((2^L:Nat):Int):=by rw [show l.toNat=L by omega];push_cast;rfl
  rw [this];omega
 rw [e1] at hS;have HS:=hid hS;have hNd:=nodes_ok L l hl h1 h2;rw [←hN] at hNd;have HN:=hid hNd;have hpc:∀n,0≤pcF L n∧pcF L n<N:=fun n=>by have:=pcF_bd h1 n;omega
 have HP:=hid hpc;have HM:=hid hm;have HC:=hid hc;have HLM:=hid hlm;have HLC:=hid hlc;clear hS e1 hNd hN hp hpc h1 h2 hl hm hc hlm hlc;go_enter Tryz.func90,Tryz.ntmps90
 go_wp2_with (first
   | (go_at_call 121;refine (HS.out _).mono ?_;rintro e w' ⟨rfl,rfl⟩)
   | (go_at_call 82;refine (HN.out _).mono ?_;rintro e w1 ⟨g,rfl,ho,hb⟩
      have hg:=(ho.lt g rfl)
      simp only [World.size_alloc] at hg hb ho;have hz1:w.heap.size+1≤w1.heap.size:=by have:=hb.size;simp at this;omega
      have c0:w1.cell? ⟨w.heap.size,0,none⟩=some (.int .i64 l):=(hb.cell (p:=⟨w.heap.size,0,none⟩) xsi).trans xcw;have c1:w1.cell? ⟨w.heap.size,1,none⟩=some (.slice ma N mc):=(hb.cell (p:=⟨w.heap.size,1,none⟩) xsi).trans xcw;have c2:w1.cell? ⟨w.heap.size,2,none⟩=some (.slice ca N cc):=(hb.cell (p:=⟨w.heap.size,2,none⟩) xsi).trans xcw;have HO:=hid ho;have HB:=hid (below_via hb ((Below.refl _ w).alloc (Nat.le_refl _) _) xo);clear ho hb))
 go_loopg [37] N (fun gk i wr=>∃k:Nat,k+gk=N∧i= .int .i64 k∧wr.cell? ⟨w.heap.size,1,none⟩=some (.slice ma N mc)∧wr.cell? ⟨w.heap.size,2,none⟩=some (.slice ca N cc)∧
     Hid (wr.ownsRow (w.heap.size+1) 138 3 (.slice (some ⟨g,0,none⟩) (N+1) (N+1)) (N+1) (ndRow (upTo (tlF L ms) k) (upTo (tlF L cs) k) (pcF L) (N+1)))∧Hid (Below w.heap.size w wr))
 case atStart=>
  refine ⟨0,by omega,rfl,c1,c2,hid ?_,HB⟩;rw [upTo_zero (tlF_zero L ms),upTo_zero (tlF_zero L cs)];exact HO.out
 case round=>
  obtain ⟨k,hk,rfl,c1,c2,HO,HB⟩:=hrel;by_cases hlt:k<N
  · have hpk:=HP.out (k+1);obtain ⟨p,hpp⟩:∃p:Nat,pcF L (k+1)=p:=⟨(pcF L (k+1)).toNat,by omega⟩
    have hpN:p<N:=xo;have hlen:(flat3 (upTo (tlF L ms) k) (upTo (tlF L cs) k) (pcF L) (N+1)).length=(N+1)*3:=flat3_length;obtain ⟨d0,d1⟩:=own_cell HO.out (j:=(k+1)*3+2) xo;rw [flat3_2 xo,hpp] at d0;obtain ⟨d2,d3⟩:=own_cell HO.out (j:=(k+1)*3) xo;obtain ⟨d4,d5⟩:=own_cell HO.out (j:=(k+1)*3+1) xo;generalize (flat3 (upTo (tlF L ms) k) (upTo (tlF L cs) k) (pcF L) (N+1)).getD ((k+1)*3) 0=y0 at d2;generalize (flat3 (upTo (tlF L ms) k) (upTo (tlF L cs) k) (pcF L) (N+1)).getD ((k+1)*3+1) 0=y1 at d4;obtain ⟨b1,o1,x1,rfl,hx1,hc1,-⟩:=(HM.out.below HB.out).get (i:=p) (by rw [HLM.out];exact hpN);obtain ⟨b2,o2,x2,rfl,hx2,hc2,-⟩:=(HC.out.below HB.out).get (i:=p) (by rw [HLC.out];exact hpN);have hwr:IntKind.i64.wrap ((k:Int)+1)=(k:Int)+1:=IntWalk.i64_in _ xo;have h5:((k:Int)+1).toNat=k+1:=xo;have HPP:=hid hpp;have HK:=hid hk;clear hpp hlen hpk c0;go_wp2
    go_still_tail 14,xk
    go_wp2
    go_roundg (gk-1)
    case measure=>have:=HK.out;omega
    case rel=>
     have hgw:w.heap.size≠g:=xo;refine ⟨k+1,by have:=HK.out;omega,by go_num,by (exact xcg),by (exact xcg),hid ?_,hid (((HB.out.setCell (by show w.heap.size≤g;omega) _).setCell (by show w.heap.size≤g;omega) _).drew)⟩;have q1:tlF L ms (k+1)=x1:=by rw [tlF,if_neg xo,HPP.out];exact hx1.out
     have q2:tlF L cs (k+1)=x2:=by rw [tlF,if_neg xo,HPP.out];exact hx2.out
     have o1:=own_set HO.out ((k+1)*3) x1;rw [flat3_set0 xo,putF_upTo _ _ _ q1.symm] at o1;have o2:=own_set o1 ((k+1)*3+1) x2;rw [flat3_set1 xo,putF_upTo _ _ _ q2.symm] at o2;exact o2
  · have hkN:k=N:=xo;go_wp2
    go_ret2
    refine ⟨g,rfl,?_,HB.out⟩;have:=HO.out;have e:ndRow (upTo (tlF L ms) k) (upTo (tlF L cs) k) (pcF L) (N+1)=ndRow (tlF L ms) (tlF L cs) (pcF L) (N+1):=by
     unfold ndRow;rw [flat3_congr (a':=tlF L ms) (b':=tlF L cs) (c':=pcF L) (fun i hi=>by unfold upTo;rw [if_pos xo]) (fun i hi=>by unfold upTo;rw [if_pos xo]) (fun _ _=>rfl)]
    rw [←e];exact this
theorem read_bad (l:Int) (ma ca:Option Addr) (mc cc:Nat) (ms cs:List Int) (h:¬ixFit l ms cs) (w:World):
    Calls Tryz.prog 90 #[ixV l ma ms.length mc ca cs.length cc] w (Ans w (.tuple #[.slice none 0 0,.bool false])):=by
 by_cases hl:1≤l∧l≤14
 · obtain ⟨h1,h2⟩:=hl;obtain ⟨N,hN⟩:∃N:Nat,2^l.toNat-1=N:=⟨_,rfl⟩
   have hpos:=Nat.two_pow_pos l.toNat;have e1:(2:Int)^l.toNat-1=(N:Int):=by
    have:(2:Int)^l.toNat=((2^l.toNat:Nat):Int):=by push_cast;rfl
    rw [this];omega
   have hS:=Size_ok l h1 h2;rw [e1] at hS;have HS:=hid hS;have hd:ms.length≠N∨cs.length≠N:=by
    by_cases h3:ms.length=N
    · by_cases h4:cs.length=N
      · exact absurd ⟨h1,h2,by omega,by omega⟩ h
      · exact .inr h4
    · exact .inl h3
   clear e1 hS h;generalize ms.length=m at *;generalize cs.length=c at *;by_cases h3:m=N
   · have h4:c≠N:=xo;have e3:((m:Int) != (N:Int))=false:=by simp [h3]
     have e4:((c:Int) != (N:Int))=true:=by simp;omega
     clear h3 h4 hd hN hpos;go_enter Tryz.func90,Tryz.ntmps90
     go_wp2_with (go_at_call 121;refine (HS.out _).mono ?_;rintro e w' ⟨rfl,rfl⟩)
     go_ret2
     exact ⟨rfl,by (exact xbel)⟩
   · have e3:((m:Int) != (N:Int))=true:=by simp;omega
     clear h3 hd hN hpos;go_enter Tryz.func90,Tryz.ntmps90
     go_wp2_with (go_at_call 121;refine (HS.out _).mono ?_;rintro e w' ⟨rfl,rfl⟩)
     go_ret2
     exact ⟨rfl,by (exact xbel)⟩
 · have hS:=Size_err l xo;have HS:=hid hS;clear hS h hl;go_enter Tryz.func90,Tryz.ntmps90
   go_wp2_with (go_at_call 121;refine (HS.out _).mono ?_;rintro e w' ⟨rfl,rfl⟩)
   go_ret2
   exact ⟨rfl,by (exact xbel)⟩
theorem Rising_ok (la:Option Addr) (lc:Nat) (L:List (Int×Int)) (hl:L.length≤100000) (w:World) (hr:IsRow .i64 w la (prI L)):
    Calls Tryz.prog 104 #[.slice la L.length lc] w (AnsB w (.bool (risB L))):=by
 obtain ⟨R,hR⟩:∃R,risB L=R:=⟨_,rfl⟩
 have HR:=hid hR;rw [hR];have HRL:=hid hr;obtain ⟨m,hm⟩:∃m,L.length=m:=⟨_,rfl⟩
 rw [hm] at hl ⊢;have HML:=hid hm;clear hr hR hm;go_enter Tryz.func104,Tryz.ntmps104
 go_wp2
 go_loopg [3] m (fun gk iv wr=>∃k:Nat,k+gk=m∧iv= .int .i64 ((k:Int)+1)∧Hid (Below w.heap.size w wr)∧Hid (∀j,j<k+1→risAt L j=true))
 case atStart=>exact ⟨0,by omega,rfl,hid br,hid (fun j h=>by rw [show j=0 by omega];rfl)⟩
 case round=>
  obtain ⟨k,hk,rfl,HB,HA⟩:=hrel;by_cases hlt:k+1<m
  · obtain ⟨bl,ol,rfl,c0,-,zl⟩:=pr_get (HRL.out.below HB.out) (i:=k+1) (by rw [HML.out];exact hlt);obtain ⟨bl',ol',hbe,e0,-,-⟩:=pr_get (HRL.out.below HB.out) (i:=k) (by rw [HML.out];omega);cases hbe;have hra:risAt L (k+1)=(k+1==0||decide ((L.getD k (0,0)).1<(L.getD (k+1) (0,0)).1)):=rfl;generalize (L.getD (k+1) (0,0)).1=x at *;generalize (L.getD k (0,0)).1=z at *;have h1:((k:Int)+1).toNat=k+1:=xo;have HK2:=hid hk;clear hk;by_cases hxz:z<x
    · have HRA:=hid hra;have g1:decide (x≤z)=false:=by simp;omega
      clear hra;go_wp2
      go_quiet (fail)
      go_wp2
      go_roundg (gk-1)
      case measure=>have:=HK2.out;omega
      case rel=>
       refine ⟨k+1,by have:=HK2.out;omega,by go_num,hid (below_drewN HB.out _),hid (fun j hj=> ?_)⟩;by_cases e:j=k+1
       · rw [e,HRA.out];simp [hxz]
       · exact HA.out j xo
    · have hRf:R=false:=by
        rw [←HR.out];exact all_not (i:=k+1) (by rw [HML.out];exact hlt) (by rw [hra];simp [hxz])
      subst hRf;have g1:decide (x≤z)=true:=by simp;omega
      clear hra;go_wp2
      go_quiet (fail)
      go_wp2
      go_ret
      exact ⟨rfl,below_drewN HB.out _⟩
  · have hRt:R=true:=by
      rw [←HR.out];exact all_upto.2 fun j hj=>HA.out j (by have:=HML.out;omega)
    subst hRt;go_wp2
    go_ret
    exact ⟨rfl,HB.out⟩
theorem Check10_ok (c:SlC) (a:SlA) (hl:c.ws.length≤9223372036854775807) (hl2:c.ks.length≤1000000000000) (w:World) (hin:SlIn w c a):
    Calls Tryz.prog 67 #[slV c a] w (AnsB w (.int .i64 (seekE c))):=by
 have MY:=hid (fun W (hb:Below w.heap.size w W)=>May04_ok c a hl hl2 W (hin.below hb));by_cases hm:slMay c=true
 · have hv:seekE c=if risB (prs c 0 c.ks.length)=true then 0 else 130:=if_pos hm
   rw [hm] at MY;obtain ⟨S,M,-,-,-,hnk,hnv,-,-,hSM,-,hnw,-⟩:=slHead_facts (slMay_head hm);have OF:=hid (fun W (hb:Below w.heap.size w W)=>Of04_ok c a 0 c.ks.length xo xo xo xo xo W (hin.below hb));have hlen:(prs c 0 c.ks.length).length≤65536:=by
    rw [prs_length];have:=cntW_le c.ws 0 c.ks.length;omega
   rw [hv];generalize prs c 0 c.ks.length=L at *;have RI:=hid (fun la lc W hr=>Rising_ok la lc L xo W hr);generalize risB L=b at *;obtain ⟨m,hmm⟩:∃m,L.length=m:=⟨_,rfl⟩
   rw [hmm] at RI;have HML:=hid hmm;obtain ⟨seg,ws,ks,vs,cs,laid⟩:=c;obtain ⟨wa,ka,va,ca,wc,kc,vc,cc⟩:=a;dsimp only [slV] at *;clear hin hm hv hl hl2 hnk hnv hnw hmm;cases b with
   | true=>
    rw [if_pos rfl];go_enter Tryz.func67,Tryz.ntmps67
    go_wp2_with fail
    refine (MY.out _ (br.alloc (Nat.le_refl _) _)).mono ?_;rintro e w1 ⟨rfl,hb1⟩;have hz_w1:=hb1.size;try simp only [World.size_alloc,World.size_setCell] at hz_w1
    have c_t0:w1.cell? ⟨w.heap.size,0,none⟩=some (.int .i64 seg):=xjt hb1 xlt xcn;have c_t1:w1.cell? ⟨w.heap.size,1,none⟩=some (.slice wa ws.length wc):=xjt hb1 xlt xcn;have c_t2:w1.cell? ⟨w.heap.size,2,none⟩=some (.slice ka ks.length kc):=xjt hb1 xlt xcn;have c_t3:w1.cell? ⟨w.heap.size,3,none⟩=some (.slice va vs.length vc):=xjt hb1 xlt xcn;have c_t4:w1.cell? ⟨w.heap.size,4,none⟩=some (.slice ca cs.length cc):=xjt hb1 xlt xcn;have c_t5:w1.cell? ⟨w.heap.size,5,none⟩=some (.int .u64 laid):=xjt hb1 xlt xcn;have z_t:w.heap.size<w1.heap.size:=xo;have hB1:Below w.heap.size w w1:=xbel;go_wp2_with fail
    refine (OF.out _ hB1).mono ?_;rintro e w2 ⟨vl,rfl,hol,hb2⟩;have hz_w2:=hb2.size;replace c_t0:w2.cell? ⟨w.heap.size,0,none⟩=some (.int .i64 seg):=xjt hb2 xlt xcn;replace c_t1:w2.cell? ⟨w.heap.size,1,none⟩=some (.slice wa ws.length wc):=xjt hb2 xlt xcn;replace c_t2:w2.cell? ⟨w.heap.size,2,none⟩=some (.slice ka ks.length kc):=xjt hb2 xlt xcn;replace c_t3:w2.cell? ⟨w.heap.size,3,none⟩=some (.slice va vs.length vc):=xjt hb2 xlt xcn;replace c_t4:w2.cell? ⟨w.heap.size,4,none⟩=some (.slice ca cs.length cc):=xjt hb2 xlt xcn;replace c_t5:w2.cell? ⟨w.heap.size,5,none⟩=some (.int .u64 laid):=xjt hb2 xlt xcn;replace z_t:w.heap.size<w2.heap.size:=xo;have hB2:Below w.heap.size w w2:=xbel;obtain ⟨la,lc,rfl,hil,-,-,-,-⟩:=row_of_owns hol;rw [HML.out];go_wp2_with fail
    refine (RI.out la lc _ hil).mono ?_;rintro e w3 ⟨rfl,hb3⟩;go_wp2
    go_ret
    exact ⟨rfl,by (exact xbel)⟩
   | false=>
    rw [if_neg xdd];go_enter Tryz.func67,Tryz.ntmps67
    go_wp2_with fail
    refine (MY.out _ (br.alloc (Nat.le_refl _) _)).mono ?_;rintro e w1 ⟨rfl,hb1⟩;have hz_w1:=hb1.size;try simp only [World.size_alloc,World.size_setCell] at hz_w1
    have c_t0:w1.cell? ⟨w.heap.size,0,none⟩=some (.int .i64 seg):=xjt hb1 xlt xcn;have c_t1:w1.cell? ⟨w.heap.size,1,none⟩=some (.slice wa ws.length wc):=xjt hb1 xlt xcn;have c_t2:w1.cell? ⟨w.heap.size,2,none⟩=some (.slice ka ks.length kc):=xjt hb1 xlt xcn;have c_t3:w1.cell? ⟨w.heap.size,3,none⟩=some (.slice va vs.length vc):=xjt hb1 xlt xcn;have c_t4:w1.cell? ⟨w.heap.size,4,none⟩=some (.slice ca cs.length cc):=xjt hb1 xlt xcn;have c_t5:w1.cell? ⟨w.heap.size,5,none⟩=some (.int .u64 laid):=xjt hb1 xlt xcn;have z_t:w.heap.size<w1.heap.size:=xo;have hB1:Below w.heap.size w w1:=xbel;go_wp2_with fail
    refine (OF.out _ hB1).mono ?_;rintro e w2 ⟨vl,rfl,hol,hb2⟩;have hz_w2:=hb2.size;replace c_t0:w2.cell? ⟨w.heap.size,0,none⟩=some (.int .i64 seg):=xjt hb2 xlt xcn;replace c_t1:w2.cell? ⟨w.heap.size,1,none⟩=some (.slice wa ws.length wc):=xjt hb2 xlt xcn;replace c_t2:w2.cell? ⟨w.heap.size,2,none⟩=some (.slice ka ks.length kc):=xjt hb2 xlt xcn;replace c_t3:w2.cell? ⟨w.heap.size,3,none⟩=some (.slice va vs.length vc):=xjt hb2 xlt xcn;replace c_t4:w2.cell? ⟨w.heap.size,4,none⟩=some (.slice ca cs.length cc):=xjt hb2 xlt xcn;replace c_t5:w2.cell? ⟨w.heap.size,5,none⟩=some (.int .u64 laid):=xjt hb2 xlt xcn;replace z_t:w.heap.size<w2.heap.size:=xo;have hB2:Below w.heap.size w w2:=xbel;obtain ⟨la,lc,rfl,hil,-,-,-,-⟩:=row_of_owns hol;rw [HML.out];go_wp2_with fail
    refine (RI.out la lc _ hil).mono ?_;rintro e w3 ⟨rfl,hb3⟩;go_wp2
    go_ret
    exact ⟨rfl,by (exact xbel)⟩
 · have hv:seekE c=8:=if_neg hm;have hm':slMay c=false:=by simpa using hm
   rw [hm'] at MY;rw [hv];obtain ⟨seg,ws,ks,vs,cs,laid⟩:=c;obtain ⟨wa,ka,va,ca,wc,kc,vc,cc⟩:=a;dsimp only [slV] at *;clear hin hm hv hl hl2 hm';go_enter Tryz.func67,Tryz.ntmps67
   go_wp2_with fail
   refine (MY.out _ (br.alloc (Nat.le_refl _) _)).mono ?_;rintro e w1 ⟨rfl,hb1⟩;have hz_w1:=hb1.size;try simp only [World.size_alloc,World.size_setCell] at hz_w1
   have hB1:Below w.heap.size w w1:=xbel;go_wp2
   go_ret
   exact ⟨rfl,hB1⟩
end
end Go.Proofs.YtbedhbpgnfffmaaGreat

/- Merged: VebLaid, VebTab, IdxNodes, IdxRead, IdxAll, Ref10, Built18, Build18, InvLate, BuildIx, RowEq, IdxSame, BuildIxs, SlFns, Twin04. -/
import Derived.Test.YtbedhbpgnfffmaaGreatDoorCobAnswersP3
import Derived.Test.YtbedhbpgnfffmaaGreatDoorCobAnswersP2
import Derived.Test.YtbedhbpgnfffmaaGreatDoorCobAnswersP1
namespace Go.Proofs.YtbedhbpgnfffmaaGreatDoor
set_option maxRecDepth 100000
set_option maxHeartbeats 40000000
set_option linter.unusedVariables false
set_option linter.unusedSimpArgs false
section
open Go.RowKit
theorem EU:(Tryz.prog.info? 265).map (fun i=>(i.zero,i.size,i.bytes))=some (some (.agg #[.int .i64 0,.int .i64 0]),2,16):=by kernel_rfl
def stk (st:List (Nat×Nat)):List Value:=st.flatMap fun p=>[.int .i64 p.1,.int .i64 p.2]
def LK (st:List (Nat×Nat)):List Nat:=st.reverse.flatMap fun p=>lay p.1 p.2
def ND (st:List (Nat×Nat)):Nat:=(st.map fun p=>2*2^p.1-3).sum
def Ed (q d r k:Nat):List (Nat×Nat):=(List.range k).map fun i=>(d,r*2^q+2^q-1-i)
structure acE (L:Nat) (n:Nat) (B:Nat) (w0:World) (out:List Nat) (st:List (Nat×Nat)) (vo vs:Value) (w:World):Prop where
 inv:out++LK st=lay L 1
 many:n=ND st
 each:∀p ∈ st,1<=p.1/\p.1<=14/\(p.2+1)*2^p.1<=1048576
 outs:w.ownsRow B 3 1 vo (ints out).length ((ints out).map (Value.int .i64))
 sts:w.ownsRow B 265 2 vs st.length (stk st)
 bel:Below B w0 w
def agK (L B:Nat) (w0:World) (n:Nat) (a':Act) (w:World):Prop:=
  ∃out st vo vs,acE L n B w0 out st vo vs w/\∃u:Nat->Value,a'= {tmps:= #[.int .i64 L,undef,vo,vs,u 4,u 5,u 6,u 7,u 8,u 9,u 10,u 11,u 12,u 13,u 14,u 15,u 16,u 17,u 18,u 19,u 20,u 21,u 22,u 23,u 24,u 25,u 26,u 27,u 28,u 29,u 30,u 31,u 32,u 33,u 34,u 35,u 36,u 37,u 38,u 39,u 40,u 41,u 42,u 43,u 44,u 45,u 46,u 47,u 48,u 49,u 50,u 51,u 52,u 53,u 54,u 55,u 56,u 57,u 58,u 59,u 60,u 61,u 62,u 63,u 64,u 65,u 66,u 67,u 68,u 69],defers:=[]}
theorem MJ (st:List (Nat×Nat)):(stk st).length=st.length*2:=by
 induction st with
 | nil=>rfl
 | cons p st ih=>simp [stk] at ih ⊢;omega
theorem UT (st:List (Nat×Nat)) (l r:Nat):stk (st.concat (l,r))=stk st++[.int .i64 l,.int .i64 r]:=by simp [stk]
theorem UA (st:List (Nat×Nat)) (l r:Nat):LK (st.concat (l,r))=lay l r++LK st:=by simp [LK]
theorem VH (st:List (Nat×Nat)) (l r:Nat):ND (st.concat (l,r))=ND st+(2*2^l-3):=by simp [ND]
theorem wX (a b:List (Nat×Nat)):stk (a++b)=stk a++stk b:=by simp [stk]
theorem CB (q d r k:Nat):Ed q d r (k+1)=Ed q d r k++[(d,r*2^q+2^q-1-k)]:=by simp [Ed,List.range_succ]
theorem M_ (q d r k:Nat):(Ed q d r k).length=k:=by simp [Ed]
theorem X4 (st:List (Nat×Nat)) (h:∀p ∈ st,1<=p.1):st.length<=(LK st).length:=by
 induction st with
 | nil=>simp
 | cons p st ih=>
  have h1:=ih (fun p hp=>h p (by simp [hp]));have h2:=fG p.2 (h p ax);have h3:2^1<=2^p.1:=Nat.pow_le_pow_right xo (h p ax);simp only [LK,List.reverse_cons,List.flatMap_append,List.length_append,List.length_cons] at h1 ⊢;simp only [List.flatMap_cons,List.flatMap_nil,List.append_nil];omega
theorem X3 (q d r:Nat):LK (Ed q d r (2^q))=(List.range (2^q)).flatMap fun i=>lay d (r*2^q+i):=by
 have key:∀n,n<=2^q->(Ed q d r n).reverse.flatMap (fun p=>lay p.1 p.2)=(List.range n).flatMap fun i=>lay d (r*2^q+2^q-n+i):=by
  intro n;induction n with
  | zero=>intro _;simp [Ed]
  | succ n ih=>
   intro hn;rw [CB,List.reverse_append,List.flatMap_append,ih xo,List.range_succ_eq_map];simp only [List.reverse_cons,List.reverse_nil,List.nil_append,List.flatMap_cons,List.flatMap_nil,List.append_nil,List.flatMap_map,Nat.add_zero];congr 1
   . congr 1;omega
   . refine congrArg (fun f=>(List.range n).flatMap f) ?_;funext i
     congr 1
     have:=Nat.two_pow_pos q;simp only [Nat.succ_eq_add_one];omega
 have:=key (2^q) (Nat.le_refl _);rw [LK,this];refine congrArg (fun f=>(List.range (2^q)).flatMap f) ?_;funext i
 congr 1
 omega
theorem BP (a b:List (Nat×Nat)):LK (a++b)=LK b++LK a:=by simp [LK]
theorem xe (a b:List (Nat×Nat)):ND (a++b)=ND a+ND b:=by simp [ND]
theorem YG (q d r k:Nat):ND (Ed q d r k)=k*(2*2^d-3):=by
 induction k with
 | zero=>simp [Ed,ND]
 | succ k ih=>rw [CB,xe,ih,Nat.add_mul];simp [ND]
theorem CU {w:World} {B:Nat} {e:TypeId} {s:Nat} {v:Value} {n:Nat} {xs:List Value} (h:w.ownsRow B e s v n xs):
    ∃ao cap,v= .slice ao n cap/\n<=cap/\cap<=maxLen/\(∀x,ao=some x->∃g,x=⟨g,0,none⟩/\B<=g/\g<w.heap.size)/\(0<n->∃g,ao=some ⟨g,0,none⟩):=by
 obtain ⟨_,⟨rfl,rfl⟩ | ⟨g,cap,cur,rfl,hg,hh,hn,hm,_⟩⟩:=h
 . exact ⟨none,0,rfl,Nat.le_refl _,Nat.zero_le _,fun x hx=>(by cases hx),fun h=>xo⟩
 . exact ⟨some ⟨g,0,none⟩,cap,rfl,hn,hm,fun x hx=>(by cases hx;exact ⟨g,rfl,hg,(Array.getElem?_eq_some_iff.1 hh).1⟩),fun _=>⟨g,rfl⟩⟩
theorem YN (L:Nat) (h1:1<=L) (h2:L<=14) (w:World):
    Calls Tryz.prog 202 #[.int .i64 L] w (zD w (ints (lay L 1))):=by
 go_enter Tryz.func202,Tryz.ntmps202
 go_wp2
 refine bZ 0 (agK L w.heap.size w) rfl ?_ ?_
 . rintro n a wo ⟨out,st,vo,vs,hl,u,rfl⟩ H hH;rcases List.eq_nil_or_concat st with rfl | ⟨st',⟨l,r⟩,rfl⟩
   . obtain ⟨ao,cap,rfl,_⟩:=CU hl.sts;go_wp2
     simp only [Exit.jump];go_ret
     have e:out=lay L 1:=by have:=hl.inv;simpa [LK] using this
     refine ⟨vo,rfl,?_,hl.bel⟩;rw [<-e];exact hl.outs
   . obtain ⟨hinv,JU,Wj,Qb,NS,hbel⟩:=hl;obtain ⟨m,hm⟩:∃m,st'.length=m:=⟨_,rfl⟩
     have hlen:(st'.concat (l,r)).length=m+1:=by simp [hm]
     rw [hlen,UT] at NS;rw [UA] at hinv;rw [VH] at JU;have hkl:(stk st').length=m*2:=by rw [MJ,hm]
     obtain ⟨ao,cap,rfl,hle,hmax,_,hpos⟩:=CU NS;obtain ⟨g,rfl⟩:=hpos xo;unfold maxLen at hmax;have e0:((m:Int)+1==0)=false:=by simp;omega
     have hc0:wo.cell? ⟨g,m*2,none⟩=some (.int .i64 l):=by
      rw [NS.cellAt (m*2) xo,<-hkl];simp
     have hc1:wo.cell? ⟨g,m*2+1,none⟩=some (.int .i64 r):=by
      rw [NS.cellAt (m*2+1) xo,<-hkl];simp
     have hpop:=ownsRow_pop hkl NS;have hap:=kQ Qb NS au;have hlr:=Wj (l,r) ax;have hch:∀p ∈ st',1<=p.1/\p.1<=14/\(p.2+1)*2^p.1<=1048576:=fun p hp=>Wj p (by simp [hp])
     have hL:=congrArg List.length hinv;rw [List.length_append,fG 1 h1] at hL;have hL2:2^L<=16384:=Nat.pow_le_pow_right xo h2;have hlo:(ints out).length<=16384:=by rw [jD];omega
     have hsz:=hbel.size;have hmb:m<=16384:=by
      have h6:=X4 st' (fun p hp=>(hch p hp).1);rw [List.length_append] at hL;omega
     have HM:=hid hm;have HI:=hid hinv;have HY:=hid JU;have HE:=hid hch;have HA:=hid hap;obtain ⟨hl0,afW,hlB⟩:=hlr;simp only at hl0 afW hlB;clear hm hlen hinv JU Wj hch hap hL NS hpos;by_cases hl1:l=1
     . subst hl1;go_wp2_with (at_builtin;refine nU (.tmp 30) (.tmp 33) 26 3 (.int .i64 0) 1 8 Tryz.underlying26 qB rfl au au w.heap.size vo _ _ (some ⟨wo.heap.size+1,0,none⟩) 1 1 [.int .i64 r] ((Qb.alloc _).alloc _) rfl aS (oq _ [.int .i64 r] _ _ ax) (by simp [Value.oneCell']) xo (by simp;omega) rfl rfl rfl rfl ?_;intro v3 w3 hown3 hgrow3 _)
       go_step3
       have hx:ints (out++[r])=ints out++[(r:Int)]:=by rw [JM];rfl
       have hown4:w3.ownsRow w.heap.size 3 1 v3 (ints (out++[r])).length ((ints (out++[r])).map (Value.int .i64)):=by
        rw [hx,List.length_append,List.map_append];exact hown3
       have hst3:=((hpop.alloc (.cells #[.int .i64 1,.int .i64 r] 265)).alloc (.cells #[.int .i64 r] 3)).kept hgrow3 (OC HA.out);refine show (0=0/\H _ _) from ⟨rfl,hH (ND st') _ _ (by rw [HY.out];omega) ⟨out++[r],st',v3,_,⟨?_,rfl,HE.out,hown4,by rw [HM.out];exact hst3,?_⟩,jq _ _ _ rfl⟩⟩
       . have:=HI.out;rw [Bl] at this;simpa using this
       . exact ((hbel.alloc hsz _).alloc (by simp;omega) _).grown hgrow3 (by simp;omega) (fun q hq=>(Qb.lt q hq).1)
     . have e1:((l:Int)==1)=false:=by simp;omega
       obtain ⟨q,hq⟩:∃q,l/2=q:=⟨_,rfl⟩
       obtain ⟨d,hd⟩:∃d,(l+1)/2=d:=⟨_,rfl⟩
       have hq2:(l:Int)/2=q:=xo;have hd2:((l:Int)+1)/2=d:=xo;have hqd:1<=q/\q<=7/\1<=d/\d<=7/\l=q+d:=xo;obtain ⟨hq0,hq7,hd0,hd7,ad1⟩:=hqd;obtain ⟨hb1,hb2⟩:=wZ q xo;have HQ:=hid hq2;have HD:=hid hd2;have HL:=hid ad1;clear hq2 hd2 ad1 hq hd;go_wp2_with fail
       refine (Lp _ xo xo _).mono ?_;rintro e w' ⟨rfl,rfl⟩;rw [HQ.out,HD.out];have hm1:0<=(r:Int)*2^q:=Int.mul_nonneg xo xo;have hm2:(r:Int)*2^q+2^q<=1048576:=by
        have e:(r:Int)*2^q+2^q=(((r+1)*2^q:Nat):Int):=by push_cast;rw [Int.add_mul,Int.one_mul]
        have h5:(r+1)*2^q<=(r+1)*2^l:=Nat.mul_le_mul_left _ (Nat.pow_le_pow_right xo (by have:=HL.out;omega));rw [e];omega
       have hp2:((2^q:Nat):Int)=2^q:=by push_cast;rfl
       have HP:=hid hp2;clear hp2;go_wp2
       go_loopg [3,44] (2^q) (fun gk v i wr=>∃k:Nat,k+gk=2^q/\i= .int .i64 k/\
         wr.ownsRow w.heap.size 265 2 v (m+k) (stk st'++stk (Ed q d r k))/\v.ownBlock≠some wo.heap.size/\
         wr.ownsRow w.heap.size 3 1 vo (ints out).length ((ints out).map (Value.int .i64))/\Below w.heap.size w wr/\
         wr.cell? ⟨wo.heap.size,1,none⟩=some (.int .i64 r)/\wo.heap.size<wr.heap.size)
       case atStart=>
        refine ⟨0,by omega,rfl,?_,?_,Qb.alloc _,hbel.alloc hsz _,by simp,by simp⟩
        . have:=hpop.alloc (.cells #[.int .i64 l,.int .i64 r] 265);simpa [Ed,stk] using this
        . intro e;have:=(hpop.lt _ e).2;omega
       case round=>
        obtain ⟨k,hk,rfl,hs,hne,ho,hbe,hc1,hsz⟩:=hrel;have hkk:(k:Int)+gk=2^q:=by rw [<-HP.out,<-hk];push_cast;rfl
        have HK:=hid hk;clear hk;by_cases hlt:0<gk
        . have ajq:(k:Int)<2^q:=xo;have HKK:=hid hkk;clear hkk;have hmk:m+k+1<=4294967296:=by have:=HK.out;have h7:2^q<=2^7:=Nat.pow_le_pow_right xo hq7;omega
          have hw1:IntKind.i64.wrap ((r:Int)*2^q)=(r:Int)*2^q:=IntWalk.i64_in _ xo;have hw2:IntKind.i64.wrap ((2:Int)^q)=(2:Int)^q:=IntWalk.i64_in _ xo;have hw3:IntKind.i64.wrap ((r:Int)*2^q+2^q)=(r:Int)*2^q+2^q:=IntWalk.i64_in _ xo;have hw4:IntKind.i64.wrap ((r:Int)*2^q+2^q-1)=(r:Int)*2^q+2^q-1:=IntWalk.i64_in _ xo;have hw5:IntKind.i64.wrap ((r:Int)*2^q+2^q-1-k)=(r:Int)*2^q+2^q-1-k:=IntWalk.i64_in _ xo;go_wp2
          go_region_law (refine Jb (.tmp 47) (.tmp 60) 266 265 (.agg #[.int .i64 0,.int .i64 0]) 2 16 Tryz.underlying266 EU rfl au au w.heap.size _ _ _ (some ⟨wr.heap.size,0,none⟩) 1 1 [.int .i64 d,.int .i64 ((r:Int)*2^q+2^q-1-k)] (hs.drew.alloc _) rfl aS (oq wr.drew _ _ _ ax) (by simp [Value.oneCell']) hmk (by simp;omega) rfl rfl rfl rfl ?_;intro v3 w3 hown3 hgrow3 hfr3)
          clear hw1 hw2 hw3 hw4 hw5;have Y8:=kQ ho hs au;have hes:stk st'++stk (Ed q d r (k+1))=(stk st'++stk (Ed q d r k))++[.int .i64 d,.int .i64 ((r:Int)*2^q+2^q-1-k)]:=by
           rw [CB,wX,<-List.append_assoc];have e:((r*2^q+2^q-1-k:Nat):Int)=(r:Int)*2^q+2^q-1-k:=by
            have h1:k+1<=2^q:=by have:=HK.out;omega
            have h2:((r*2^q+2^q-1-k:Nat):Int)=((r*2^q+2^q:Nat):Int)-1-k:=xo;rw [h2];push_cast;rfl
           simp [stk,e]
          rw [<-hes] at hown3;have ho3:=((ho.drew).alloc (.cells #[.int .i64 d,.int .i64 ((r:Int)*2^q+2^q-1-k)] 265)).kept hgrow3 Y8;have abU:=((hbe.drew).alloc (by have:=hbe.size;simpa using this) (.cells #[.int .i64 d,.int .i64 ((r:Int)*2^q+2^q-1-k)] 265)).grown hgrow3 (by have:=hbe.size;simp;omega) (fun z hz=>(hs.lt z hz).1);have hc3:w3.cell? ⟨wo.heap.size,1,none⟩=some (.int .i64 r):=hgrow3.cell (by exact (World.cell?_alloc_lt wr _ _ hsz).trans hc1) (fun e=>hne e.symm);have Dl:v3.ownBlock≠some wo.heap.size:=by
           intro e;rcases hfr3 with h|h
           . exact hne (h.symm.trans e)
           . have:=h _ e;simp at this;omega
          have hsz3:wo.heap.size<w3.heap.size:=by have:=hgrow3.size;simp at this;omega
          clear hes Y8 hfr3;go_wp2
          go_roundg (gk-1)
          case measure=>omega
          case rel=>exact ⟨k+1,by have:=HK.out;omega,by go_num,hown3,Dl,ho3,abU,hc3,hsz3⟩
        . have hk2:k=2^q:=by have:=HK.out;omega
          have hge:¬((k:Int)<2^q):=xo;have Lt:=hid hk2;have h7:2^q<=2^7:=Nat.pow_le_pow_right xo hq7;have hmk:m+k+1<=4294967296:=xo;clear hk2 hkk;go_wp2_with (at_builtin;refine nU (.tmp 63) (.tmp 68) 266 265 (.agg #[.int .i64 0,.int .i64 0]) 2 16 Tryz.underlying266 EU rfl au au w.heap.size _ _ _ (some ⟨wr.heap.size,0,none⟩) 1 1 [.int .i64 q,.int .i64 r] (hs.alloc _) rfl aS (oq _ _ _ _ rfl) (by simp [Value.oneCell']) hmk (by have:=hbe.size;simp;omega) rfl rfl rfl rfl ?_;intro v3 w3 hown3 hgrow3 _)
          go_step3
          have Y8:=kQ ho hs au;have ho3:=(ho.alloc (.cells #[.int .i64 q,.int .i64 r] 265)).kept hgrow3 Y8;have abU:=(hbe.alloc hbe.size (.cells #[.int .i64 q,.int .i64 r] 265)).grown hgrow3 (by have:=hbe.size;simp;omega) (fun z hz=>(hs.lt z hz).1);have hst:stk st'++stk (Ed q d r k)++[.int .i64 q,.int .i64 r]=stk (st'++Ed q d r (2^q)++[(q,r)]):=by
           rw [wX,wX,Lt.out];rfl
          have hln:m+k+1=(st'++Ed q d r (2^q)++[(q,r)]).length:=by
           simp [M_,HM.out,Lt.out];omega
          rw [hst,hln] at hown3;have VZ:2^l=2^q*2^d:=by rw [HL.out,Nat.pow_add]
          refine show (0=0/\H _ _) from ⟨rfl,hH (ND (st'++Ed q d r (2^q)++[(q,r)])) _ _ ?_ ⟨out,st'++Ed q d r (2^q)++[(q,r)],vo,v3,⟨?_,rfl,?_,ho3,hown3,abU⟩,jq _ _ _ rfl⟩⟩
          . rw [HY.out,xe,xe,YG,VZ];have p1:=Nat.two_pow_pos q;have p2:2^1<=2^d:=Nat.pow_le_pow_right xo hd0;have p3:2^1<=2^q:=Nat.pow_le_pow_right xo hq0;have e3:2^q*(2*2^d-3)=2*(2^q*2^d)-3*2^q:=by
             rw [Nat.mul_sub,Nat.mul_left_comm,Nat.mul_comm 3]
            have e4:2^q*2<=2^q*2^d:=Nat.mul_le_mul_left _ p2;rw [e3];simp only [ND,List.map_cons,List.map_nil,List.sum_cons,List.sum_nil];omega
          . have e5:lay l r=lay q r++LK (Ed q d r (2^q)):=by
              rw [X3,xW xo];have e6:l/2=q:=by have:=HQ.out;omega
              have e7:l-q=d:=by have:=HL.out;omega
              rw [e6,e7]
            rw [BP,BP,<-HI.out,e5];simp [LK]
          . intro p hp;rcases List.mem_append.1 hp with hp|hp
            . rcases List.mem_append.1 hp with hp|hp
              . exact HE.out p hp
              . simp only [Ed,List.mem_map,List.mem_range] at hp;obtain ⟨i,hi,rfl⟩:=hp;refine ⟨hd0,by omega,?_⟩;simp only;rw [VZ,<-Nat.mul_assoc] at hlB;refine Nat.le_trans (Nat.mul_le_mul_right _ ?_) hlB;rw [Nat.add_mul];omega
            . simp only [List.mem_singleton] at hp;subst hp;exact ⟨hq0,by omega,Nat.le_trans (Nat.mul_le_mul_left _ (Nat.pow_le_pow_right xo (by have:=HL.out;omega))) hlB⟩
 . intro H hH nS;go_wp2
   go_step3
   go_step
   go_step
   refine nS (ND [(L,1)]) _ _ ⟨[],[(L,1)],_,_,⟨by simp [LK],rfl,?_,World.ownsRow_nil _ _ _ _,World.ownsRow_lit w #[.int .i64 L,.int .i64 1] 1 (Nat.le_refl _) au rfl,br.alloc (Nat.le_refl _) _⟩,jq _ _ _ rfl⟩;intro p hp;simp only [List.mem_singleton] at hp;subst hp;have:2^L<=2^14:=Nat.pow_le_pow_right xo h2;exact ⟨h1,h2,by simp only;omega⟩
theorem Xp (L:Nat) (l:Int) (hl:l=L) (h1:1<=L) (h2:L<=14) (w:World):
    Calls Tryz.prog 155 #[.int .i64 l] w fun e w'=>
     ∃v,e= .returned (.tuple #[v,.int .i64 0])/\w'.ownsRow w.heap.size 3 1 v (GI L).length ((GI L).map (Value.int .i64))/\Below w.heap.size w w':=by
 subst hl;have hp:1<=2^L/\2^L<=16384:=⟨Nat.two_pow_pos L,Nat.pow_le_pow_right xo h2⟩
 have e1:(2:Int)^L-1=((2^L-1:Nat):Int):=by rw [Int.natCast_sub hp.1];push_cast;rfl
 go_enter Tryz.func155,Tryz.ntmps155
 have E1:=hid e1;clear e1;go_wp2_with (first
   | (go_at_call 162;refine (Il _ xo xo _).mono ?_;rintro e w' ⟨rfl,rfl⟩)
   | (at_make;refine D7 (.tmp 17) (.tmp 17) w.heap.size (2^L-1) _ E1.out xo (Nat.le_refl _) rfl rfl rfl rfl ?_;intro g w1 hg hown hbel))
 refine (YN L h1 h2 _).mono ?_;rintro e w2 ⟨v2,rfl,ho2,qZ⟩;have adW:=ay hown qZ;have ad9:=hbel.trans (qZ.mono hbel.size);obtain ⟨a2,cap2,rfl,hi2,hb2,_⟩:=G6 ho2;have hlen:(ints (lay L 1)).length=2^L-1:=by rw [jD,fG 1 h1]
 have HLEN:=hid hlen;have aho:(ints (lay L 1)).length<=16384:=xo;have ajs:=(hown.lt g rfl).2;clear hown hlen ho2;have HI:=hid hi2;have HB:=hid hb2;clear hi2 hb2;go_wp2
 go_loopg [22] (2^L-1) (fun gk i wr=>∃k:Nat,k+gk=2^L-1/\i= .int .i64 k/\
     wr.ownsRow w.heap.size 3 1 (.slice (some ⟨g,0,none⟩) (2^L-1) (2^L-1)) (jU (2^L-1) (lay L 1) k).length ((jU (2^L-1) (lay L 1) k).map (Value.int .i64))/\
     Below w.heap.size w wr/\pF wr a2 (ints (lay L 1)))
 case atStart=>exact ⟨0,by omega,rfl,adW,ad9,HI.out⟩
 case round=>
  obtain ⟨k,hk,rfl,how,hbe,hin⟩:=hrel;have HK:=hid hk;by_cases hlt:k<(ints (lay L 1)).length
  . have hin2:=Dc (L:=L) (k:=k) h1 (by rw [<-HLEN.out];exact hlt);obtain ⟨b2,o2,x,rfl,hx,hc2,ajy⟩:=hin.get hlt;have hx2:=hx.out;rw [vY] at hx2;have hxb:1<=x/\x<=16384:=xo;have hjl:(x.toNat-1)<(jU (2^L-1) (lay L 1) k).length:=by rw [jd];omega
    obtain ⟨⟨y,hy,hcy⟩,hfz,hst⟩:=Su how hjl;have hle:x<=((2^L-1:Nat):Int):=xo;have HX:=hid hx2;clear hx2 hk hin2;go_wp2
    go_roundg (gk-1)
    case measure=>have:=HK.out;have:=HLEN.out;omega
    case rel=>
     have ex:x.toNat=(lay L 1).getD k 0:=by have:=HX.out;omega
     refine ⟨k+1,by have:=HK.out;have:=HLEN.out;omega,by go_num,?_,hbe.setCell (by exact hg) _,hin.setCell (fun z hz=> ?_) _⟩
     . rw [jU,<-ex];exact hst k
     . have h9:w1.heap.size<=b2:=(HB.out ⟨b2,o2,none⟩ rfl).1;cases hz;show b2≠g;omega
  . go_wp2
    go_ret2
    refine ⟨_,rfl,?_,hbe⟩;have hk2:k=2^L-1:=by have:=HLEN.out;omega
    rw [hk2] at how;have e2:(GI L).length=2^L-1:=by rw [GI,jd]
    rw [e2];rw [jd] at how;exact how
theorem Sv:(Tryz.prog.info? 141).map (fun i=>(i.zero,i.size,i.bytes))=some (some (.agg #[.int .i64 0,.int .i64 0,.int .i64 0]),3,24):=by kernel_rfl
def m_ (a b c:Nat->Int) (M:Nat):List Value:=(flat3 a b c M).map (Value.int .i64)
theorem VE (L k g cap b1 b2 M B:Nat) (ao:Option Addr) (ac:Nat) (h2:k+1<M) (hM:M=2^L) (W:World)
    (hp:aQ .i64 W ao (GI L)) (c1:W.cell? ⟨b1,0,none⟩=some (.slice ao (GI L).length ac)) (c2:W.cell? ⟨b2,0,none⟩=some (.slice (some ⟨g,0,none⟩) M cap))
    (ho:W.ownsRow B 141 3 (.slice (some ⟨g,0,none⟩) M cap) M (m_ (fun _=>0) (fun _=>0) (upTo (n_ L) k) M)) (hb:M<=16384):
    Calls Tryz.prog 156 #[.int .i64 ((k:Int)+1),.pointer (some ⟨b1,0,none⟩),.pointer (some ⟨b2,0,none⟩)] W fun e W'=>e= .returned (.tuple #[])/\W'=W.drew.setCell ⟨g,(k+1)*3+2,none⟩ (.int .i64 (n_ L (k+1))):=by
 have hlen:=w_ L;obtain ⟨b,off,x,rfl,hx,hcx,hlt⟩:=hp.get (i:=k) xo;have hxx:n_ L (k+1)=x:=by rw [n_,if_neg xo];exact hx.out
 have hf3:(flat3 (fun _=>0) (fun _=>0) (upTo (n_ L) k) M).length=M*3:=dE;obtain ⟨k1,k2⟩:=bM ho (j:=(k+1)*3+2) xo;rw [hxx];have hwr:IntKind.i64.wrap (k:Int)=(k:Int):=IntWalk.i64_in _ xo;have h5:((k:Int)+1).toNat=k+1:=xo;have h3:k<(GI L).length:=xo;generalize hN:(GI L).length=N at hp hlen c1 h3;generalize ((flat3 (fun x=>0) (fun x=>0) (upTo (n_ L) k) M).getD ((k+1)*3+2) 0)=z at k1;clear ho hp hf3 hx hlen hxx hM;go_enter Tryz.func156,Tryz.ntmps156
 go_still_tail 7,xk
 go_wp2
 all_goals exact bodyPost_end (results_none rfl _ _ _) rfl ⟨rfl,rfl⟩
theorem JA (L:Nat) (l:Int) (hl:l=L) (h1:1<=L) (h2:L<=14) (w:World):
    Calls Tryz.prog 82 #[.int .i64 l] w fun e w'=>∃g,e= .returned (.slice (some ⟨g,0,none⟩) (2^L) (2^L))/\
      w'.ownsRow w.heap.size 141 3 (.slice (some ⟨g,0,none⟩) (2^L) (2^L)) (2^L) (m_ (fun _=>0) (fun _=>0) (n_ L) (2^L))/\Below w.heap.size w w':=by
 have hp:1<=2^L/\2^L<=16384:=⟨Nat.two_pow_pos L,Nat.pow_le_pow_right xo h2⟩
 have hlen:=w_ L;obtain ⟨N,hN⟩:∃N,(GI L).length=N:=⟨_,rfl⟩
 have hM:N+1=2^L:=xo;have hMb:N+1<=16384:=xo;rw [<-hM];have HM:=hid hM;have HN:=hid hN;have hT:=hid (Xp L l hl h1 h2 w);clear hM hp hlen h1 h2 hl hN;have hmf:∀(fn:Fn) (first cap:Array Value) (w:World),(Instr.makeFunc fn first cap).run Tryz.prog w= .ok (.func fn first cap) w:=fun _ _ _ _=>rfl
 go_enter Tryz.func82,Tryz.ntmps82
 go_wp2_with fail
 refine hT.out.mono ?_;rintro e w1 ⟨v,rfl,ho,hb⟩;obtain ⟨ao,ac,rfl,hi,hbl,-,-,-⟩:=ak ho;rw [HN.out];have HI:=hid hi;have ru:=hid hbl;have hs1:=hb.size;clear ho hi hbl;go_wp2_with (first
   | (at_make;refine Uo (.tmp 15) (.tmp 15) 135 141 _ 3 24 Tryz.underlying135 Sv au w.heap.size (N+1) _ xo xo (by simp;omega) rfl rfl rfl rfl ?_;intro g w2 hg hown hbel;rw [show Value.cells (.agg #[.int .i64 0,.int .i64 0,.int .i64 0])= #[.int .i64 0,.int .i64 0,.int .i64 0] from rfl,NF] at hown
      have hg2:w1.heap.size+1<=g:=by simpa using hg
      have hz2:w1.heap.size+1<=w2.heap.size:=by have:=hbel.size;simp at this;omega
      have hz3:w1.heap.size<w2.heap.size:=xo;have hgl:g<w2.heap.size:=(hown.lt g rfl).2;have c1:w2.cell? ⟨w1.heap.size,0,none⟩=some (.slice ao N ac):=(hbel.cell (p:=⟨w1.heap.size,0,none⟩) ax).trans iP;have hb2:Below w.heap.size w w2:=aj hbel (hb.alloc hs1 _) (by simp;omega);have hi2:aQ .i64 w2 ao (GI L):=HI.out.below (aj hbel (br.alloc (Nat.le_refl _) _) ax);have H2:=hid (And.intro hown (And.intro hb2 hi2));clear hown hbel hg hb2 hi2))
 go_loopg [20] N (fun gk i wr=>∃k:Nat,k+gk=N/\i= .int .i64 k/\wr.cell? ⟨w1.heap.size,0,none⟩=some (.slice ao N ac)/\wr.cell? ⟨w2.heap.size,0,none⟩=some (.slice (some ⟨g,0,none⟩) (N+1) (N+1))/\
     Hid (wr.ownsRow w.heap.size 141 3 (.slice (some ⟨g,0,none⟩) (N+1) (N+1)) (N+1) (m_ (fun _=>0) (fun _=>0) (upTo (n_ L) k) (N+1)))/\Hid (Below w.heap.size w wr)/\Hid (aQ .i64 wr ao (GI L))/\w2.heap.size<wr.heap.size)
 case atStart=>
  obtain ⟨hown,hb2,hi2⟩:=H2.out;refine ⟨0,by omega,rfl,by (exact dL),by (exact dL),hid ?_,hid (hb2.alloc xo _),hid (hi2.alloc _),by simp⟩;rw [yG (Vm L)];exact ay hown (br.alloc (Nat.le_refl _) _)
 case round=>
  obtain ⟨k,hk,rfl,c1,c2,HO,HB,HI2,hz⟩:=hrel;by_cases hlt:k<N
  . have hc:=VE L k g (N+1) w1.heap.size w2.heap.size (N+1) w.heap.size ao ac xo HM.out wr HI2.out (by rw [HN.out];exact c1) c2 HO.out hMb;have HC:=hid hc;clear hc;go_wp2_with fail
    refine HC.out.mono ?_;rintro e w3 ⟨rfl,rfl⟩;go_wp2
    go_roundg (gk-1)
    case measure=>omega
    case rel=>
     refine ⟨k+1,by omega,by go_num,by (exact dC),by (exact dC),hid ?_,hid ((HB.out.setCell (by show w.heap.size<=g;omega) _).drew),hid ((HI2.out.setCell (fun z hz=>by have:=ru.out z hz;show z.block≠g;omega) _).drewN 1),by simpa using hz⟩;have:=dX HO.out ((k+1)*3+2) (n_ L (k+1));rw [Ol xo,yO _ _ _ rfl] at this;exact this
  . have hkN:k=N:=xo;go_wp2
    go_ret
    refine ⟨g,rfl,?_,HB.out⟩;have:=HO.out;have e:m_ (fun _=>0) (fun _=>0) (upTo (n_ L) k) (N+1)=m_ (fun _=>0) (fun _=>0) (n_ L) (N+1):=by
     unfold m_;rw [uT (c':=n_ L) (fun _ _=>rfl) (fun _ _=>rfl) (fun i hi=>by unfold upTo;rw [if_pos xo])]
    rw [<-e];exact this
theorem Pv (L N:Nat) (l:Int) (hl:l=L) (h1:1<=L) (h2:L<=14) (hN:N+1=2^L) (ma ca:Option Addr) (mc cc:Nat) (ms cs:List Int) (hlm:ms.length=N) (hlc:cs.length=N) (w:World)
    (hm:aQ .i64 w ma ms) (hc:aQ .i64 w ca cs):
    Calls Tryz.prog 92 #[um l ma N mc ca N cc] w fun e w'=>∃g,e= .returned (.tuple #[.slice (some ⟨g,0,none⟩) (N+1) (N+1),.bool true])/\
      w'.ownsRow (w.heap.size+1) 141 3 (.slice (some ⟨g,0,none⟩) (N+1) (N+1)) (N+1) (m_ (fU L ms) (fU L cs) (n_ L) (N+1))/\Below w.heap.size w w':=by
 have hp:2^L<=16384:=Nat.pow_le_pow_right xo h2;have hMb:N+1<=16384:=xo;have hN1:0<N:=by have:2^1<=2^L:=Nat.pow_le_pow_right xo h1;omega
 have hS:=Il l xo xo;have e1:(2:Int)^l.toNat-1=(N:Int):=by
  have:(2:Int)^l.toNat=((2^L:Nat):Int):=by rw [show l.toNat=L by omega];push_cast;rfl
  rw [this];omega
 rw [e1] at hS;have HS:=hid hS;have hNd:=JA L l hl h1 h2;rw [<-hN] at hNd;have HN:=hid hNd;have hpc:∀n,0<=n_ L n/\n_ L n<N:=fun n=>by have:=abp h1 n;omega
 have HP:=hid hpc;have HM:=hid hm;have HC:=hid hc;have HLM:=hid hlm;have XF:=hid hlc;clear hS e1 hNd hN hp hpc h1 h2 hl hm hc hlm hlc;go_enter Tryz.func92,Tryz.ntmps92
 go_wp2_with (first
   | (go_at_call 162;refine (HS.out _).mono ?_;rintro e w' ⟨rfl,rfl⟩)
   | (go_at_call 82;refine (HN.out _).mono ?_;rintro e w1 ⟨g,rfl,ho,hb⟩
      have hg:=(ho.lt g rfl)
      simp only [World.size_alloc] at hg hb ho;have hz1:w.heap.size+1<=w1.heap.size:=by have:=hb.size;simp at this;omega
      have c0:w1.cell? ⟨w.heap.size,0,none⟩=some (.int .i64 l):=(hb.cell (p:=⟨w.heap.size,0,none⟩) ax).trans iP;have c1:w1.cell? ⟨w.heap.size,1,none⟩=some (.slice ma N mc):=(hb.cell (p:=⟨w.heap.size,1,none⟩) ax).trans iP;have c2:w1.cell? ⟨w.heap.size,2,none⟩=some (.slice ca N cc):=(hb.cell (p:=⟨w.heap.size,2,none⟩) ax).trans iP;have HO:=hid ho;have HB:=hid (aj hb ((Below.refl _ w).alloc (Nat.le_refl _) _) xo);clear ho hb))
 go_loopg [37] N (fun gk i wr=>∃k:Nat,k+gk=N/\i= .int .i64 k/\wr.cell? ⟨w.heap.size,1,none⟩=some (.slice ma N mc)/\wr.cell? ⟨w.heap.size,2,none⟩=some (.slice ca N cc)/\
     Hid (wr.ownsRow (w.heap.size+1) 141 3 (.slice (some ⟨g,0,none⟩) (N+1) (N+1)) (N+1) (m_ (upTo (fU L ms) k) (upTo (fU L cs) k) (n_ L) (N+1)))/\Hid (Below w.heap.size w wr))
 case atStart=>
  refine ⟨0,by omega,rfl,c1,c2,hid ?_,HB⟩;rw [yG (I5 L ms),yG (I5 L cs)];exact HO.out
 case round=>
  obtain ⟨k,hk,rfl,c1,c2,HO,HB⟩:=hrel;by_cases hlt:k<N
  . have hpk:=HP.out (k+1);obtain ⟨p,hpp⟩:∃p:Nat,n_ L (k+1)=p:=⟨(n_ L (k+1)).toNat,by omega⟩
    have hpN:p<N:=xo;have hlen:(flat3 (upTo (fU L ms) k) (upTo (fU L cs) k) (n_ L) (N+1)).length=(N+1)*3:=dE;obtain ⟨d0,d1⟩:=bM HO.out (j:=(k+1)*3+2) xo;rw [Hu xo,hpp] at d0;obtain ⟨d2,d3⟩:=bM HO.out (j:=(k+1)*3) xo;obtain ⟨d4,d5⟩:=bM HO.out (j:=(k+1)*3+1) xo;generalize (flat3 (upTo (fU L ms) k) (upTo (fU L cs) k) (n_ L) (N+1)).getD ((k+1)*3) 0=y0 at d2;generalize (flat3 (upTo (fU L ms) k) (upTo (fU L cs) k) (n_ L) (N+1)).getD ((k+1)*3+1) 0=y1 at d4;obtain ⟨b1,o1,x1,rfl,hx1,hc1,-⟩:=(HM.out.below HB.out).get (i:=p) (by rw [HLM.out];exact hpN);obtain ⟨b2,o2,x2,rfl,hx2,hc2,-⟩:=(HC.out.below HB.out).get (i:=p) (by rw [XF.out];exact hpN);have hwr:IntKind.i64.wrap ((k:Int)+1)=(k:Int)+1:=IntWalk.i64_in _ xo;have h5:((k:Int)+1).toNat=k+1:=xo;have HPP:=hid hpp;have HK:=hid hk;clear hpp hlen hpk c0;go_wp2
    go_still_tail 14,xk
    go_wp2
    go_roundg (gk-1)
    case measure=>have:=HK.out;omega
    case rel=>
     have hgw:w.heap.size≠g:=xo;refine ⟨k+1,by have:=HK.out;omega,by go_num,by (exact dC),by (exact dC),hid ?_,hid (((HB.out.setCell (by show w.heap.size<=g;omega) _).setCell (by show w.heap.size<=g;omega) _).drew)⟩;have q1:fU L ms (k+1)=x1:=by rw [fU,if_neg xo,HPP.out];exact hx1.out
     have q2:fU L cs (k+1)=x2:=by rw [fU,if_neg xo,HPP.out];exact hx2.out
     have o1:=dX HO.out ((k+1)*3) x1;rw [xw xo,yO _ _ _ q1.symm] at o1;have o2:=dX o1 ((k+1)*3+1) x2;rw [xu xo,yO _ _ _ q2.symm] at o2;exact o2
  . have hkN:k=N:=xo;go_wp2
    go_ret2
    refine ⟨g,rfl,?_,HB.out⟩;have:=HO.out;have e:m_ (upTo (fU L ms) k) (upTo (fU L cs) k) (n_ L) (N+1)=m_ (fU L ms) (fU L cs) (n_ L) (N+1):=by
     unfold m_;rw [uT (a':=fU L ms) (b':=fU L cs) (c':=n_ L) (fun i hi=>by unfold upTo;rw [if_pos xo]) (fun i hi=>by unfold upTo;rw [if_pos xo]) (fun _ _=>rfl)]
    rw [<-e];exact this
theorem U3 (l:Int) (ma ca:Option Addr) (mc cc:Nat) (ms cs:List Int) (h:¬Dh l ms cs) (w:World):
    Calls Tryz.prog 92 #[um l ma ms.length mc ca cs.length cc] w (Ans w (.tuple #[.slice none 0 0,.bool false])):=by
 by_cases hl:1<=l/\l<=14
 . obtain ⟨h1,h2⟩:=hl;obtain ⟨N,hN⟩:∃N:Nat,2^l.toNat-1=N:=⟨_,rfl⟩
   have hpos:=Nat.two_pow_pos l.toNat;have e1:(2:Int)^l.toNat-1=(N:Int):=by
    have:(2:Int)^l.toNat=((2^l.toNat:Nat):Int):=by push_cast;rfl
    rw [this];omega
   have hS:=Il l h1 h2;rw [e1] at hS;have HS:=hid hS;have hd:ms.length≠N\/cs.length≠N:=by
    by_cases h3:ms.length=N
    . by_cases h4:cs.length=N
      . exact absurd ⟨h1,h2,by omega,by omega⟩ h
      . exact .inr h4
    . exact .inl h3
   clear e1 hS h;generalize ms.length=m at *;generalize cs.length=c at *;by_cases h3:m=N
   . have h4:c≠N:=xo;have e3:((m:Int) != (N:Int))=false:=by simp [h3]
     have e4:((c:Int) != (N:Int))=true:=by simp;omega
     clear h3 h4 hd hN hpos;go_enter Tryz.func92,Tryz.ntmps92
     go_wp2_with (go_at_call 162;refine (HS.out _).mono ?_;rintro e w' ⟨rfl,rfl⟩)
     go_ret2
     exact ⟨rfl,by (exact aH)⟩
   . have e3:((m:Int) != (N:Int))=true:=by simp;omega
     clear h3 hd hN hpos;go_enter Tryz.func92,Tryz.ntmps92
     go_wp2_with (go_at_call 162;refine (HS.out _).mono ?_;rintro e w' ⟨rfl,rfl⟩)
     go_ret2
     exact ⟨rfl,by (exact aH)⟩
 . have hS:=Xq l xo;have HS:=hid hS;clear hS h hl;go_enter Tryz.func92,Tryz.ntmps92
   go_wp2_with (go_at_call 162;refine (HS.out _).mono ?_;rintro e w' ⟨rfl,rfl⟩)
   go_ret2
   exact ⟨rfl,by (exact aH)⟩
end
section
open Go.RowKit Go.Shelf
attribute [local go_sem] Oper.semAt_some
def mJ.full {T:TypeId} (base:Nat) (e:TypeId) (he:e≠T) (n:Nat) (xs:List Value):mJ T:=
  ⟨fun v w=>∃g,v= .slice (some ⟨g,0,none⟩) n n/\w.ownsRow base e 1 (.slice (some ⟨g,0,none⟩) n n) n xs,fun _ _ _ h ⟨g,e1,k⟩=>⟨g,e1,h.owns he k⟩⟩
theorem ES (n:Nat):(madeCells (Value.int .i64 0).cells (n*1)).toList=(List.replicate n (0:Int)).map (Value.int .i64):=by
 rw [Nat.mul_one,List.map_replicate];exact toList_madeCells_one _ _
theorem vC {P:Program} {w:World} {o:Oper} {a:Act} {K:Act->World->Prop} {Q:Exit->Act->World->Prop} (l c:Operand) (t e:TypeId) (z:Value) (size bytes:Nat)
    (ht:P.underlying t=some (.slice e)) (hinfo:(P.info? e).map (fun i=>(i.zero,i.size,i.bytes))=some (some z,size,bytes)) (hbytes:bytes<=1024)
    (B n:Nat) (N:Int) (hN:N=n) (hlen:n<=4294967296) (hbase:B<=w.heap.size)
    (ho:o.op=Op.makeSlice t l c) (hl:a.eval l= .int .i64 N) (hc:a.eval c= .int .i64 N)
    (h:∀g w',w.heap.size<=g->w'.ownsRow B e size (.slice (some ⟨g,0,none⟩) n n) n (madeCells z.cells (n*size)).toList->Below w.heap.size w w'->K (a.put o.dst (.slice (some ⟨g,0,none⟩) n n)) w'):
    Oper.wp P o a w K Q:=by
 obtain ⟨i0,hi,hz0,hz1,hz2⟩:=info_parts hinfo;obtain ⟨w',hrun,r1,r2⟩:=run_make_full (P:=P) w B t e i0 z size ht hi hz0 hz1 .i64 .i64 n (by rw [hz2];exact Nat.le_trans (Nat.mul_le_mul hbytes hlen) au) (by unfold maxLen;omega) hbase;subst hN;unfold Oper.wp;simp [execOp,ho,hl,hc,hrun,Result.andThen];exact h w.heap.size w' (Nat.le_refl _) r1 (br.grown r2 (Nat.le_refl _) (fun k hk=>by cases hk))
theorem TA {w:World} {b:Nat} {cs:Array Value} {t:TypeId} (h:w.heap[b]? =some (.cells cs t (0,0))) (hs:cs.size=3):
    ∃x y z,w.cell? ⟨b,0,none⟩=some x/\w.cell? ⟨b,1,none⟩=some y/\w.cell? ⟨b,2,none⟩=some z/\w.frozen? ⟨b,0,none⟩=false/\w.frozen? ⟨b,1,none⟩=false/\w.frozen? ⟨b,2,none⟩=false:=by
 refine ⟨cs[0],cs[1],cs[2],?_,?_,?_,?_,?_,?_⟩<;>simp [World.cell?,World.frozen?,h,hs]
theorem Ai {w:World} {b g:Nat} {cs:Array Value} {t e:TypeId} {B s n m c:Nat} {xs:List Value} (h:w.heap[b]? =some (.cells cs t (0,0))) (ho:w.ownsRow B e s (.slice (some ⟨g,0,none⟩) m c) n xs) (hne:e≠t):g≠b:=by
 rintro rfl;obtain ⟨_,⟨h1,_⟩ | ⟨g',c',cur',h1,_,hh,_⟩⟩:=ho
 . cases h1
 . cases h1;rw [h] at hh;cases hh;exact hne rfl
theorem gq {w2:World} {b:Nat} {x y z p q r:Value} (b0:w2.cell? ⟨b,0,none⟩=some p) (b1:w2.cell? ⟨b,1,none⟩=some q) (b2:w2.cell? ⟨b,2,none⟩=some r):
    (((w2.setCell ⟨b,0,none⟩ x).setCell ⟨b,1,none⟩ y).setCell ⟨b,2,none⟩ z).cell? ⟨b,0,none⟩=some x/\(((w2.setCell ⟨b,0,none⟩ x).setCell ⟨b,1,none⟩ y).setCell ⟨b,2,none⟩ z).cell? ⟨b,1,none⟩=some y/\(((w2.setCell ⟨b,0,none⟩ x).setCell ⟨b,1,none⟩ y).setCell ⟨b,2,none⟩ z).cell? ⟨b,2,none⟩=some z:=by
 refine ⟨?_,?_,?_⟩
 . rw [World.cell?_setCell_other _ _ _ _ (by intro e;simp at e),World.cell?_setCell_other _ _ _ _ (by intro e;simp at e)];exact World.cell?_setCell_same _ _ _ b0
 . rw [World.cell?_setCell_other _ _ _ _ (by intro e;simp at e)];exact World.cell?_setCell_same _ _ _ (by rw [World.cell?_setCell_other _ _ _ _ (by intro e;simp at e)];exact b1)
 . exact World.cell?_setCell_same _ _ _ (by rw [World.cell?_setCell_other _ _ _ _ (by intro e;simp at e),World.cell?_setCell_other _ _ _ _ (by intro e;simp at e)];exact b2)
def dY (w:World) (L:Int) (ms cs:List Int) (x:Value) (e:Ending) (w':World):Prop:=
  ∃v u,e= .returned (.tuple #[.agg #[.int .i64 L,v,u],x])/\w'.ownsRow w.heap.size 2 1 v ms.length (ms.map (Value.int .i64))/\w'.ownsRow w.heap.size 3 1 u cs.length (cs.map (Value.int .i64))/\Below w.heap.size w w'
def Yw (l:Int) (ms cs:List Int) (c:aW):Bool:=decide (kJ c=0)&&yX l ms cs (iE c) (gy c) (fZ c)
end
section
open Go.RowKit
section
variable {P:Program} {ops:Array Oper} {Q:Exit->Act->World->Prop}
theorem wU (I:Array Bool->Act->World->Prop)
    (hac:∀(i:Nat) (o:Oper),ops[i]? =some o->∀e ∈ o.after,Region.binds .any e=true->e.on<i)
    (step:∀(L:Array Bool) (a:Act) (w:World) (i:Nat) (o:Oper),L.size=ops.size->ops[i]? =some o->L.getD i false=false->
      (∀e ∈ o.after,Region.binds .any e=true->L.getD e.on false=true)->rC ops L->I L a w->wpOp P ops Q i (I (L.setIfInBounds i true)) a w)
    (done:∀(L:Array Bool) (a:Act) (w:World),L.size=ops.size->(∀i,i<ops.size->L.getD i false=true)->I L a w->Q .normal a w):
    ∀(f:Nat) (L:Array Bool) (a:Act) (w:World),L.size=ops.size->leftOf L ops.size<=f->rC ops L->I L a w->wpAny P .any ops Q f L a w:=by
 have qx:∀(L:Array Bool),L.size=ops.size->Region.ready .any ops L=[]->∀i,i<ops.size->L.getD i false=true:=by
  intro L hs hr i;induction i using Nat.strongRecOn with
  | ind i ih=>
   intro hi;cases hc:L.getD i false with
   | true=>rfl
   | false=>
    have hm:i ∈ Region.ready .any ops L:=by
     refine mem_ready.2 ⟨?_,ops[i],Array.getElem?_eq_some_iff.2 ⟨hi,rfl⟩,fun e he hb=> ?_⟩
     . have h1:i<L.size:=xo;simp [h1] at hc ⊢;exact hc
     . have:=hac i ops[i] (Array.getElem?_eq_some_iff.2 ⟨hi,rfl⟩) e he hb;exact ih e.on this xo
    rw [hr] at hm;cases hm
 intro f;induction f with
 | zero=>
  intro L a w hs hl hcl hI;have hall:=uM (L:=L) ops.size xo;refine ⟨?_,done L a w hs hall hI⟩;rw [List.eq_nil_iff_forall_not_mem];intro i hi;obtain ⟨h1,o,ho,_⟩:=mem_ready.1 hi;have hlt:=(Array.getElem?_eq_some_iff.1 ho).1;have h2:=hall i hlt;have h3:i<L.size:=xo;simp [h3] at h1 h2;rw [h1] at h2;cases h2
 | succ f ih=>
  intro L a w hs hl hcl hI;refine ⟨fun hr=>done L a w hs (qx L hs hr) hI,fun i hi=> ?_⟩;obtain ⟨h1,o,ho,hall⟩:=mem_ready.1 hi;have hlt:=(Array.getElem?_eq_some_iff.1 ho).1;have h3:i<L.size:=xo;have h4:L.getD i false=false:=by simp [h3] at h1 ⊢;exact h1
  refine wpOp_mono (fun a' w' hI'=>ih _ a' w' (by simpa using hs) ?_ (hcl.set h3 ho hall) hI') (step L a w i o hs ho h4 hall hcl hI);have:=xh h3 h4 ops.size hlt;omega
def vN (l:List Oper) (n:Nat):Bool:=
  (dstsOf l).Nodup&&(dstsOf l).all (fun d=>decide (d<n))&&l.all (fun o=>o.guard.isNone) &&
  (List.range l.length).all fun i=>match l[i]? with|some o=>o.after.all fun e=> !Region.binds .any e||decide (e.on<i)|none=>true
def EL (l:List Oper) (n:Nat):Bool:=
  (List.range l.length).all fun i=>decide (i<n)||(decide ((oD l []).getD i 0%2^i=2^i-1)&&match l[i]? with|some o=>o.after.all (fun e=> !Region.binds .any e||decide (e.on<i))|none=>true)
theorem di {id:Nat} {l:List Oper} {t0:Array Value} {ds:List Deferred} {w0:World} {N:Nat} (n:Nat) (hm:P.follows .mixedOrders=true) (hn:t0.size=N) (hB:vN (l.take n) N=true) (hT:EL l n=true) (hle:n<=l.length)
    (J:World->Prop) (Ext:World->World->Prop) (G:Nat->Value->World->Prop) (hst:∀k x w w',Ext w w'->G k x w->G k x w') (hJ:J w0.drew)
    (hop:F5 P l.toArray Q (dstsOf (l.take n)) t0 N ds J Ext G 0 (l.take n))
    (hdone:∀(u:Nat->Value) (w:World),J w->(∀(k:Nat) (o:Oper),(l.take n)[k]? =some o->G k (valOf u o) w)->wpList P l.toArray Q (l.drop n) {tmps:=aX (dstsOf (l.take n)) u t0,defers:=ds} w):
    (Code.region id l.toArray true).wp P Q {tmps:=t0,defers:=ds} w0:=by
 subst hn;simp only [vN,Bool.and_eq_true,List.all_eq_true,decide_eq_true_eq] at hB;obtain ⟨⟨⟨hnd,hlt⟩,hgd⟩,hac⟩:=hB;simp only [EL,List.all_eq_true,List.mem_range,Bool.or_eq_true,decide_eq_true_eq] at hT;have htk:∀ {k:Nat} {o:Oper},(l.take n)[k]? =some o↔k<n/\l[k]? =some o:=by
  intro k o;rw [List.getElem?_take];by_cases h:k<n
  . rw [if_pos h];exact ⟨fun h1=>⟨h,h1⟩,fun h1=>h1.2⟩
  . rw [if_neg h];exact ⟨fun h1=>(by cases h1),fun h1=>absurd h1.1 h⟩
 refine wp_region_any hm (wU (ops:=l.toArray)
   (fun L a w=>((∀i,n<=i->L.getD i false=false)/\∃u:Nat->Value,a= {tmps:=aX (dstsOf (l.take n)) u t0,defers:=ds}/\J w/\∀(k:Nat) (o:Oper),(l.take n)[k]? =some o->L.getD k false=true->G k (valOf u o) w) \/
     (∃m,n<=m/\m<=l.length/\(∀i,i<m->L.getD i false=true)/\(∀i,m<=i->L.getD i false=false)/\wpList P l.toArray Q (l.drop m) a w))
   ?_ ?_ ?_ _ _ _ _ ax (su _ _) (fun j p hp hj=>by simp [Array.getD] at hj) (.inl ⟨fun i _=>by rw [List.size_toArray];simp [Array.getD],fun t=>t0.getD t undef,by rw [kS],hJ,fun k o _ h=> ?_⟩))
 . intro i o ho e he hb;have hi:i<l.length:=(Array.getElem?_eq_some_iff.1 ho).1;rw [List.getElem?_toArray] at ho;by_cases hin:i<n
   . have h1:(l.take n)[i]? =some o:=htk.2 ⟨hin,ho⟩;have:=hac i (List.mem_range.2 (List.getElem?_eq_some_iff.1 h1).1);rw [h1] at this;have h2:=Array.all_eq_true_iff_forall_mem.1 this e he;rw [hb] at h2;simpa using h2
   . have h1:=hT i hi;rcases h1 with h1|h1
     . omega
     . rw [ho] at h1;simp only [Bool.and_eq_true] at h1;have h2:=Array.all_eq_true_iff_forall_mem.1 h1.2 e he;rw [hb] at h2;simpa using h2
 . rintro L a w i o hs ho hi hall hcl hI;rw [List.getElem?_toArray] at ho;have hil:i<l.length:=(List.getElem?_eq_some_iff.1 ho).1;have hilt:i<L.size:=by rw [hs];simpa using hil
   have ahead:n<=i->∀j,j<i->L.getD j false=true:=by
    intro hin j hj;have h1:=hT i hil;rcases h1 with h1|h1
    . omega
    . simp only [Bool.and_eq_true,decide_eq_true_eq] at h1;have hbit:((oD l []).getD i 0).testBit j=true:=by
       have h2:=congrArg (fun m=>Nat.testBit m j) h1.1;simp only [Nat.testBit_mod_two_pow,Nat.testBit_two_pow_sub_one,decide_eq_true hj,Bool.true_and] at h2;exact h2
      exact qX hcl l [] 0 rfl (fun j=>by rw [Nat.zero_add]) (fun i hi=>by omega) i o ho hall j hbit
   have later:∀(m:Nat),n<=m->m=i->(∀j,m<=j->L.getD j false=false)->(∀j,j<m->L.getD j false=true)->wpList P l.toArray Q (l.drop m) a w->
       wpOp P l.toArray Q i (fun a' w'=>((∀k,n<=k->(L.setIfInBounds i true).getD k false=false)/\∃u:Nat->Value,a'= {tmps:=aX (dstsOf (l.take n)) u t0,defers:=ds}/\J w'/\∀(k:Nat) (o:Oper),(l.take n)[k]? =some o->(L.setIfInBounds i true).getD k false=true->G k (valOf u o) w') \/
         (∃m,n<=m/\m<=l.length/\(∀k,k<m->(L.setIfInBounds i true).getD k false=true)/\(∀k,m<=k->(L.setIfInBounds i true).getD k false=false)/\wpList P l.toArray Q (l.drop m) a' w')) a w:=by
    rintro m hnm rfl hno hyes hw;refine wpOp_mono (fun a' w' h=> .inr ⟨m+1,by omega,by omega,fun k hk=> ?_,fun k hk=> ?_,h⟩) (pG ho hw)
    . by_cases e:k=m
      . subst e;exact qm hilt
      . rw [dF e];exact hyes k xo
    . rw [dF xo];exact hno k xo
   rcases hI with ⟨hno,u,rfl,hJw,hG⟩ | ⟨m,hnm,hml,hyes,hno,hw⟩
   . by_cases hin:i<n
     . have nz:(l.take n)[i]? =some o:=htk.2 ⟨hin,ho⟩;have hok:=hop.at nz;rw [Nat.zero_add] at hok;have hg:o.guard=none:=by
        have:=hgd o (List.mem_of_getElem? nz);cases hx:o.guard with
        | none=>rfl
        | some x=>rw [hx] at this;cases this
       unfold wpOp;simp only [List.getElem?_toArray,ho];rw [if_pos (by simp [Region.wanted,hg])];left;refine hok u _ w (fun t ht=>iU ht) hJw (fun j p hj hp=> ?_) _ (fun v w' hv hJ' hG' hE=> .inl ⟨fun k hk=>by rw [dF xo];exact hno k hk,?_⟩)
       . rw [List.getElem?_toArray] at hp;obtain ⟨e,he,hbe⟩:=Array.any_eq_true.1 hj;simp only [Bool.and_eq_true,beq_iff_eq] at hbe;have hl:=hall _ (Array.getElem_mem he) hbe.1;rw [hbe.2] at hl;have hjn:j<n:=by
          by_cases h:j<n
          . exact h
          . rw [hno j xo] at hl;cases hl
         exact hG j p (htk.2 ⟨hjn,hp⟩) hl
       . cases hd:o.dst with
         | none=>
          refine ⟨u,rfl,hJ',fun k p hp hk=> ?_⟩;by_cases e:k=i
          . subst e;obtain rfl:p=o:=Option.some.inj (hp.symm.trans nz);have:valOf u p=undef:=by simp [valOf,hd]
            rw [this,<-hv hd];exact hG'
          . rw [dF e] at hk;exact hst _ _ _ _ hE (hG k p hp hk)
         | some d=>
          have hdm:(dstsOf (l.take n)).contains d=true:=by
           simp only [List.contains_iff_mem];exact List.mem_filterMap.2 ⟨o,List.mem_of_getElem? nz,hd⟩
          refine ⟨fun t=>if t=d then v else u t,by simp only [Act.put,ng hdm],hJ',fun k p hp hk=> ?_⟩;by_cases e:k=i
          . subst e;obtain rfl:p=o:=Option.some.inj (hp.symm.trans nz);simpa [valOf,hd] using hG'
          . rw [dF e] at hk;have hne:=qy hnd nz hp (fun h=>e h.symm) hd;have:valOf (fun t=>if t=d then v else u t) p=valOf u p:=by
             unfold valOf;cases hpd:p.dst with
             | none=>rfl
             | some d'=>exact if_neg (fun h=>hne (by rw [hpd,h]))
            rw [this];exact hst _ _ _ _ hE (hG k p hp hk)
     . have hin':n=i:=by
         by_cases e:n=i
         . exact e
         . have:=ahead xo n xo;rw [hno n (Nat.le_refl _)] at this;cases this
       refine later n (Nat.le_refl _) hin' hno (fun j hj=>ahead xo j xo) (hdone u w hJw fun k p hp=>hG k p hp (ahead xo k ?_));have:=(htk.1 hp).1;omega
   . have him:m<=i:=by
       by_cases h:m<=i
       . exact h
       . have:=hyes i xo;rw [hi] at this;cases this
     have Qd:m=i:=by
      by_cases e:m=i
      . exact e
      . have:=ahead xo m xo;rw [hno m (Nat.le_refl _)] at this;cases this
     exact later m hnm Qd hno hyes hw
 . rintro L a w hs hall hI;rw [List.size_toArray] at hall;rcases hI with ⟨hno,u,rfl,hJw,hG⟩ | ⟨m,hnm,hml,hyes,hno,hw⟩
   . have hnl:n=l.length:=by
       by_cases e:n=l.length
       . exact e
       . have:=hall n xo;rw [hno n (Nat.le_refl _)] at this;cases this
     have hq:=hdone u w hJw fun k p hp=>hG k p hp (hall k (by have:=(htk.1 hp).1;omega))
     have hd:l.drop n=[]:=by rw [hnl];exact List.drop_length
     rw [hd] at hq;exact hq
   . have Ha:m=l.length:=by
       by_cases e:m=l.length
       . exact e
       . have:=hall m xo;rw [hno m (Nat.le_refl _)] at this;cases this
     rw [Ha,List.drop_length] at hw;exact hw
 . rw [List.size_toArray] at h;simp [Array.getD] at h
end
end
section
open Go.RowKit Go.Shelf
attribute [local go_sem] Oper.semAt_some
structure dN (R:World->World->Prop) where
 holds:Value->World->Prop
 stays:∀v w w',R w w'->holds v w->holds v w'
def dN.any (R:World->World->Prop):dN R:=⟨fun _ _=>True,fun _ _ _ _ _=>trivial⟩
def dN.is {R:World->World->Prop} (x:Value):dN R:=⟨fun v _=>v=x,fun _ _ _ _ h=>h⟩
def dN.now {R:World->World->Prop} (S:World->Prop) (h:∀w w',R w w'->S w->S w'):dN R:=⟨fun _ w=>S w,fun _ w w' hr h1=>h w w' hr h1⟩
def gU {R:World->World->Prop} (fs:List (dN R)) (k:Nat) (v:Value) (w:World):Prop:=(fs.getD k (dN.any R)).holds v w
theorem dA {R:World->World->Prop} (fs:List (dN R)) (k:Nat) (v:Value) (w w':World) (h:R w w'):gU fs k v w->gU fs k v w':=(fs.getD k (dN.any R)).stays _ _ _ h
def JB (g:Nat) (X:World) (old new:World->Prop) (w':World):Prop:=(∀q,q≠g->w'.heap[q]? =X.heap[q]?)/\w'.heap.size=X.heap.size/\(w'.os=X.os/\w'.tape=X.tape/\w'.output=X.output)/\(old w'\/new w')
def dn (f:Nat->Int) (n:Nat):Nat->Int:=fun m=>if n<m then f m else 0
theorem A_ (f:Nat->Int) (n:Nat) (h0:1<=n):Ec (dn f n) n (f n)=dn f (n-1):=by
 funext m
 unfold Ec dn;by_cases e:m=n
 . subst e;rw [if_pos rfl,if_pos xo]
 . rw [if_neg e];by_cases h:n<m
   . rw [if_pos xo,if_pos xo]
   . rw [if_neg xo,if_neg xo]
theorem IE (ai:Int) (wa ka va ca:Option Addr) (wc kc vc cc lw lk lv lc:Nat) (laid:Int) (w:World) (D:Int) (L N:Nat) (hl:D+1=L) (h1:1<=L) (h2:L<=14) (hN:N+1=2^L) (hlc:N+1=2*lc) (fm fc:Nat->Int)
    (CK:Hid (∀W,Below w.heap.size w W->Calls Tryz.prog 51 #[.agg #[.int .i64 ai,.slice wa lw wc,.slice ka lk kc,.slice va lv vc,.slice ca lc cc,.int .u64 laid]] W (aC W (.int .i64 0))))
    (DW:Hid (∀W,Calls Tryz.prog 81 #[.int .i64 lc] W fun e w'=>e= .returned (.tuple #[.int .i64 D,.int .i64 0])/\W=w'))
    (LF:Hid (∀W,Below w.heap.size w W->∀n:Nat,lc<=n->n<=N->Calls Tryz.prog 83 #[.agg #[.int .i64 ai,.slice wa lw wc,.slice ka lk kc,.slice va lv vc,.slice ca lc cc,.int .u64 laid],.int .i64 ((n:Int)-lc)] W (aC W (O8 (fm n) (fc n)))))
    (AB:Hid (∀n:Nat,1<=n->n<lc->∀W,Calls Tryz.prog 84 #[O8 (fm (2*n)) (fc (2*n)),O8 (fm (2*n+1)) (fc (2*n+1))] W (aC W (O8 (fm n) (fc n))))):
    Calls Tryz.prog 44 #[.agg #[.int .i64 ai,.slice wa lw wc,.slice ka lk kc,.slice va lv vc,.slice ca lc cc,.int .u64 laid]] w (dY w (D+1) (rQ L fm fun _=>true) (rQ L fc fun _=>true) (.int .i64 0)):=by
 have hNb:N+1<=16384:=by rw [hN];exact Nat.pow_le_pow_right xo h2
 have hlb:0<=D/\D<=13:=xo;have NDS:=hid (fun W=>JA L (D+1) hl h1 h2 W);rw [<-hN] at NDS;have ad2:(GI L).length=N:=by rw [w_];omega
 have HPG:=hid (fun n (h0:1<=n) (h:n<=N)=>(vP (L:=L) (n:=n) h1 h0 xo));have HPV:=hid (fun n (h0:1<=n) (h:n<=N)=>(kK (L:=L) (n:=n) h1 h0 xo).1);have HB0:=hid (fun f=>TB L h1 f (p:=fun m=>decide (N<m)) (by intro n a b;simp;omega));have ru:=hid (fun f p=>mF (L:=L) h1 f p);have HBS:=hid (fun f n (h0:1<=n) (h:n<=N)=>KY (L:=L) h1 f (p:=fun m=>decide (n<m)) (q:=fun m=>decide (n-1<m)) (n:=n) h0 xo (by simp;omega) (by intro m hm;simp;omega));have aeK:=hid (fun f n (h0:1<=n) (h:n<=N)=>KY (L:=L) h1 f (p:=fun m=>decide (n-1<m)) (q:=fun m=>decide (n-1<m)) (n:=n) h0 xo (by simp;omega) (fun _ _=>rfl));have HBA:=hid (fun f=>(uX L h1 f (p:=fun m=>decide (0<m)) (by intro n a b;simp;omega)).trans (uX L h1 f (p:=fun _=>true) (fun _ _ _=>rfl)).symm);rw [show 2^L-1=N by omega] at HB0 ru HPV;have hN0:0<N:=by have:2^1<=2^L:=Nat.pow_le_pow_right xo h1;omega
 have hwD:IntKind.i64.wrap (D+1)=D+1:=IntWalk.i64_in _ xo;have hwN:IntKind.i64.wrap (N:Int)=(N:Int):=IntWalk.i64_in _ xo;have hg8:decide ((lc:Int)>8192)=false:=by simp;omega
 have XF:=hid hlc;clear hl h1 h2 hN ad2 hlc;go_enter Tryz.func44,Tryz.ntmps44
 go_wp2_with fail
 refine (CK.out _ ((br.alloc (Nat.le_refl _) _).alloc ax _)).mono ?_;rintro e wk ⟨rfl,hb1⟩;have adH:=hb1.size;try simp only [World.size_alloc,World.size_setCell] at adH
 have hh:=jl hb1 (jI (jA (b:=w.heap.size) ax));obtain ⟨aO,aN,aK,aU,aT,aV⟩:=hh;have bF:=aP hb1 (dB (bV (b:=w.heap.size) ax));have hh:=bc3 hb1 (uu (b:=w.heap.size+1) ax);obtain ⟨a_,aZ,bf⟩:=hh;have hh:=FW hb1 (bV (b:=w.heap.size+1) ax) (xx (b:=w.heap.size+1) ax);obtain ⟨bQ,bP,bT⟩:=hh;have bW:=aP hb1 (bV (b:=w.heap.size+1) ax);have HSK:Hid (Below w.heap.size w wk):=hid aH;have hzk:w.heap.size+2<=wk.heap.size:=xo;clear hb1;go_wp2_with fail
 refine (DW.out _).mono ?_;rintro e w' ⟨rfl,rfl⟩;go_wp2_with fail
 refine (NDS.out _).mono ?_;rintro e wz ⟨gn,rfl,hon,hbn⟩;have XD:=hid hon;have HSN:=hid hbn;have hgn:=hon.lt gn rfl;have hzn:=hbn.size;clear hon hbn;go_wp2
 refine uh 12 xk (N:=111) rfl xk xk au (fun w'=>Below wz.heap.size wz w') (Ext 33) (rO [.is (.int .i64 D),.is (.int .i64 (D+1)),.is (.slice (some ⟨gn,0,none⟩) (N+1) (N+1)),.is (.int .i64 ((N:Int)+1)),.is (.int .i64 N),.full wz.heap.size 2 au N ((List.replicate N (0:Int)).map (Value.int .i64)),.is (.slice (some ⟨gn,0,none⟩) (N+1) (N+1)),.is (.int .i64 ((N:Int)+1)),.is (.int .i64 N),.full wz.heap.size 3 au N ((List.replicate N (0:Int)).map (Value.int .i64)),.aep (.is (.int .i64 (D+1))) (.full wz.heap.size 2 au N ((List.replicate N (0:Int)).map (Value.int .i64))) (.full wz.heap.size 3 au N ((List.replicate N (0:Int)).map (Value.int .i64))),.box wz.heap.size 3]) (iV _) br.drew ?steps ?fin
 case steps=>
  refine ⟨?o0,?o1,?o2,?o3,?o4,?o5,?o6,?o7,?o8,?o9,?o10,?o11,trivial⟩<;>intro u a w' ev hJ hd K hK
  case o0=>
   have e5:tg a 5= .int .i64 D:=ev 5 au;have HK:=hid hK;clear hK ev hd;go_simp;exact HK.out _ _ aS hJ rfl (Ext.refl _ _)
  case o1=>
   have e32:tg a 32= .int .i64 D:=(ev 32 au).trans (hd 0 _ xk rfl);have HK:=hid hK;clear hK ev hd;go_simp;exact HK.out _ _ aS hJ rfl (Ext.refl _ _)
  case o2=>
   have e7:tg a 7= .slice (some ⟨gn,0,none⟩) (N+1) (N+1):=ev 7 au;have HK:=hid hK;clear hK ev hd;go_simp;exact HK.out _ _ aS hJ rfl (Ext.refl _ _)
  case o3=>
   have e34:tg a 34= .slice (some ⟨gn,0,none⟩) (N+1) (N+1):=(ev 34 au).trans (hd 2 _ xk rfl);have HK:=hid hK;clear hK ev hd;go_simp;exact HK.out _ _ aS hJ rfl (Ext.refl _ _)
  case o4=>
   have e35:tg a 35= .int .i64 ((N:Int)+1):=(ev 35 au).trans (hd 3 _ xk rfl);have HK:=hid hK;clear hK ev hd;go_simp;exact HK.out _ _ aS hJ rfl (Ext.refl _ _)
  case o5=>
   have e36:tg a 36= .int .i64 N:=(ev 36 au).trans (hd 4 _ xk rfl);exact vC (.tmp 36) (.tmp 36) 25 2 _ 1 8 Tryz.underlying25 NM au wz.heap.size N _ rfl xo hJ.size rfl e36 e36 (fun g w'' k1 k2 k3=>hK _ _ aS (hJ.trans (k3.mono hJ.size)) ⟨g,rfl,by rw [ES] at k2;exact k2⟩ (Ext.below k3))
  case o6=>
   have e7:tg a 7= .slice (some ⟨gn,0,none⟩) (N+1) (N+1):=ev 7 au;have HK:=hid hK;clear hK ev hd;go_simp;exact HK.out _ _ aS hJ rfl (Ext.refl _ _)
  case o7=>
   have e38:tg a 38= .slice (some ⟨gn,0,none⟩) (N+1) (N+1):=(ev 38 au).trans (hd 6 _ xk rfl);have HK:=hid hK;clear hK ev hd;go_simp;exact HK.out _ _ aS hJ rfl (Ext.refl _ _)
  case o8=>
   have e39:tg a 39= .int .i64 ((N:Int)+1):=(ev 39 au).trans (hd 7 _ xk rfl);have HK:=hid hK;clear hK ev hd;go_simp;exact HK.out _ _ aS hJ rfl (Ext.refl _ _)
  case o9=>
   have e40:tg a 40= .int .i64 N:=(ev 40 au).trans (hd 8 _ xk rfl);exact vC (.tmp 40) (.tmp 40) 26 3 _ 1 8 Tryz.underlying26 qB au wz.heap.size N _ rfl xo hJ.size rfl e40 e40 (fun g w'' k1 k2 k3=>hK _ _ aS (hJ.trans (k3.mono hJ.size)) ⟨g,rfl,by rw [ES] at k2;exact k2⟩ (Ext.below k3))
  case o10=>
   have h1:u 33= .int .i64 (D+1):=hd 1 _ xk rfl;obtain ⟨g1,h2,h3⟩:(mJ.full (T:=33) wz.heap.size 2 au N ((List.replicate N (0:Int)).map (Value.int .i64))).holds (u 37) w':=hd 5 _ xk rfl;obtain ⟨g2,h4,h5⟩:(mJ.full (T:=33) wz.heap.size 3 au N ((List.replicate N (0:Int)).map (Value.int .i64))).holds (u 41) w':=hd 9 _ xk rfl;have e13:tg a 33= .int .i64 (D+1):=(ev 33 au).trans h1;have e16:tg a 37= .slice (some ⟨g1,0,none⟩) N N:=(ev 37 au).trans h2;have e19:tg a 41= .slice (some ⟨g2,0,none⟩) N N:=(ev 41 au).trans h4;have f13:a.tmps[33]?.getD undef= .int .i64 (D+1):=by rw [<-Array.getD_eq_getD_getElem?];exact e13
   have f16:a.tmps[37]?.getD undef= .slice (some ⟨g1,0,none⟩) N N:=by rw [<-Array.getD_eq_getD_getElem?];exact e16
   have f19:a.tmps[41]?.getD undef= .slice (some ⟨g2,0,none⟩) N N:=by rw [<-Array.getD_eq_getD_getElem?];exact e19
   have HK:=hid hK;have H3:=hid h3;have H5:=hid h5;clear hK ev hd h1 h2 h3 h4 h5;go_simp;exact HK.out _ _ aS hJ ⟨_,_,_,rfl,rfl,⟨_,rfl,H3.out⟩,⟨_,rfl,H5.out⟩⟩ (Ext.refl _ _)
  case o11=>
   have HK:=hid hK;have lY:=hJ.size;have HJ:=hid hJ;clear hK ev hd hJ;go_simp;exact HK.out _ _ aS (HJ.out.alloc lY _) ⟨_,_,rfl,lY,FZ _ _,rfl⟩ (Ext.below (br.alloc (Nat.le_refl _) _))
 case fin=>
  intro u w2 hJ hG;obtain ⟨x,y,z,h20,rfl,⟨g1,rfl,ho1⟩,⟨g2,rfl,ho2⟩⟩:(mJ.aep (T:=33) (.is (.int .i64 (D+1))) (.full wz.heap.size 2 au N ((List.replicate N (0:Int)).map (Value.int .i64))) (.full wz.heap.size 3 au N ((List.replicate N (0:Int)).map (Value.int .i64)))).holds (u 42) w2:=hG 10 _ rfl;obtain ⟨b,bcs,h4,hbz,hbh,hbs⟩:(mJ.box (T:=33) wz.heap.size 3).holds (u 8) w2:=hG 11 _ rfl;obtain ⟨p,q,r,b0,b1,b2,q0,q1,q2⟩:=TA hbh hbs;have Hf:=Ai hbh ho1 au;have He:=Ai hbh ho2 au;have Y6:g1≠g2:=by
   rcases kQ ho1 ho2 au with h|h
   . cases h
   . intro e;exact h (by rw [e])
  have hz2:=hJ.size;have ajk:b<w2.heap.size:=World.block_lt_of_cell? _ _ b0;have hl1:=ho1.lt g1 rfl;have hl2:=ho2.lt g2 rfl;have HO1:=hid ho1;have yA:=hid ho2;have HJ:=hid hJ;clear hG ho1 ho2 hJ hbh hbs;simp only [aX,kR,dstsOf,List.take_succ_cons,List.take_zero,List.filterMap_cons,List.filterMap_nil,List.contains_cons,List.contains_nil,Nat.reduceBEq,Bool.or_false,Bool.false_or,Bool.or_true,Bool.true_or,if_true,if_false,Bool.false_eq_true,Nat.reduceAdd,Nat.zero_add,List.drop_succ_cons,List.drop_zero,h20,h4];go_wp2
  have hsw:=gq (w2:=w2) (b:=b) (x:= .int .i64 (D+1)) (y:= .slice (some ⟨g1,0,none⟩) N N) (z:= .slice (some ⟨g2,0,none⟩) N N) b0 b1 b2;have AY:Hid (Below wz.heap.size wz (((w2.setCell ⟨b,0,none⟩ (.int .i64 (D+1))).setCell ⟨b,1,none⟩ (.slice (some ⟨g1,0,none⟩) N N)).setCell ⟨b,2,none⟩ (.slice (some ⟨g2,0,none⟩) N N))):=hid (((HJ.out.setCell dG _).setCell dG _).setCell dG _);have agV:=hid (af (W':=(((w2.setCell ⟨b,0,none⟩ (.int .i64 (D+1))).setCell ⟨b,1,none⟩ (.slice (some ⟨g1,0,none⟩) N N)).setCell ⟨b,2,none⟩ (.slice (some ⟨g2,0,none⟩) N N))) HO1.out fun k hk=>by cases hk;rw [ae _ _ _ Hf,ae _ _ _ Hf,ae _ _ _ Hf]);have agU:=hid (af (W':=(((w2.setCell ⟨b,0,none⟩ (.int .i64 (D+1))).setCell ⟨b,1,none⟩ (.slice (some ⟨g1,0,none⟩) N N)).setCell ⟨b,2,none⟩ (.slice (some ⟨g2,0,none⟩) N N))) yA.out fun k hk=>by cases hk;rw [ae _ _ _ He,ae _ _ _ He,ae _ _ _ He]);have hz3:w2.heap.size=(((w2.setCell ⟨b,0,none⟩ (.int .i64 (D+1))).setCell ⟨b,1,none⟩ (.slice (some ⟨g1,0,none⟩) N N)).setCell ⟨b,2,none⟩ (.slice (some ⟨g2,0,none⟩) N N)).heap.size:=by simp
  generalize (((w2.setCell ⟨b,0,none⟩ (.int .i64 (D+1))).setCell ⟨b,1,none⟩ (.slice (some ⟨g1,0,none⟩) N N)).setCell ⟨b,2,none⟩ (.slice (some ⟨g2,0,none⟩) N N))=w3 at *;obtain ⟨k0,k1,k2⟩:=hsw;have agT:=hid (ay XD.out AY.out);have HJK:=hid (HSN.out.trans (AY.out.mono hzn));clear HO1 yA HJ b0 b1 b2 q0 q1 q2 XD AY;go_loopg [9] N (fun n iv wr=>n<=N/\iv= .int .i64 (n:Int)/\wr.cell? ⟨b,0,none⟩=some (.int .i64 (D+1))/\wr.cell? ⟨b,1,none⟩=some (.slice (some ⟨g1,0,none⟩) N N)/\wr.cell? ⟨b,2,none⟩=some (.slice (some ⟨g2,0,none⟩) N N)/\
    Hid (wr.ownsRow wz.heap.size 2 1 (.slice (some ⟨g1,0,none⟩) N N) N ((rQ L fm fun m=>decide (n<m)).map (Value.int .i64)))/\Hid (wr.ownsRow wz.heap.size 3 1 (.slice (some ⟨g2,0,none⟩) N N) N ((rQ L fc fun m=>decide (n<m)).map (Value.int .i64)))/\Hid (Below wk.heap.size wk wr)/\Hid (wr.ownsRow wk.heap.size 141 3 (.slice (some ⟨gn,0,none⟩) (N+1) (N+1)) (N+1) (m_ (dn fm n) (dn fc n) (n_ L) (N+1)))/\w3.heap.size<=wr.heap.size)
  case atStart=>
   refine ⟨Nat.le_refl _,rfl,k0,k1,k2,hid ?_,hid ?_,HJK,hid ?_,Nat.le_refl _⟩
   . rw [HB0.out];exact agV.out
   . rw [HB0.out];exact agU.out
   . have e:m_ (dn fm N) (dn fc N) (n_ L) (N+1)=m_ (fun _=>0) (fun _=>0) (n_ L) (N+1):=by
       unfold m_;rw [uT (a':=fun _=>0) (b':=fun _=>0) (c':=n_ L) (fun i hi=>by unfold dn;rw [if_neg xo]) (fun i hi=>by unfold dn;rw [if_neg xo]) (fun _ _=>rfl)]
     rw [e];exact agT.out
  case round=>
   obtain ⟨n,hnk⟩:∃n,n=gk:=⟨_,rfl⟩
   subst hnk;obtain ⟨V6,rfl,c0,c1,c2,HR1,HR2,LX,Xy,G9⟩:=hrel;have aeF:=LX.out.size;by_cases hn0:1<=n
   . have hgc:decide ((n:Int)>0)=true:=by simp;omega
     have EW:=LX.out.size;simp (disch:=omega) only [jK LX.out] at aO aN aK aU aT aV;replace bF:=aP LX.out bF;have hlen:(flat3 (dn fm n) (dn fc n) (n_ L) (N+1)).length=(N+1)*3:=dE;obtain ⟨d0,e0⟩:=bM Xy.out (j:=n*3) xo;obtain ⟨d1,e1⟩:=bM Xy.out (j:=n*3+1) xo;have hbr:b<wr.heap.size:=World.block_lt_of_cell? _ _ c0;have hgr:=(Xy.out.lt gn rfl).2;by_cases hge:lc<=n
     . have hgd:decide ((n:Int)-lc≥0)=true:=by simp;omega
       have LFn:=LF.out;go_wp2_with fail
       refine (LFn _ (by have:=aj LX.out HSK.out xo;(exact aH)) n hge V6).mono ?_;rintro e w5 ⟨rfl,hb5⟩;have Um:=hb5.size;replace d0:=(hb5.cell (p:=⟨gn,n*3,none⟩) hgr).trans d0;replace d1:=(hb5.cell (p:=⟨gn,n*3+1,none⟩) hgr).trans d1;replace e0:=(hb5.frozen (p:=⟨gn,n*3,none⟩) hgr).trans e0;replace e1:=(hb5.frozen (p:=⟨gn,n*3+1,none⟩) hgr).trans e1;generalize (flat3 (dn fm n) (dn fc n) (n_ L) (N+1)).getD (n*3) 0=y0 at d0;generalize (flat3 (dn fm n) (dn fc n) (n_ L) (N+1)).getD (n*3+1) 0=y1 at d1;clear LFn;go_wp2
       -- the node is told: w6
       have adZ:(n:Int)<(N:Int)+1:=xo;have V5:gn≠g1:=xo;have V4:gn≠g2:=xo;have NZ:b≠gn:=xo;have T_:Hid (∀q,q≠gn->((w5.setCell ⟨gn,n*3,none⟩ (.int .i64 (fm n))).setCell ⟨gn,n*3+1,none⟩ (.int .i64 (fc n))).heap[q]? =w5.heap[q]?):=hid fun q hq=>by rw [ae _ _ _ hq,ae _ _ _ hq]
       have DZ:Hid (((w5.setCell ⟨gn,n*3,none⟩ (.int .i64 (fm n))).setCell ⟨gn,n*3+1,none⟩ (.int .i64 (fc n))).ownsRow wk.heap.size 141 3 (.slice (some ⟨gn,0,none⟩) (N+1) (N+1)) (N+1) (m_ (dn fm (n-1)) (dn fc (n-1)) (n_ L) (N+1))):=by
        have o1:=dX (ay Xy.out hb5) (n*3) (fm n);rw [xw xo,A_ _ _ hn0] at o1;have o2:=dX o1 (n*3+1) (fc n);rw [xu xo,A_ _ _ hn0] at o2;exact hid o2
       have Ub:Hid (Below wk.heap.size wk ((w5.setCell ⟨gn,n*3,none⟩ (.int .i64 (fm n))).setCell ⟨gn,n*3+1,none⟩ (.int .i64 (fc n)))):=hid (((LX.out.trans (hb5.mono aeF)).setCell dG _).setCell dG _);have hz6:((w5.setCell ⟨gn,n*3,none⟩ (.int .i64 (fm n))).setCell ⟨gn,n*3+1,none⟩ (.int .i64 (fc n))).heap.size=w5.heap.size:=by simp
       generalize (w5.setCell ⟨gn,n*3,none⟩ (.int .i64 (fm n))).setCell ⟨gn,n*3+1,none⟩ (.int .i64 (fc n))=w6 at *;replace c0:=(World.cell?_of_block (a:=⟨b,0,none⟩) (T_.out b NZ)).trans ((hb5.cell (p:=⟨b,0,none⟩) hbr).trans c0);replace c1:=(World.cell?_of_block (a:=⟨b,1,none⟩) (T_.out b NZ)).trans ((hb5.cell (p:=⟨b,1,none⟩) hbr).trans c1);replace c2:=(World.cell?_of_block (a:=⟨b,2,none⟩) (T_.out b NZ)).trans ((hb5.cell (p:=⟨b,2,none⟩) hbr).trans c2);have XB:=hid (af (ay HR1.out hb5) fun j hj=>by cases hj;exact T_.out g1 V5.symm);have XA:=hid (af (ay HR2.out hb5) fun j hj=>by cases hj;exact T_.out g2 V4.symm);have V7:(flat3 (dn fm (n-1)) (dn fc (n-1)) (n_ L) (N+1)).length=(N+1)*3:=dE;have YV:=HPV.out n hn0 V6;have hpG:=HPG.out n hn0 V6;have S1:=hid (HBS.out fm n hn0 V6);have S1':=hid (aeK.out fm n hn0 V6);have S2:=hid (HBS.out fc n hn0 V6);obtain ⟨p,hpp⟩:∃p,oJ L n=p:=⟨_,rfl⟩
       rw [hpp] at YV hpG S1 S1' S2;obtain ⟨n0,-⟩:=bM DZ.out (j:=n*3) xo;obtain ⟨n1,-⟩:=bM DZ.out (j:=n*3+1) xo;obtain ⟨n2,-⟩:=bM DZ.out (j:=n*3+2) xo;rw [yj xo,show dn fm (n-1) n=fm n from if_pos xo] at n0;rw [yh xo,show dn fc (n-1) n=fc n from if_pos xo] at n1;rw [Hu xo,show n_ L n=(p:Int) by rw [n_,if_neg xo,hpG]] at n2;obtain ⟨BA,Hl⟩:∃P:World->Prop,P=fun W=>W.ownsRow wz.heap.size 2 1 (.slice (some ⟨g1,0,none⟩) N N) N ((rQ L fm fun m=>decide (n<m)).map (Value.int .i64)):=⟨_,rfl⟩
       obtain ⟨oI,x_⟩:∃P:World->Prop,P=fun W=>W.ownsRow wz.heap.size 2 1 (.slice (some ⟨g1,0,none⟩) N N) N ((rQ L fm fun m=>decide (n-1<m)).map (Value.int .i64)):=⟨_,rfl⟩
       have QC:Hid (JB g1 w6.drew BA oI w6.drew):=hid ⟨fun _ _=>rfl,rfl,⟨rfl,rfl,rfl⟩,.inl (by rw [Hl];exact af XB.out fun _ _=>rfl)⟩;have QB:Hid (∀w',JB g1 w6.drew BA oI w'->(∃y,w'.cell? ⟨g1,p,none⟩=some (.int .i64 y))/\w'.frozen? ⟨g1,p,none⟩=false/\JB g1 w6.drew BA oI (w'.setCell ⟨g1,p,none⟩ (.int .i64 (fm n)))/\oI (w'.setCell ⟨g1,p,none⟩ (.int .i64 (fm n)))):=hid (by
        rintro w' ⟨j1,j2,j4,j3⟩;have key:(∃y,w'.cell? ⟨g1,p,none⟩=some (.int .i64 y))/\w'.frozen? ⟨g1,p,none⟩=false/\oI (w'.setCell ⟨g1,p,none⟩ (.int .i64 (fm n))):=by
         rcases j3 with j3|j3
         . rw [Hl] at j3;obtain ⟨y0,y1⟩:=bM j3 (j:=p) (by rw [ru.out];exact YV);have y2:=dX j3 p (fm n);rw [S1.out] at y2;rw [x_];exact ⟨⟨_,y0⟩,y1,y2⟩
         . rw [x_] at j3;obtain ⟨y0,y1⟩:=bM j3 (j:=p) (by rw [ru.out];exact YV);have y2:=dX j3 p (fm n);rw [S1'.out] at y2;rw [x_];exact ⟨⟨_,y0⟩,y1,y2⟩
        exact ⟨key.1,key.2.1,⟨fun q hq=>(ae _ _ _ hq).trans (j1 q hq),by rw [World.size_setCell];exact j2,j4,.inr key.2.2⟩,key.2.2⟩)
       have acI:=hid x_;clear Hl x_ hpG hpp V7 HR1 HR2 LX Xy T_ d0 d1 e0 e1 hb5 S1 S1' XB;refine di 28 xk (N:=111) rfl xk xk au (fun w'=>JB g1 w6.drew BA oI w') (fun W W'=>oI W->oI W') (gU [.is (.pointer (some ⟨b,1,none⟩)),.is (.slice (some ⟨g1,0,none⟩) N N),.is (.slice (some ⟨gn,0,none⟩) (N+1) (N+1)),.is (.int .i64 n),.is (.pointer (some ⟨gn,n*3,none⟩)),.is (.pointer (some ⟨gn,n*3+2,none⟩)),.is (.int .i64 p),.is (.pointer (some ⟨b,2,none⟩)),.is (.slice (some ⟨g2,0,none⟩) N N),.is (.slice (some ⟨gn,0,none⟩) (N+1) (N+1)),.is (.int .i64 n),.is (.pointer (some ⟨gn,n*3,none⟩)),.is (.pointer (some ⟨gn,n*3+2,none⟩)),.is (.int .i64 p),.is (.slice (some ⟨gn,0,none⟩) (N+1) (N+1)),.is (.int .i64 n),.is (.pointer (some ⟨gn,n*3,none⟩)),.is (.pointer (some ⟨gn,n*3,none⟩)),.is (.pointer (some ⟨gn,n*3,none⟩)),.is (.int .i64 (fm n)),.is (.slice (some ⟨gn,0,none⟩) (N+1) (N+1)),.is (.int .i64 n),.is (.pointer (some ⟨gn,n*3,none⟩)),.is (.pointer (some ⟨gn,n*3,none⟩)),.is (.pointer (some ⟨gn,n*3+1,none⟩)),.is (.int .i64 (fc n)),.is (.pointer (some ⟨g1,p,none⟩)),.now oI (fun _ _ h k=>h k)]) (dA _) QC.out ?steps ?fin
       case steps=>
        refine ⟨?o0,?o1,?o2,?o3,?o4,?o5,?o6,?o7,?o8,?o9,?o10,?o11,?o12,?o13,?o14,?PX,?o16,?Uj,?o18,?o19,?o20,?o21,?o22,?o23,?o24,?o25,?o26,?o27,trivial⟩<;>intro u a w' ev hJ hd K hK
        case o0=>
         have e8:tg a 8= .pointer (some ⟨b,0,none⟩):=ev 8 au;have HK:=hid hK;clear hK ev hd;go_simp;exact HK.out _ _ aS hJ rfl id
        case o1=>
         have e82:tg a 82= .pointer (some ⟨b,1,none⟩):=(ev 82 au).trans (hd 0 _ xk rfl);have g0:=fF c1 (hJ.1 b xo);have HK:=hid hK;clear hK ev hd;go_simp;exact HK.out _ _ aS hJ rfl id
        case o2=>
         have e7:tg a 7= .slice (some ⟨gn,0,none⟩) (N+1) (N+1):=ev 7 au;have HK:=hid hK;clear hK ev hd;go_simp;exact HK.out _ _ aS hJ rfl id
        case o3=>
         have e9:tg a 9= .int .i64 n:=ev 9 au;have HK:=hid hK;clear hK ev hd;go_simp;exact HK.out _ _ aS hJ rfl id
        case o4=>
         have e84:tg a 84= .slice (some ⟨gn,0,none⟩) (N+1) (N+1):=(ev 84 au).trans (hd 2 _ xk rfl);have e85:tg a 85= .int .i64 n:=(ev 85 au).trans (hd 3 _ xk rfl);have HK:=hid hK;clear hK ev hd;go_simp;exact HK.out _ _ aS hJ rfl id
        case o5=>
         have e86:tg a 86= .pointer (some ⟨gn,n*3,none⟩):=(ev 86 au).trans (hd 4 _ xk rfl);have HK:=hid hK;clear hK ev hd;go_simp;exact HK.out _ _ aS hJ rfl id
        case o6=>
         have e87:tg a 87= .pointer (some ⟨gn,n*3+2,none⟩):=(ev 87 au).trans (hd 5 _ xk rfl);have g0:=fF n2 (hJ.1 gn xo);have HK:=hid hK;clear hK ev hd;go_simp;exact HK.out _ _ aS hJ rfl id
        case o7=>
         have e8:tg a 8= .pointer (some ⟨b,0,none⟩):=ev 8 au;have HK:=hid hK;clear hK ev hd;go_simp;exact HK.out _ _ aS hJ rfl id
        case o8=>
         have e89:tg a 89= .pointer (some ⟨b,2,none⟩):=(ev 89 au).trans (hd 7 _ xk rfl);have g0:=fF c2 (hJ.1 b xo);have HK:=hid hK;clear hK ev hd;go_simp;exact HK.out _ _ aS hJ rfl id
        case o9=>
         have e7:tg a 7= .slice (some ⟨gn,0,none⟩) (N+1) (N+1):=ev 7 au;have HK:=hid hK;clear hK ev hd;go_simp;exact HK.out _ _ aS hJ rfl id
        case o10=>
         have e9:tg a 9= .int .i64 n:=ev 9 au;have HK:=hid hK;clear hK ev hd;go_simp;exact HK.out _ _ aS hJ rfl id
        case o11=>
         have e91:tg a 91= .slice (some ⟨gn,0,none⟩) (N+1) (N+1):=(ev 91 au).trans (hd 9 _ xk rfl);have e92:tg a 92= .int .i64 n:=(ev 92 au).trans (hd 10 _ xk rfl);have HK:=hid hK;clear hK ev hd;go_simp;exact HK.out _ _ aS hJ rfl id
        case o12=>
         have e93:tg a 93= .pointer (some ⟨gn,n*3,none⟩):=(ev 93 au).trans (hd 11 _ xk rfl);have HK:=hid hK;clear hK ev hd;go_simp;exact HK.out _ _ aS hJ rfl id
        case o13=>
         have e94:tg a 94= .pointer (some ⟨gn,n*3+2,none⟩):=(ev 94 au).trans (hd 12 _ xk rfl);have g0:=fF n2 (hJ.1 gn xo);have HK:=hid hK;clear hK ev hd;go_simp;exact HK.out _ _ aS hJ rfl id
        case o14=>
         have e7:tg a 7= .slice (some ⟨gn,0,none⟩) (N+1) (N+1):=ev 7 au;have HK:=hid hK;clear hK ev hd;go_simp;exact HK.out _ _ aS hJ rfl id
        case PX=>
         have e9:tg a 9= .int .i64 n:=ev 9 au;have HK:=hid hK;clear hK ev hd;go_simp;exact HK.out _ _ aS hJ rfl id
        case o16=>
         have e96:tg a 96= .slice (some ⟨gn,0,none⟩) (N+1) (N+1):=(ev 96 au).trans (hd 14 _ xk rfl);have e97:tg a 97= .int .i64 n:=(ev 97 au).trans (hd 15 _ xk rfl);have HK:=hid hK;clear hK ev hd;go_simp;exact HK.out _ _ aS hJ rfl id
        case Uj=>
         have e98:tg a 98= .pointer (some ⟨gn,n*3,none⟩):=(ev 98 au).trans (hd 16 _ xk rfl);have HK:=hid hK;clear hK ev hd;go_simp;exact HK.out _ _ aS hJ rfl id
        case o18=>
         have e99:tg a 99= .pointer (some ⟨gn,n*3,none⟩):=(ev 99 au).trans (hd 17 _ xk rfl);have HK:=hid hK;clear hK ev hd;go_simp;exact HK.out _ _ aS hJ rfl id
        case o19=>
         have agw:tg a 100= .pointer (some ⟨gn,n*3,none⟩):=(ev 100 au).trans (hd 18 _ xk rfl);have g0:=fF n0 (hJ.1 gn xo);have HK:=hid hK;clear hK ev hd;go_simp;exact HK.out _ _ aS hJ rfl id
        case o20=>
         have e7:tg a 7= .slice (some ⟨gn,0,none⟩) (N+1) (N+1):=ev 7 au;have HK:=hid hK;clear hK ev hd;go_simp;exact HK.out _ _ aS hJ rfl id
        case o21=>
         have e9:tg a 9= .int .i64 n:=ev 9 au;have HK:=hid hK;clear hK ev hd;go_simp;exact HK.out _ _ aS hJ rfl id
        case o22=>
         have agu:tg a 102= .slice (some ⟨gn,0,none⟩) (N+1) (N+1):=(ev 102 au).trans (hd 20 _ xk rfl);have agt:tg a 103= .int .i64 n:=(ev 103 au).trans (hd 21 _ xk rfl);have HK:=hid hK;clear hK ev hd;go_simp;exact HK.out _ _ aS hJ rfl id
        case o23=>
         have ags:tg a 104= .pointer (some ⟨gn,n*3,none⟩):=(ev 104 au).trans (hd 22 _ xk rfl);have HK:=hid hK;clear hK ev hd;go_simp;exact HK.out _ _ aS hJ rfl id
        case o24=>
         have agr:tg a 105= .pointer (some ⟨gn,n*3,none⟩):=(ev 105 au).trans (hd 23 _ xk rfl);have HK:=hid hK;clear hK ev hd;go_simp;exact HK.out _ _ aS hJ rfl id
        case o25=>
         have agq:tg a 106= .pointer (some ⟨gn,n*3+1,none⟩):=(ev 106 au).trans (hd 24 _ xk rfl);have g0:=fF n1 (hJ.1 gn xo);have HK:=hid hK;clear hK ev hd;go_simp;exact HK.out _ _ aS hJ rfl id
        case o26=>
         have e83:tg a 83= .slice (some ⟨g1,0,none⟩) N N:=(ev 83 au).trans (hd 1 _ xk rfl);have e88:tg a 88= .int .i64 p:=(ev 88 au).trans (hd 6 _ xk rfl);have HK:=hid hK;clear hK ev hd;go_simp;exact HK.out _ _ aS hJ rfl id
        case o27=>
         have e108:tg a 108= .pointer (some ⟨g1,p,none⟩):=(ev 108 au).trans (hd 26 _ xk rfl);have agv:tg a 101= .int .i64 (fm n):=(ev 101 au).trans (hd 19 _ xk rfl);obtain ⟨⟨y,hy⟩,hf,hj⟩:=QB.out w' hJ;have HK:=hid hK;clear hK ev hd;go_simp;exact HK.out _ _ (fun h=>rfl) hj.1 hj.2 (fun _=>hj.2)
       case fin=>
        intro u w7 hJ hG;have h90:u 90= .slice (some ⟨g2,0,none⟩) N N:=hG 8 _ rfl;have h95:u 95= .int .i64 p:=hG 13 _ rfl;have ab2:u 107= .int .i64 (fc n):=hG 25 _ rfl;have hnew:oI w7:=hG 27 _ rfl;rw [acI.out] at hnew;have acH:=hid hnew;have hz7:w7.heap.size=w6.heap.size:=hJ.2.1;have OJ:Hid (∀q,q≠g1->w7.heap[q]? =w6.heap[q]?):=hid hJ.1;have Xz:=hid (af XA.out fun j hj=>by cases hj;exact OJ.out g2 Y6.symm);obtain ⟨y0,y1⟩:=bM Xz.out (j:=p) (by rw [ru.out];exact YV);generalize (rQ L fc fun m=>decide (n<m)).getD p 0=y at y0;have HJ7:=hid (show Below wk.heap.size wk w7 from ⟨hJ.2.2.1.1.trans Ub.out.os,hJ.2.2.1.2.1.trans Ub.out.tape,hJ.2.2.1.2.2.trans Ub.out.output,by rw [hz7];exact Ub.out.size,fun q hq=>(OJ.out q xo).trans (Ub.out.block q hq)⟩);have acG:=hid (af DZ.out fun j hj=>by cases hj;exact OJ.out gn V5);replace c0:=fF c0 (OJ.out b Hf.symm);replace c1:=fF c1 (OJ.out b Hf.symm);replace c2:=fF c2 (OJ.out b Hf.symm);clear hG hJ hnew XA Ub DZ QC QB n0 n1 n2 OJ;simp only [aX,kR,dstsOf,List.take_succ_cons,List.take_zero,List.filterMap_cons,List.filterMap_nil,List.contains_cons,List.contains_nil,Nat.reduceBEq,Bool.or_false,Bool.false_or,Bool.or_true,Bool.true_or,if_true,if_false,Bool.false_eq_true,Nat.reduceAdd,Nat.zero_add,List.drop_succ_cons,List.drop_zero,h90,h95,ab2];go_wp2
        go_roundg (n-1)
        case measure=>omega
        case rel=>
         refine ⟨by omega,congrArg _ xo,?_,?_,?_,?_,?_,?_,?_,?_⟩
         . exact (World.cell?_setCell_other _ _ _ _ (by intro e;cases e;exact He rfl)).trans c0
         . exact (World.cell?_setCell_other _ _ _ _ (by intro e;cases e;exact He rfl)).trans c1
         . exact (World.cell?_setCell_other _ _ _ _ (by intro e;cases e;exact He rfl)).trans c2
         . exact hid (af acH.out fun j hj=>by cases hj;exact ae _ _ _ Y6)
         . have:=dX Xz.out p (fc n);rw [S2.out] at this;exact hid this
         . exact hid (HJ7.out.setCell dG _)
         . exact hid (af acG.out fun j hj=>by cases hj;exact ae _ _ _ V4)
         . simp;omega
     . have hgd:decide ((n:Int)-lc≥0)=false:=by simp;omega
       have hlt:n<lc:=xo;have hlcb:lc<=8192:=by have:=XF.out;omega
       obtain ⟨m1,hm1⟩:∃m1,2*n=m1:=⟨_,rfl⟩
       obtain ⟨m2,hm2⟩:∃m2,m1+1=m2:=⟨_,rfl⟩
       have ABn:=hid (AB.out n hn0 hlt);rw [hm1,hm2] at ABn;have hN2:m2<=N:=by have:=XF.out;omega
       have hw1:IntKind.i64.wrap (m1:Int)=(m1:Int):=IntWalk.i64_in _ xo;have hw2:IntKind.i64.wrap (m2:Int)=(m2:Int):=IntWalk.i64_in _ xo;have hv1:2*(n:Int)=(m1:Int):=xo;have hv2:(m1:Int)+1=(m2:Int):=xo;obtain ⟨na0,-⟩:=bM Xy.out (j:=m1*3) xo;obtain ⟨na1,-⟩:=bM Xy.out (j:=m1*3+1) xo;obtain ⟨nb0,-⟩:=bM Xy.out (j:=m2*3) xo;obtain ⟨nb1,-⟩:=bM Xy.out (j:=m2*3+1) xo;rw [yj xo,show dn fm n m1=fm m1 from if_pos xo] at na0;rw [yh xo,show dn fc n m1=fc m1 from if_pos xo] at na1;rw [yj xo,show dn fm n m2=fm m2 from if_pos xo] at nb0;rw [yh xo,show dn fc n m2=fc m2 from if_pos xo] at nb1;have ajA:(m1:Int)<(N:Int)+1:=xo;have ajz:(m2:Int)<(N:Int)+1:=xo;have adZ:(n:Int)<(N:Int)+1:=xo;clear hm1 hm2 hlen;go_wp2
       refine di 16 xk (N:=111) rfl xk xk au (fun w'=>Below wr.heap.size wr w') (Ext 33) (rO [.is (.slice (some ⟨gn,0,none⟩) (N+1) (N+1)),.is (.int .i64 n),.is (.slice (some ⟨gn,0,none⟩) (N+1) (N+1)),.is (.int .i64 n),.is (.int .i64 m1),.is (.pointer (some ⟨gn,m1*3,none⟩)),.is (.pointer (some ⟨gn,m1*3,none⟩)),.is (O8 (fm m1) (fc m1)),.is (.slice (some ⟨gn,0,none⟩) (N+1) (N+1)),.is (.int .i64 n),.is (.int .i64 m1),.is (.int .i64 m2),.is (.pointer (some ⟨gn,m2*3,none⟩)),.is (.pointer (some ⟨gn,m2*3,none⟩)),.is (O8 (fm m2) (fc m2)),.is (O8 (fm n) (fc n))]) (iV _) br.drew ?steps ?fin
       case steps=>
        refine ⟨?o0,?o1,?o2,?o3,?o4,?o5,?o6,?o7,?o8,?o9,?o10,?o11,?o12,?o13,?o14,?PX,trivial⟩<;>intro u a w' ev hJ hd K hK
        case o0=>
         have e7:tg a 7= .slice (some ⟨gn,0,none⟩) (N+1) (N+1):=ev 7 au;have HK:=hid hK;clear hK ev hd;go_simp;exact HK.out _ _ aS hJ rfl (Ext.refl _ _)
        case o1=>
         have e9:tg a 9= .int .i64 n:=ev 9 au;have HK:=hid hK;clear hK ev hd;go_simp;exact HK.out _ _ aS hJ rfl (Ext.refl _ _)
        case o2=>
         have e7:tg a 7= .slice (some ⟨gn,0,none⟩) (N+1) (N+1):=ev 7 au;have HK:=hid hK;clear hK ev hd;go_simp;exact HK.out _ _ aS hJ rfl (Ext.refl _ _)
        case o3=>
         have e9:tg a 9= .int .i64 n:=ev 9 au;have HK:=hid hK;clear hK ev hd;go_simp;exact HK.out _ _ aS hJ rfl (Ext.refl _ _)
        case o4=>
         have e67:tg a 67= .int .i64 n:=(ev 67 au).trans (hd 3 _ xk rfl);have HK:=hid hK;clear hK ev hd;go_simp;exact HK.out _ _ aS hJ rfl (Ext.refl _ _)
        case o5=>
         have e66:tg a 66= .slice (some ⟨gn,0,none⟩) (N+1) (N+1):=(ev 66 au).trans (hd 2 _ xk rfl);have e68:tg a 68= .int .i64 m1:=(ev 68 au).trans (hd 4 _ xk rfl);have HK:=hid hK;clear hK ev hd;go_simp;exact HK.out _ _ aS hJ rfl (Ext.refl _ _)
        case o6=>
         have e69:tg a 69= .pointer (some ⟨gn,m1*3,none⟩):=(ev 69 au).trans (hd 5 _ xk rfl);have HK:=hid hK;clear hK ev hd;go_simp;exact HK.out _ _ aS hJ rfl (Ext.refl _ _)
        case o7=>
         have e70:tg a 70= .pointer (some ⟨gn,m1*3,none⟩):=(ev 70 au).trans (hd 6 _ xk rfl);have g0:=jb hJ na0;have g1:=jb hJ na1;have HK:=hid hK;clear hK ev hd;go_simp;exact HK.out _ _ aS hJ rfl (Ext.refl _ _)
        case o8=>
         have e7:tg a 7= .slice (some ⟨gn,0,none⟩) (N+1) (N+1):=ev 7 au;have HK:=hid hK;clear hK ev hd;go_simp;exact HK.out _ _ aS hJ rfl (Ext.refl _ _)
        case o9=>
         have e9:tg a 9= .int .i64 n:=ev 9 au;have HK:=hid hK;clear hK ev hd;go_simp;exact HK.out _ _ aS hJ rfl (Ext.refl _ _)
        case o10=>
         have e73:tg a 73= .int .i64 n:=(ev 73 au).trans (hd 9 _ xk rfl);have HK:=hid hK;clear hK ev hd;go_simp;exact HK.out _ _ aS hJ rfl (Ext.refl _ _)
        case o11=>
         have e74:tg a 74= .int .i64 m1:=(ev 74 au).trans (hd 10 _ xk rfl);have HK:=hid hK;clear hK ev hd;go_simp;exact HK.out _ _ aS hJ rfl (Ext.refl _ _)
        case o12=>
         have e72:tg a 72= .slice (some ⟨gn,0,none⟩) (N+1) (N+1):=(ev 72 au).trans (hd 8 _ xk rfl);have e75:tg a 75= .int .i64 m2:=(ev 75 au).trans (hd 11 _ xk rfl);have HK:=hid hK;clear hK ev hd;go_simp;exact HK.out _ _ aS hJ rfl (Ext.refl _ _)
        case o13=>
         have e76:tg a 76= .pointer (some ⟨gn,m2*3,none⟩):=(ev 76 au).trans (hd 12 _ xk rfl);have HK:=hid hK;clear hK ev hd;go_simp;exact HK.out _ _ aS hJ rfl (Ext.refl _ _)
        case o14=>
         have e77:tg a 77= .pointer (some ⟨gn,m2*3,none⟩):=(ev 77 au).trans (hd 13 _ xk rfl);have g0:=jb hJ nb0;have g1:=jb hJ nb1;have HK:=hid hK;clear hK ev hd;go_simp;exact HK.out _ _ aS hJ rfl (Ext.refl _ _)
        case PX=>
         have e71:tg a 71=O8 (fm m1) (fc m1):=(ev 71 au).trans (hd 7 _ xk rfl);have e78:tg a 78=O8 (fm m2) (fc m2):=(ev 78 au).trans (hd 14 _ xk rfl);have HK:=hid hK;have HC:=hid (ABn.out w');have lY:=hJ.size;clear hK ev hd;go_simp;refine HC.out.mono ?_;rintro e w'' ⟨rfl,hb⟩;exact HK.out _ _ aS (hJ.trans (hb.mono lY)) rfl (Ext.below hb)
       case fin=>
       intro u w5 hJ hG;have h79:u 79=O8 (fm n) (fc n):=hG 15 _ rfl;have h64:u 64= .slice (some ⟨gn,0,none⟩) (N+1) (N+1):=hG 0 _ rfl;have h65:u 65= .int .i64 n:=hG 1 _ rfl;have hb5:Below wr.heap.size wr w5:=hJ;have Um:=hb5.size;replace d0:=(hb5.cell (p:=⟨gn,n*3,none⟩) hgr).trans d0;replace d1:=(hb5.cell (p:=⟨gn,n*3+1,none⟩) hgr).trans d1;replace e0:=(hb5.frozen (p:=⟨gn,n*3,none⟩) hgr).trans e0;replace e1:=(hb5.frozen (p:=⟨gn,n*3+1,none⟩) hgr).trans e1;generalize (flat3 (dn fm n) (dn fc n) (n_ L) (N+1)).getD (n*3) 0=y0 at d0;generalize (flat3 (dn fm n) (dn fc n) (n_ L) (N+1)).getD (n*3+1) 0=y1 at d1;clear hG hJ na0 na1 nb0 nb1 hw1 hw2 hv1 hv2 ABn;simp only [aX,kR,dstsOf,List.take_succ_cons,List.take_zero,List.filterMap_cons,List.filterMap_nil,List.contains_cons,List.contains_nil,Nat.reduceBEq,Bool.or_false,Bool.false_or,Bool.or_true,Bool.true_or,if_true,if_false,Bool.false_eq_true,Nat.reduceAdd,Nat.zero_add,List.drop_succ_cons,List.drop_zero,h79,h64,h65];go_wp2
       -- the node is told: w6
       have adZ:(n:Int)<(N:Int)+1:=xo;have V5:gn≠g1:=xo;have V4:gn≠g2:=xo;have NZ:b≠gn:=xo;have T_:Hid (∀q,q≠gn->((w5.setCell ⟨gn,n*3,none⟩ (.int .i64 (fm n))).setCell ⟨gn,n*3+1,none⟩ (.int .i64 (fc n))).heap[q]? =w5.heap[q]?):=hid fun q hq=>by rw [ae _ _ _ hq,ae _ _ _ hq]
       have DZ:Hid (((w5.setCell ⟨gn,n*3,none⟩ (.int .i64 (fm n))).setCell ⟨gn,n*3+1,none⟩ (.int .i64 (fc n))).ownsRow wk.heap.size 141 3 (.slice (some ⟨gn,0,none⟩) (N+1) (N+1)) (N+1) (m_ (dn fm (n-1)) (dn fc (n-1)) (n_ L) (N+1))):=by
        have o1:=dX (ay Xy.out hb5) (n*3) (fm n);rw [xw xo,A_ _ _ hn0] at o1;have o2:=dX o1 (n*3+1) (fc n);rw [xu xo,A_ _ _ hn0] at o2;exact hid o2
       have Ub:Hid (Below wk.heap.size wk ((w5.setCell ⟨gn,n*3,none⟩ (.int .i64 (fm n))).setCell ⟨gn,n*3+1,none⟩ (.int .i64 (fc n)))):=hid (((LX.out.trans (hb5.mono aeF)).setCell dG _).setCell dG _);have hz6:((w5.setCell ⟨gn,n*3,none⟩ (.int .i64 (fm n))).setCell ⟨gn,n*3+1,none⟩ (.int .i64 (fc n))).heap.size=w5.heap.size:=by simp
       generalize (w5.setCell ⟨gn,n*3,none⟩ (.int .i64 (fm n))).setCell ⟨gn,n*3+1,none⟩ (.int .i64 (fc n))=w6 at *;replace c0:=(World.cell?_of_block (a:=⟨b,0,none⟩) (T_.out b NZ)).trans ((hb5.cell (p:=⟨b,0,none⟩) hbr).trans c0);replace c1:=(World.cell?_of_block (a:=⟨b,1,none⟩) (T_.out b NZ)).trans ((hb5.cell (p:=⟨b,1,none⟩) hbr).trans c1);replace c2:=(World.cell?_of_block (a:=⟨b,2,none⟩) (T_.out b NZ)).trans ((hb5.cell (p:=⟨b,2,none⟩) hbr).trans c2);have XB:=hid (af (ay HR1.out hb5) fun j hj=>by cases hj;exact T_.out g1 V5.symm);have XA:=hid (af (ay HR2.out hb5) fun j hj=>by cases hj;exact T_.out g2 V4.symm);have V7:(flat3 (dn fm (n-1)) (dn fc (n-1)) (n_ L) (N+1)).length=(N+1)*3:=dE;have YV:=HPV.out n hn0 V6;have hpG:=HPG.out n hn0 V6;have S1:=hid (HBS.out fm n hn0 V6);have S1':=hid (aeK.out fm n hn0 V6);have S2:=hid (HBS.out fc n hn0 V6);obtain ⟨p,hpp⟩:∃p,oJ L n=p:=⟨_,rfl⟩
       rw [hpp] at YV hpG S1 S1' S2;obtain ⟨n0,-⟩:=bM DZ.out (j:=n*3) xo;obtain ⟨n1,-⟩:=bM DZ.out (j:=n*3+1) xo;obtain ⟨n2,-⟩:=bM DZ.out (j:=n*3+2) xo;rw [yj xo,show dn fm (n-1) n=fm n from if_pos xo] at n0;rw [yh xo,show dn fc (n-1) n=fc n from if_pos xo] at n1;rw [Hu xo,show n_ L n=(p:Int) by rw [n_,if_neg xo,hpG]] at n2;obtain ⟨BA,Hl⟩:∃P:World->Prop,P=fun W=>W.ownsRow wz.heap.size 2 1 (.slice (some ⟨g1,0,none⟩) N N) N ((rQ L fm fun m=>decide (n<m)).map (Value.int .i64)):=⟨_,rfl⟩
       obtain ⟨oI,x_⟩:∃P:World->Prop,P=fun W=>W.ownsRow wz.heap.size 2 1 (.slice (some ⟨g1,0,none⟩) N N) N ((rQ L fm fun m=>decide (n-1<m)).map (Value.int .i64)):=⟨_,rfl⟩
       have QC:Hid (JB g1 w6.drew BA oI w6.drew):=hid ⟨fun _ _=>rfl,rfl,⟨rfl,rfl,rfl⟩,.inl (by rw [Hl];exact af XB.out fun _ _=>rfl)⟩;have QB:Hid (∀w',JB g1 w6.drew BA oI w'->(∃y,w'.cell? ⟨g1,p,none⟩=some (.int .i64 y))/\w'.frozen? ⟨g1,p,none⟩=false/\JB g1 w6.drew BA oI (w'.setCell ⟨g1,p,none⟩ (.int .i64 (fm n)))/\oI (w'.setCell ⟨g1,p,none⟩ (.int .i64 (fm n)))):=hid (by
        rintro w' ⟨j1,j2,j4,j3⟩;have key:(∃y,w'.cell? ⟨g1,p,none⟩=some (.int .i64 y))/\w'.frozen? ⟨g1,p,none⟩=false/\oI (w'.setCell ⟨g1,p,none⟩ (.int .i64 (fm n))):=by
         rcases j3 with j3|j3
         . rw [Hl] at j3;obtain ⟨y0,y1⟩:=bM j3 (j:=p) (by rw [ru.out];exact YV);have y2:=dX j3 p (fm n);rw [S1.out] at y2;rw [x_];exact ⟨⟨_,y0⟩,y1,y2⟩
         . rw [x_] at j3;obtain ⟨y0,y1⟩:=bM j3 (j:=p) (by rw [ru.out];exact YV);have y2:=dX j3 p (fm n);rw [S1'.out] at y2;rw [x_];exact ⟨⟨_,y0⟩,y1,y2⟩
        exact ⟨key.1,key.2.1,⟨fun q hq=>(ae _ _ _ hq).trans (j1 q hq),by rw [World.size_setCell];exact j2,j4,.inr key.2.2⟩,key.2.2⟩)
       have acI:=hid x_;clear Hl x_ hpG hpp V7 HR1 HR2 LX Xy T_ d0 d1 e0 e1 hb5 S1 S1' XB;refine di 28 xk (N:=111) rfl xk xk au (fun w'=>JB g1 w6.drew BA oI w') (fun W W'=>oI W->oI W') (gU [.is (.pointer (some ⟨b,1,none⟩)),.is (.slice (some ⟨g1,0,none⟩) N N),.is (.slice (some ⟨gn,0,none⟩) (N+1) (N+1)),.is (.int .i64 n),.is (.pointer (some ⟨gn,n*3,none⟩)),.is (.pointer (some ⟨gn,n*3+2,none⟩)),.is (.int .i64 p),.is (.pointer (some ⟨b,2,none⟩)),.is (.slice (some ⟨g2,0,none⟩) N N),.is (.slice (some ⟨gn,0,none⟩) (N+1) (N+1)),.is (.int .i64 n),.is (.pointer (some ⟨gn,n*3,none⟩)),.is (.pointer (some ⟨gn,n*3+2,none⟩)),.is (.int .i64 p),.is (.slice (some ⟨gn,0,none⟩) (N+1) (N+1)),.is (.int .i64 n),.is (.pointer (some ⟨gn,n*3,none⟩)),.is (.pointer (some ⟨gn,n*3,none⟩)),.is (.pointer (some ⟨gn,n*3,none⟩)),.is (.int .i64 (fm n)),.is (.slice (some ⟨gn,0,none⟩) (N+1) (N+1)),.is (.int .i64 n),.is (.pointer (some ⟨gn,n*3,none⟩)),.is (.pointer (some ⟨gn,n*3,none⟩)),.is (.pointer (some ⟨gn,n*3+1,none⟩)),.is (.int .i64 (fc n)),.is (.pointer (some ⟨g1,p,none⟩)),.now oI (fun _ _ h k=>h k)]) (dA _) QC.out ?steps ?fin
       case steps=>
        refine ⟨?o0,?o1,?o2,?o3,?o4,?o5,?o6,?o7,?o8,?o9,?o10,?o11,?o12,?o13,?o14,?PX,?o16,?Uj,?o18,?o19,?o20,?o21,?o22,?o23,?o24,?o25,?o26,?o27,trivial⟩<;>intro u a w' ev hJ hd K hK
        case o0=>
         have e8:tg a 8= .pointer (some ⟨b,0,none⟩):=ev 8 au;have HK:=hid hK;clear hK ev hd;go_simp;exact HK.out _ _ aS hJ rfl id
        case o1=>
         have e82:tg a 82= .pointer (some ⟨b,1,none⟩):=(ev 82 au).trans (hd 0 _ xk rfl);have g0:=fF c1 (hJ.1 b xo);have HK:=hid hK;clear hK ev hd;go_simp;exact HK.out _ _ aS hJ rfl id
        case o2=>
         have e7:tg a 7= .slice (some ⟨gn,0,none⟩) (N+1) (N+1):=ev 7 au;have HK:=hid hK;clear hK ev hd;go_simp;exact HK.out _ _ aS hJ rfl id
        case o3=>
         have e9:tg a 9= .int .i64 n:=ev 9 au;have HK:=hid hK;clear hK ev hd;go_simp;exact HK.out _ _ aS hJ rfl id
        case o4=>
         have e84:tg a 84= .slice (some ⟨gn,0,none⟩) (N+1) (N+1):=(ev 84 au).trans (hd 2 _ xk rfl);have e85:tg a 85= .int .i64 n:=(ev 85 au).trans (hd 3 _ xk rfl);have HK:=hid hK;clear hK ev hd;go_simp;exact HK.out _ _ aS hJ rfl id
        case o5=>
         have e86:tg a 86= .pointer (some ⟨gn,n*3,none⟩):=(ev 86 au).trans (hd 4 _ xk rfl);have HK:=hid hK;clear hK ev hd;go_simp;exact HK.out _ _ aS hJ rfl id
        case o6=>
         have e87:tg a 87= .pointer (some ⟨gn,n*3+2,none⟩):=(ev 87 au).trans (hd 5 _ xk rfl);have g0:=fF n2 (hJ.1 gn xo);have HK:=hid hK;clear hK ev hd;go_simp;exact HK.out _ _ aS hJ rfl id
        case o7=>
         have e8:tg a 8= .pointer (some ⟨b,0,none⟩):=ev 8 au;have HK:=hid hK;clear hK ev hd;go_simp;exact HK.out _ _ aS hJ rfl id
        case o8=>
         have e89:tg a 89= .pointer (some ⟨b,2,none⟩):=(ev 89 au).trans (hd 7 _ xk rfl);have g0:=fF c2 (hJ.1 b xo);have HK:=hid hK;clear hK ev hd;go_simp;exact HK.out _ _ aS hJ rfl id
        case o9=>
         have e7:tg a 7= .slice (some ⟨gn,0,none⟩) (N+1) (N+1):=ev 7 au;have HK:=hid hK;clear hK ev hd;go_simp;exact HK.out _ _ aS hJ rfl id
        case o10=>
         have e9:tg a 9= .int .i64 n:=ev 9 au;have HK:=hid hK;clear hK ev hd;go_simp;exact HK.out _ _ aS hJ rfl id
        case o11=>
         have e91:tg a 91= .slice (some ⟨gn,0,none⟩) (N+1) (N+1):=(ev 91 au).trans (hd 9 _ xk rfl);have e92:tg a 92= .int .i64 n:=(ev 92 au).trans (hd 10 _ xk rfl);have HK:=hid hK;clear hK ev hd;go_simp;exact HK.out _ _ aS hJ rfl id
        case o12=>
         have e93:tg a 93= .pointer (some ⟨gn,n*3,none⟩):=(ev 93 au).trans (hd 11 _ xk rfl);have HK:=hid hK;clear hK ev hd;go_simp;exact HK.out _ _ aS hJ rfl id
        case o13=>
         have e94:tg a 94= .pointer (some ⟨gn,n*3+2,none⟩):=(ev 94 au).trans (hd 12 _ xk rfl);have g0:=fF n2 (hJ.1 gn xo);have HK:=hid hK;clear hK ev hd;go_simp;exact HK.out _ _ aS hJ rfl id
        case o14=>
         have e7:tg a 7= .slice (some ⟨gn,0,none⟩) (N+1) (N+1):=ev 7 au;have HK:=hid hK;clear hK ev hd;go_simp;exact HK.out _ _ aS hJ rfl id
        case PX=>
         have e9:tg a 9= .int .i64 n:=ev 9 au;have HK:=hid hK;clear hK ev hd;go_simp;exact HK.out _ _ aS hJ rfl id
        case o16=>
         have e96:tg a 96= .slice (some ⟨gn,0,none⟩) (N+1) (N+1):=(ev 96 au).trans (hd 14 _ xk rfl);have e97:tg a 97= .int .i64 n:=(ev 97 au).trans (hd 15 _ xk rfl);have HK:=hid hK;clear hK ev hd;go_simp;exact HK.out _ _ aS hJ rfl id
        case Uj=>
         have e98:tg a 98= .pointer (some ⟨gn,n*3,none⟩):=(ev 98 au).trans (hd 16 _ xk rfl);have HK:=hid hK;clear hK ev hd;go_simp;exact HK.out _ _ aS hJ rfl id
        case o18=>
         have e99:tg a 99= .pointer (some ⟨gn,n*3,none⟩):=(ev 99 au).trans (hd 17 _ xk rfl);have HK:=hid hK;clear hK ev hd;go_simp;exact HK.out _ _ aS hJ rfl id
        case o19=>
         have agw:tg a 100= .pointer (some ⟨gn,n*3,none⟩):=(ev 100 au).trans (hd 18 _ xk rfl);have g0:=fF n0 (hJ.1 gn xo);have HK:=hid hK;clear hK ev hd;go_simp;exact HK.out _ _ aS hJ rfl id
        case o20=>
         have e7:tg a 7= .slice (some ⟨gn,0,none⟩) (N+1) (N+1):=ev 7 au;have HK:=hid hK;clear hK ev hd;go_simp;exact HK.out _ _ aS hJ rfl id
        case o21=>
         have e9:tg a 9= .int .i64 n:=ev 9 au;have HK:=hid hK;clear hK ev hd;go_simp;exact HK.out _ _ aS hJ rfl id
        case o22=>
         have agu:tg a 102= .slice (some ⟨gn,0,none⟩) (N+1) (N+1):=(ev 102 au).trans (hd 20 _ xk rfl);have agt:tg a 103= .int .i64 n:=(ev 103 au).trans (hd 21 _ xk rfl);have HK:=hid hK;clear hK ev hd;go_simp;exact HK.out _ _ aS hJ rfl id
        case o23=>
         have ags:tg a 104= .pointer (some ⟨gn,n*3,none⟩):=(ev 104 au).trans (hd 22 _ xk rfl);have HK:=hid hK;clear hK ev hd;go_simp;exact HK.out _ _ aS hJ rfl id
        case o24=>
         have agr:tg a 105= .pointer (some ⟨gn,n*3,none⟩):=(ev 105 au).trans (hd 23 _ xk rfl);have HK:=hid hK;clear hK ev hd;go_simp;exact HK.out _ _ aS hJ rfl id
        case o25=>
         have agq:tg a 106= .pointer (some ⟨gn,n*3+1,none⟩):=(ev 106 au).trans (hd 24 _ xk rfl);have g0:=fF n1 (hJ.1 gn xo);have HK:=hid hK;clear hK ev hd;go_simp;exact HK.out _ _ aS hJ rfl id
        case o26=>
         have e83:tg a 83= .slice (some ⟨g1,0,none⟩) N N:=(ev 83 au).trans (hd 1 _ xk rfl);have e88:tg a 88= .int .i64 p:=(ev 88 au).trans (hd 6 _ xk rfl);have HK:=hid hK;clear hK ev hd;go_simp;exact HK.out _ _ aS hJ rfl id
        case o27=>
         have e108:tg a 108= .pointer (some ⟨g1,p,none⟩):=(ev 108 au).trans (hd 26 _ xk rfl);have agv:tg a 101= .int .i64 (fm n):=(ev 101 au).trans (hd 19 _ xk rfl);obtain ⟨⟨y,hy⟩,hf,hj⟩:=QB.out w' hJ;have HK:=hid hK;clear hK ev hd;go_simp;exact HK.out _ _ (fun h=>rfl) hj.1 hj.2 (fun _=>hj.2)
       case fin=>
        intro u w7 hJ hG;have h90:u 90= .slice (some ⟨g2,0,none⟩) N N:=hG 8 _ rfl;have h95:u 95= .int .i64 p:=hG 13 _ rfl;have ab2:u 107= .int .i64 (fc n):=hG 25 _ rfl;have hnew:oI w7:=hG 27 _ rfl;rw [acI.out] at hnew;have acH:=hid hnew;have hz7:w7.heap.size=w6.heap.size:=hJ.2.1;have OJ:Hid (∀q,q≠g1->w7.heap[q]? =w6.heap[q]?):=hid hJ.1;have Xz:=hid (af XA.out fun j hj=>by cases hj;exact OJ.out g2 Y6.symm);obtain ⟨y0,y1⟩:=bM Xz.out (j:=p) (by rw [ru.out];exact YV);generalize (rQ L fc fun m=>decide (n<m)).getD p 0=y at y0;have HJ7:=hid (show Below wk.heap.size wk w7 from ⟨hJ.2.2.1.1.trans Ub.out.os,hJ.2.2.1.2.1.trans Ub.out.tape,hJ.2.2.1.2.2.trans Ub.out.output,by rw [hz7];exact Ub.out.size,fun q hq=>(OJ.out q xo).trans (Ub.out.block q hq)⟩);have acG:=hid (af DZ.out fun j hj=>by cases hj;exact OJ.out gn V5);replace c0:=fF c0 (OJ.out b Hf.symm);replace c1:=fF c1 (OJ.out b Hf.symm);replace c2:=fF c2 (OJ.out b Hf.symm);clear hG hJ hnew XA Ub DZ QC QB n0 n1 n2 OJ;simp only [aX,kR,dstsOf,List.take_succ_cons,List.take_zero,List.filterMap_cons,List.filterMap_nil,List.contains_cons,List.contains_nil,Nat.reduceBEq,Bool.or_false,Bool.false_or,Bool.or_true,Bool.true_or,if_true,if_false,Bool.false_eq_true,Nat.reduceAdd,Nat.zero_add,List.drop_succ_cons,List.drop_zero,h90,h95,ab2];go_wp2
        go_roundg (n-1)
        case measure=>omega
        case rel=>
         refine ⟨by omega,congrArg _ xo,?_,?_,?_,?_,?_,?_,?_,?_⟩
         . exact (World.cell?_setCell_other _ _ _ _ (by intro e;cases e;exact He rfl)).trans c0
         . exact (World.cell?_setCell_other _ _ _ _ (by intro e;cases e;exact He rfl)).trans c1
         . exact (World.cell?_setCell_other _ _ _ _ (by intro e;cases e;exact He rfl)).trans c2
         . exact hid (af acH.out fun j hj=>by cases hj;exact ae _ _ _ Y6)
         . have:=dX Xz.out p (fc n);rw [S2.out] at this;exact hid this
         . exact hid (HJ7.out.setCell dG _)
         . exact hid (af acG.out fun j hj=>by cases hj;exact ae _ _ _ V4)
         . simp;omega
   . obtain rfl:n=0:=xo;have hgc:decide (((0:Nat):Int)>0)=false:=by simp
     have q0:=(LX.out.cell (p:=⟨w.heap.size+1,0,none⟩) dG).trans a_;have q1:=(LX.out.cell (p:=⟨w.heap.size+1,1,none⟩) dG).trans aZ;have q2:=(LX.out.cell (p:=⟨w.heap.size+1,2,none⟩) dG).trans bf;have p0:=(LX.out.frozen (p:=⟨w.heap.size+1,0,none⟩) dG).trans bQ;have p1:=(LX.out.frozen (p:=⟨w.heap.size+1,1,none⟩) dG).trans bP;have p2:=(LX.out.frozen (p:=⟨w.heap.size+1,2,none⟩) dG).trans bT;go_wp2
     have hsw:=gq (w2:=wr) (b:=w.heap.size+1) (x:= .int .i64 (D+1)) (y:= .slice (some ⟨g1,0,none⟩) N N) (z:= .slice (some ⟨g2,0,none⟩) N N) q0 q1 q2;refine bodyPost_ret (aF rfl rfl (ag _ Tryz.underlying33 rfl xk (g_ hsw.1 hsw.2.1 hsw.2.2))) rfl ⟨_,_,rfl,?_,?_,?_⟩
     . rw [ru.out];have:=HR1.out;rw [HBA.out] at this;exact az (af this fun j hj=>by cases hj;rw [ae _ _ _ dG,ae _ _ _ dG,ae _ _ _ dG]) xo
     . rw [ru.out];have:=HR2.out;rw [HBA.out] at this;exact az (af this fun j hj=>by cases hj;rw [ae _ _ _ dG,ae _ _ _ dG,ae _ _ _ dG]) xo
     . exact (((aj LX.out HSK.out xo).setCell dG _).setCell dG _).setCell dG _
end
section
open Go.RowKit
theorem vw (a b:Option Addr) (ca cb:Nat) (xs ys:List Int) (w:World) (ha:aQ .i64 w a xs) (hb:aQ .i64 w b ys) (hm:xs.length<=1000000000):
    Calls Tryz.prog 126 #[.slice a xs.length ca,.slice b ys.length cb] w fun e w'=>e= .returned (.bool (decide (xs=ys)))/\∃n,w'=w.drewN n:=by
 by_cases hlen:xs.length=ys.length
 . have hl1:((xs.length:Int) != (ys.length:Int))=false:=by simp [hlen]
   have HL:=hid hlen;clear hlen;have HA:=hid ha;have HB:=hid hb;clear ha hb;go_enter Tryz.func126,Tryz.ntmps126
   go_wp2
   go_loopg [13] xs.length (fun g i wr=>∃(k n:Nat),k+g=xs.length/\i= .int .i64 k/\wr=w.drewN n/\xs.take k=ys.take k)
   case atStart=>exact ⟨0,0,by omega,rfl,rfl,by simp⟩
   case round=>
    obtain ⟨k,n,hk,rfl,rfl,ht⟩:=hrel;have HT:=hid ht;clear ht;by_cases hlt:k<xs.length
    . have hlt2 : k<ys.length:=by rw [<-HL.out];exact hlt
      obtain ⟨b1,o1,x,rfl,hx,h1,_⟩:=HA.out.get hlt;obtain ⟨b2,o2,y,rfl,hy,h2,_⟩:=HB.out.get hlt2;by_cases heq:x=y
      . have he:(x != y)=false:=by simpa using heq
        have HE:=hid heq;clear heq;go_wp2
        go_quiet (fail)
        go_wp2
        go_roundg (gk-1)
        case measure=>omega
        case rel=>exact ⟨k+1,n+nq,by omega,by go_num,by simp,wJ HL.out hlt HT.out (hx.out.trans (HE.out.trans hy.out.symm))⟩
      . have he : (x != y)=true:=by simpa using heq
        have HE:=hid heq;clear heq;go_wp2
        go_quiet (fail)
        go_wp2
        go_ret
        exact ⟨by have:xs≠ys:=fun h=>HE.out (by rw [<-hx.out,<-hy.out,h])
                  simp [this],_,World.drewN_drewN _ _ _⟩
    . go_wp2
      go_ret
      have hk2:k=xs.length:=xo;have hxy:xs=ys:=by
       have:=HT.out;rw [hk2,List.take_length,HL.out,List.take_length] at this;exact this
      exact ⟨by simp [hxy],_,rfl⟩
 . have hl1:((xs.length:Int) != (ys.length:Int))=true:=by simp;omega
   have hxy:xs≠ys:=fun h=>hlen (by rw [h])
   have HX:=hid hxy;clear ha hb hlen hxy;go_enter Tryz.func126,Tryz.ntmps126
   go_wp2
   go_ret
   exact ⟨by simp [HX.out],0,rfl⟩
theorem Uf (a b:Option Addr) (ca cb:Nat) (xs ys:List Int) (w:World) (ha:aQ .i64 w a xs) (hb:aQ .i64 w b ys) (hm:xs.length<=1000000000):
    Calls Tryz.prog 127 #[.slice a xs.length ca,.slice b ys.length cb] w fun e w'=>e= .returned (.bool (decide (xs=ys)))/\∃n,w'=w.drewN n:=by
 by_cases hlen:xs.length=ys.length
 . have hl1:((xs.length:Int) != (ys.length:Int))=false:=by simp [hlen]
   have HL:=hid hlen;clear hlen;have HA:=hid ha;have HB:=hid hb;clear ha hb;go_enter Tryz.func127,Tryz.ntmps127
   go_wp2
   go_loopg [13] xs.length (fun g i wr=>∃(k n:Nat),k+g=xs.length/\i= .int .i64 k/\wr=w.drewN n/\xs.take k=ys.take k)
   case atStart=>exact ⟨0,0,by omega,rfl,rfl,by simp⟩
   case round=>
    obtain ⟨k,n,hk,rfl,rfl,ht⟩:=hrel;have HT:=hid ht;clear ht;by_cases hlt:k<xs.length
    . have hlt2 : k<ys.length:=by rw [<-HL.out];exact hlt
      obtain ⟨b1,o1,x,rfl,hx,h1,_⟩:=HA.out.get hlt;obtain ⟨b2,o2,y,rfl,hy,h2,_⟩:=HB.out.get hlt2;by_cases heq:x=y
      . have he:(x != y)=false:=by simpa using heq
        have HE:=hid heq;clear heq;go_wp2
        go_quiet (fail)
        go_wp2
        go_roundg (gk-1)
        case measure=>omega
        case rel=>exact ⟨k+1,n+nq,by omega,by go_num,by simp,wJ HL.out hlt HT.out (hx.out.trans (HE.out.trans hy.out.symm))⟩
      . have he : (x != y)=true:=by simpa using heq
        have HE:=hid heq;clear heq;go_wp2
        go_quiet (fail)
        go_wp2
        go_ret
        exact ⟨by have:xs≠ys:=fun h=>HE.out (by rw [<-hx.out,<-hy.out,h])
                  simp [this],_,World.drewN_drewN _ _ _⟩
    . go_wp2
      go_ret
      have hk2:k=xs.length:=xo;have hxy:xs=ys:=by
       have:=HT.out;rw [hk2,List.take_length,HL.out,List.take_length] at this;exact this
      exact ⟨by simp [hxy],_,rfl⟩
 . have hl1:((xs.length:Int) != (ys.length:Int))=true:=by simp;omega
   have hxy:xs≠ys:=fun h=>hlen (by rw [h])
   have HX:=hid hxy;clear ha hb hlen hxy;go_enter Tryz.func127,Tryz.ntmps127
   go_wp2
   go_ret
   exact ⟨by simp [HX.out],0,rfl⟩
theorem Z7 (L L':Int) (ma ca ma' ca':Option Addr) (mc cc mc' cc':Nat) (ms cs ms' cs':List Int) (w:World) (hm:aQ .i64 w ma ms) (hc:aQ .i64 w ca cs) (hm':aQ .i64 w ma' ms') (hc':aQ .i64 w ca' cs') (hl:ms.length<=100000) (hl2:cs.length<=100000):
    Calls Tryz.prog 112 #[um L ma ms.length mc ca cs.length cc,um L' ma' ms'.length mc' ca' cs'.length cc'] w (Ans w (.bool (yX L ms cs L' ms' cs'))):=by
 have HE1:=hid (fun (W:World) (hb:Below w.heap.size w W)=>vw ma ma' mc mc' ms ms' W (hm.below hb) (hm'.below hb) xo);have HE2:=hid (fun (W:World) (hb:Below w.heap.size w W)=>Uf ca ca' cc cc' cs cs' W (hc.below hb) (hc'.below hb) xo);clear hm hc hm' hc' hl hl2;unfold yX;by_cases h1:L=L'
 . have e1:(L==L')=true:=by simpa using h1
   have e2:decide (L=L')=true:=by simpa using h1
   rw [e2];clear h1 e2;generalize hb1:decide (ms=ms')=b1 at HE1 ⊢;clear hb1;generalize hb2:decide (cs=cs')=b2 at HE2 ⊢;clear hb2;cases b1 with
   | true=>
    go_enter Tryz.func112,Tryz.ntmps112
    go_wp2_with (first
      | (go_at_call 126;refine (HE1.out _ aH).mono ?_;rintro e w1 ⟨rfl,n1,rfl⟩)
      | (go_at_call 127;refine (HE2.out _ aH).mono ?_;rintro e w2 ⟨rfl,n2,rfl⟩))
    go_ret
    exact ⟨by simp,by (exact aH)⟩
   | false=>
    go_enter Tryz.func112,Tryz.ntmps112
    go_wp2_with (first
      | (go_at_call 126;refine (HE1.out _ aH).mono ?_;rintro e w1 ⟨rfl,n1,rfl⟩)
      | (go_at_call 127;refine (HE2.out _ aH).mono ?_;rintro e w2 ⟨rfl,n2,rfl⟩))
    go_ret
    exact ⟨by simp,by (exact aH)⟩
 . have e1:(L==L')=false:=by simpa using h1
   have e2:decide (L=L')=false:=by simpa using h1
   rw [e2];clear h1 e2;go_enter Tryz.func112,Tryz.ntmps112
   go_wp2
   go_ret
   exact ⟨by simp,by (exact aH)⟩
end
section
open Go.RowKit Go.Shelf
attribute [local go_sem] Oper.semAt_some
theorem OO (ai:Int) (wa ka va ca:Option Addr) (wc kc vc cc lw lk lv lc:Nat) (laid:Int) (w:World) (x:Int) (hx:x≠0) (CK:Hid (∀W,Below w.heap.size w W->Calls Tryz.prog 51 #[.agg #[.int .i64 ai,.slice wa lw wc,.slice ka lk kc,.slice va lv vc,.slice ca lc cc,.int .u64 laid]] W (aC W (.int .i64 x)))):
    Calls Tryz.prog 44 #[.agg #[.int .i64 ai,.slice wa lw wc,.slice ka lk kc,.slice va lv vc,.slice ca lc cc,.int .u64 laid]] w (dY w 0 [] [] (.int .i64 x)):=by
 have g1:(x != 0)=true:=by simpa using hx
 clear hx;go_enter Tryz.func44,Tryz.ntmps44
 go_wp2_with fail
 refine (CK.out _ ((br.alloc (Nat.le_refl _) _).alloc ax _)).mono ?_;rintro e w1 ⟨rfl,hb1⟩;have aA:=hb1.size;try simp only [World.size_alloc,World.size_setCell] at aA
 have hh:=jl hb1 (jI (jA (b:=w.heap.size) ax));obtain ⟨aO,aN,aK,aU,aT,aV⟩:=hh;have bF:=aP hb1 (dB (bV (b:=w.heap.size) ax));have hh:=bc3 hb1 (uu (b:=w.heap.size+1) ax);obtain ⟨a_,aZ,bf⟩:=hh;have hh:=FW hb1 (bV (b:=w.heap.size+1) ax) (xx (b:=w.heap.size+1) ax);obtain ⟨bQ,bP,bT⟩:=hh;have bW:=aP hb1 (bV (b:=w.heap.size+1) ax);have hB1:Below w.heap.size w w1:=aH;go_wp2
 have hsw:=gq (w2:=w1) (b:=w.heap.size+1) (x:= .int .i64 0) (y:= .slice none 0 0) (z:= .slice none 0 0) a_ aZ bf;refine bodyPost_ret (aF rfl rfl (ag _ Tryz.underlying33 rfl xk (g_ hsw.1 hsw.2.1 hsw.2.2))) rfl ⟨_,_,rfl,World.ownsRow_nil _ _ _ _,World.ownsRow_nil _ _ _ _,?_⟩;exact ((hB1.setCell dG _).setCell dG _).setCell dG _
theorem LD (ai:Int) (wa ka va ca:Option Addr) (wc kc vc cc lw lk lv lc:Nat) (laid:Int) (w:World) (h8:8192<lc) (CK:Hid (∀W,Below w.heap.size w W->Calls Tryz.prog 51 #[.agg #[.int .i64 ai,.slice wa lw wc,.slice ka lk kc,.slice va lv vc,.slice ca lc cc,.int .u64 laid]] W (aC W (.int .i64 0)))):
    Calls Tryz.prog 44 #[.agg #[.int .i64 ai,.slice wa lw wc,.slice ka lk kc,.slice va lv vc,.slice ca lc cc,.int .u64 laid]] w (dY w 0 [] [] (.int .i64 4)):=by
 have g1:decide ((lc:Int)>8192)=true:=by simp;omega
 clear h8;go_enter Tryz.func44,Tryz.ntmps44
 go_wp2_with fail
 refine (CK.out _ ((br.alloc (Nat.le_refl _) _).alloc ax _)).mono ?_;rintro e w1 ⟨rfl,hb1⟩;have aA:=hb1.size;try simp only [World.size_alloc,World.size_setCell] at aA
 have hh:=jl hb1 (jI (jA (b:=w.heap.size) ax));obtain ⟨aO,aN,aK,aU,aT,aV⟩:=hh;have bF:=aP hb1 (dB (bV (b:=w.heap.size) ax));have hh:=bc3 hb1 (uu (b:=w.heap.size+1) ax);obtain ⟨a_,aZ,bf⟩:=hh;have hh:=FW hb1 (bV (b:=w.heap.size+1) ax) (xx (b:=w.heap.size+1) ax);obtain ⟨bQ,bP,bT⟩:=hh;have bW:=aP hb1 (bV (b:=w.heap.size+1) ax);have hB1:Below w.heap.size w w1:=aH;go_wp2
 have hsw:=gq (w2:=w1) (b:=w.heap.size+1) (x:= .int .i64 0) (y:= .slice none 0 0) (z:= .slice none 0 0) a_ aZ bf;refine bodyPost_ret (aF rfl rfl (ag _ Tryz.underlying33 rfl xk (g_ hsw.1 hsw.2.1 hsw.2.2))) rfl ⟨_,_,rfl,World.ownsRow_nil _ _ _ _,World.ownsRow_nil _ _ _ _,?_⟩;exact ((hB1.setCell dG _).setCell dG _).setCell dG _
theorem ug (c:aW) (a:jJ) (hl:c.ws.length<=9223372036854775807) (hl2:c.ks.length<=1000000000000) (w:World) (hin:iy w c a):
    Calls Tryz.prog 44 #[jB c a] w (dY w (iE c) (gy c) (fZ c) (.int .i64 (kJ c))):=by
 have CK:=hid (fun W (hb:Below w.heap.size w W)=>mX c a hl hl2 W (hin.below hb));by_cases hs:fE c=0
 . rw [hs] at CK;by_cases h8:8192<c.cs.length
   . have e:kJ c=4:=by rw [kJ,if_pos hs,if_pos h8]
     rw [iE,gy,fZ,e,if_neg au,if_neg au,if_neg au];exact LD _ _ _ _ _ _ _ _ _ _ _ _ _ _ w h8 CK
   . have e:kJ c=0:=by rw [kJ,if_pos hs,if_neg h8]
     rw [iE,gy,fZ,e,if_pos rfl,if_pos rfl,if_pos rfl];have hm:=nX hs;have hM:c.cs.length<=8192:=xo;obtain ⟨S,D,M,hS,hS2,hS4,Eh,hcm,hMD,hDM,aed,hSM,hks,hvs,hws,hwl⟩:=sN hm hM;have hD:c.cs.length.log2=D:=by rw [hcm,hMD]
     have hL:u_ c=D+1:=by rw [u_,hD]
     have hp:=Nat.two_pow_pos D;have hp2:2^(D+1)=2*2^D:=by rw [Nat.pow_succ];omega
     have hbs:((c.ai.toNat* 2^D:Nat):Int)<=65536:=by rw [hS2,hDM];omega
     have h:=IE c.ai a.wa a.ka a.va a.ca a.wc a.kc a.vc a.cc c.ws.length c.ks.length c.vs.length c.cs.length c.laid w D (u_ c) (2^u_ c-1) (by rw [hL];push_cast;rfl) xo xo (by rw [hL];omega) (by rw [hL,hcm];omega) (fun n=>(zM c D n).1) (fun n=>(zM c D n).2) CK
       (hid fun W=>by have:=IB c.cs.length c.cs.length rfl xo xo W;rwa [hD] at this)
       (hid fun W hb n h1 h2=>by
        have ht:zM c D n=oN c (n-M):=by rw [UH (by rw [hDM,<-hcm];exact h1),hDM]
        have:=YL c a hm hM (n-M) (by rw [hL] at h2;omega) W (hin.below hb);rw [<-ht,show ((n-M:Nat):Int)=(n:Int)-(c.cs.length:Nat) by omega] at this;exact this)
       (hid fun n h1 h2 W=>by
        have hb1:=UI c D (2*n);have hb2:=UI c D (2*n+1);have ht:=UG (c:=c) (D:=D) h1 (by rw [hDM,<-hcm];exact h2);have:=Lj (zM c D (2*n)).1 (zM c D (2*n)).2 (zM c D (2*n+1)).1 (zM c D (2*n+1)).2 xo xo xo xo W;rw [ht];exact this)
     rw [uX _ xo _ (fun _ _ _=>rfl),uX _ xo _ (fun _ _ _=>rfl)] at h;have e1:Xf c=(lay (u_ c) 1).map fun n=>(zM c D n).1:=by rw [Xf,hD]
     have e2:Xg c=(lay (u_ c) 1).map fun n=>(zM c D n).2:=by rw [Xg,hD]
     rw [e1,e2];rw [show (D:Int)+1=((u_ c:Nat):Int) by rw [hL];push_cast;rfl] at h;exact h
 . have e:kJ c=fE c:=by rw [kJ,if_neg hs]
   rw [iE,gy,fZ,e,if_neg hs,if_neg hs,if_neg hs];exact OO _ _ _ _ _ _ _ _ _ _ _ _ _ _ w _ hs CK
theorem Z9 (l:Int) (ma pY:Option Addr) (n1 mc n2 qK:Nat) (ai:Int) (wa ka va ca:Option Addr) (wc kc vc cc lw lk lv lc:Nat) (laid:Int) (w:World) (x:Int) (hx:x≠0) (l2:Int) (xs1 xs2:List Int) (BD:Hid (∀W,Below w.heap.size w W->Calls Tryz.prog 44 #[.agg #[.int .i64 ai,.slice wa lw wc,.slice ka lk kc,.slice va lv vc,.slice ca lc cc,.int .u64 laid]] W (dY W l2 xs1 xs2 (.int .i64 x)))):
    Calls Tryz.prog 62 #[um l ma n1 mc pY n2 qK,.agg #[.int .i64 ai,.slice wa lw wc,.slice ka lk kc,.slice va lv vc,.slice ca lc cc,.int .u64 laid]] w (aC w (.tuple #[.bool false,.int .i64 x])):=by
 have g1:(x != 0)=true:=by simpa using hx
 clear hx;go_enter Tryz.func62,Tryz.ntmps62
 go_wp2_with fail
 refine (BD.out _ aH).mono ?_;rintro e w1 ⟨v,u,rfl,o1,o2,hb1⟩;have aA:=hb1.size;try simp only [World.size_alloc,World.size_setCell] at aA
 have hB1:Below w.heap.size w w1:=aH;obtain ⟨ya,yc,rfl,-⟩:=aG o1;obtain ⟨za,zc,rfl,-⟩:=aG o2;clear o1 o2;go_wp2
 go_ret2
 exact ⟨rfl,by (exact aH)⟩
theorem Xt (l:Int) (ma pY:Option Addr) (n1 mc n2 qK:Nat) (ai:Int) (wa ka va ca:Option Addr) (wc kc vc cc lw lk lv lc:Nat) (laid:Int) (w:World) (l2:Int) (xs1 xs2:List Int) (r:Bool) (BD:Hid (∀W,Below w.heap.size w W->Calls Tryz.prog 44 #[.agg #[.int .i64 ai,.slice wa lw wc,.slice ka lk kc,.slice va lv vc,.slice ca lc cc,.int .u64 laid]] W (dY W l2 xs1 xs2 (.int .i64 0)))) (m1 m2:Nat) (HL1:Hid (xs1.length=m1)) (HL2:Hid (xs2.length=m2))
    (SM:Hid (∀ya za yc zc W,Below w.heap.size w W->aQ .i64 W ya xs1->aQ .i64 W za xs2->Calls Tryz.prog 112 #[um l ma n1 mc pY n2 qK,um l2 ya m1 yc za m2 zc] W (aC W (.bool r)))):
    Calls Tryz.prog 62 #[um l ma n1 mc pY n2 qK,.agg #[.int .i64 ai,.slice wa lw wc,.slice ka lk kc,.slice va lv vc,.slice ca lc cc,.int .u64 laid]] w (aC w (.tuple #[.bool r,.int .i64 0])):=by
 go_enter Tryz.func62,Tryz.ntmps62
 go_wp2_with fail
 refine (BD.out _ aH).mono ?_;rintro e w1 ⟨v,u,rfl,o1,o2,hb1⟩;have aA:=hb1.size;try simp only [World.size_alloc,World.size_setCell] at aA
 have ja:w1.cell? ⟨w.heap.size,0,none⟩=some (.int .i64 l)/\w1.cell? ⟨w.heap.size,1,none⟩=some (.slice ma n1 mc)/\w1.cell? ⟨w.heap.size,2,none⟩=some (.slice pY n2 qK):=by refine ⟨?_,?_,?_⟩<;>(refine (hb1.cell ?_).trans ?_<;>first|(exact gW)|(exact dL))
 have iZ:w.heap.size<w1.heap.size:=xo;obtain ⟨jy,jw,jH⟩:=ja;try clear ja
 have qh:=iZ;try clear iZ
 have hB1:Below w.heap.size w w1:=aH;obtain ⟨ya,yc,rfl,hy,-⟩:=ak o1;obtain ⟨za,zc,rfl,hz,-⟩:=ak o2;rw [HL1.out,HL2.out];have hbx:Below w1.heap.size w1 (w1.alloc (.cells #[.int .i64 l2,.slice ya m1 yc,.slice za m2 zc] 33)):=br.alloc (Nat.le_refl _) _;have SM1:=hid (SM.out ya za yc zc _ (aj hbx hB1 (by have:=hB1.size;omega)) (hy.below hbx) (hz.below hbx));clear o1 o2 hy hz;go_wp2_with fail
 refine SM1.out.mono ?_;rintro e w2 ⟨rfl,hb2⟩;have hz2:=hb2.size;go_wp2
 go_ret2
 exact ⟨rfl,by (exact aH)⟩
theorem QA (l:Int) (ma pY:Option Addr) (mc qK:Nat) (ms cs:List Int) (c:aW) (a:jJ) (hl:c.ws.length<=9223372036854775807) (hl2:c.ks.length<=1000000000000) (w:World) (hin:iy w c a) (hm:aQ .i64 w ma ms) (hc:aQ .i64 w pY cs) (hlm:ms.length<=100000) (hlc:cs.length<=100000):
    Calls Tryz.prog 62 #[um l ma ms.length mc pY cs.length qK,jB c a] w (aC w (.tuple #[.bool (Yw l ms cs c),.int .i64 (kJ c)])):=by
 have BD:=hid (fun W (hb:Below w.heap.size w W)=>ug c a hl hl2 W (hin.below hb));by_cases h:kJ c=0
 . have e:Yw l ms cs c=yX l ms cs (iE c) (gy c) (fZ c):=by rw [Yw];simp [h]
   rw [e,h];rw [h] at BD;exact Xt _ _ _ _ _ _ _ _ _ _ _ _ _ _ _ _ _ _ _ _ _ w _ _ _ _ BD _ _ (hid rfl) (hid rfl) (hid fun ya za yc zc W hb hy hz=>Z7 l (iE c) ma pY ya za mc qK yc zc ms cs (gy c) (fZ c) W (hm.below hb) (hc.below hb) hy hz hlm hlc)
 . have e:Yw l ms cs c=false:=by rw [Yw];simp [h]
   rw [e];exact Z9 _ _ _ _ _ _ _ _ _ _ _ _ _ _ _ _ _ _ _ _ _ w _ h _ _ _ BD
end
section
open Go.RowKit
def gr4 (n lk lv lw lc:Nat):Bool:=decide (n<lk)||decide (n<lv)||decide (n<lw)||decide (n<lc)
theorem G8:(Tryz.prog.info? 27).map (fun i=>(i.zero,i.size,i.bytes))=some (some (.int .u64 0),1,8):=by kernel_rfl
theorem zW:(Tryz.prog.info? 2).map (fun i=>(i.zero,i.size,i.bytes))=some (some (.int .i64 0),1,8):=by kernel_rfl
theorem SA:(Tryz.prog.info? 3).map (fun i=>(i.zero,i.size,i.bytes))=some (some (.int .i64 0),1,8):=by kernel_rfl
theorem vJ {k:IntKind} {w:World} {a:Option Addr} {xs:List Int} (h:aQ k w a xs) (ad:Addr) (ha:a=some ad):∀j u,(xs.map (Value.int k))[j]? =some u->w.cell? (ad.add j)=some u:=by
 subst ha;exact fun j u hj=>xH h ad rfl j u hj
def vk (w:World) (c:aW) (e:Ending) (w':World):Prop:=
  ∃v1 v2 v3 v4,e= .returned (.agg #[.int .i64 c.ai,v1,v2,v3,v4,.int .u64 c.laid])/\w'.ownsRow w.heap.size 27 1 v1 c.ws.length (c.ws.map (Value.int .u64))/\w'.ownsRow w.heap.size 2 1 v2 c.ks.length (c.ks.map (Value.int .i64))/\w'.ownsRow w.heap.size 2 1 v3 c.vs.length (c.vs.map (Value.int .i64))/\w'.ownsRow w.heap.size 3 1 v4 c.cs.length (c.cs.map (Value.int .i64))/\Below w.heap.size w w'/\∀p q,v2.ownBlock=some p->v3.ownBlock=some q->p≠q
theorem abe {w:World} {b:Nat} {x y z p q r:Value} (h0:w.cell? ⟨b,0,none⟩=some x) (h1:w.cell? ⟨b,1,none⟩=some y) (h2:w.cell? ⟨b,2,none⟩=some z) (h3:w.cell? ⟨b,3,none⟩=some p) (h4:w.cell? ⟨b,4,none⟩=some q) (h5:w.cell? ⟨b,5,none⟩=some r):∀j v,[x,y,z,p,q,r][j]? =some v->w.cell? ⟨b,j,none⟩=some v:=by
 intro j v hj;match j with
 | 0=>simp at hj;rw [<-hj];exact h0
 | 1=>simp at hj;rw [<-hj];exact h1
 | 2=>simp at hj;rw [<-hj];exact h2
 | 3=>simp at hj;rw [<-hj];exact h3
 | 4=>simp at hj;rw [<-hj];exact h4
 | 5=>simp at hj;rw [<-hj];exact h5
 | n+6=>simp at hj
theorem aB {w:World} {a b:Addr} {v u:Value} (h:a≠b) (hc:w.cell? a=some u):(w.setCell b v).cell? a=some u:=(World.cell?_setCell_other _ _ _ _ (by intro e;exact h (by rw [e]))).trans hc
theorem tH {w:World} {b:Nat} {x y z p q r x' y' z' p' q' r':Value} (h0:w.cell? ⟨b,0,none⟩=some x') (h1:w.cell? ⟨b,1,none⟩=some y') (h2:w.cell? ⟨b,2,none⟩=some z') (h3:w.cell? ⟨b,3,none⟩=some p') (h4:w.cell? ⟨b,4,none⟩=some q') (h5:w.cell? ⟨b,5,none⟩=some r'):
    ∀j v,[x,y,z,p,q,r][j]? =some v->((((((w.setCell ⟨b,0,none⟩ x).setCell ⟨b,1,none⟩ y).setCell ⟨b,2,none⟩ z).setCell ⟨b,3,none⟩ p).setCell ⟨b,4,none⟩ q).setCell ⟨b,5,none⟩ r).cell? ⟨b,j,none⟩=some v:=by
 refine abe ?_ ?_ ?_ ?_ ?_ ?_
 . exact aB ax (aB ax (aB ax (aB ax (aB ax (World.cell?_setCell_same _ _ _ h0)))))
 . exact aB ax (aB ax (aB ax (aB ax (World.cell?_setCell_same _ _ _ (aB ax h1)))))
 . exact aB ax (aB ax (aB ax (World.cell?_setCell_same _ _ _ (aB ax (aB ax h2)))))
 . exact aB ax (aB ax (World.cell?_setCell_same _ _ _ (aB ax (aB ax (aB ax h3)))))
 . exact aB ax (World.cell?_setCell_same _ _ _ (aB ax (aB ax (aB ax (aB ax h4)))))
 . exact World.cell?_setCell_same _ _ _ (aB ax (aB ax (aB ax (aB ax (aB ax h5)))))
end
end Go.Proofs.YtbedhbpgnfffmaaGreatDoor

/- Merged: ConfW, ConfC. -/
import Derived.Test.YtmnlagmmbfjbeaaDoorPmaNamesP6
import Derived.Test.YtmnlagmmbfjbeaaDoorPmaNamesP5
import Derived.Lib.QuietBelow
import Derived.Deep.CutRange
namespace Go.Proofs.YtmnlagmmbfjbeaaDoor
set_option maxRecDepth 100000
set_option maxHeartbeats 40000000
set_option linter.unusedVariables false
set_option linter.unusedSimpArgs false
section
open Go.RowKit Go.Shelf
attribute [local go_sem] Oper.semAt_some
theorem mul_bd {a b A B:Int} (h0:0≤a) (h1:a≤A) (h2:0≤b) (h3:b≤B):0≤a*b∧a*b≤A*B:=
  ⟨Int.mul_nonneg h0 h2,Int.mul_le_mul h1 h3 h2 (Int.le_trans h0 h1)⟩
theorem cfHead_num {c:Cfg} (h:cfHead c=true):1≤c.tag∧c.tag≤3∧1≤c.most∧c.most≤16384∧4≤c.seg∧c.seg≤64∧c.seg≤c.least∧c.least≤256∧1≤c.den∧c.den≤64∧0≤c.ll∧c.ll<c.rl∧c.rl<c.rh∧c.rh<c.lh∧c.lh≤c.den∧c.den≤2*c.rh∧8*c.rl≤c.den∧2*c.den≤c.rl*c.least∧c.rl*c.least≤64*256∧0≤c.rl*c.least:=by
 obtain ⟨h1,h2,h3,h4,h5,h6,h7,h8,h9,h10,h11,h12,h13,h14,h15,h16⟩:=cfHead_facts h;have s:=powB_iff.1 h5;have l:=powB_iff.1 h6;have q:=mul_bd (show 0≤c.rl by omega) (show c.rl≤64 by omega) (show 0≤c.least by omega) l.2.1;exact ⟨h1,h2,h3,h4,s.1,s.2.1,l.1,l.2.1,h7,h8,h9,h10,h11,h12,h13,h14,h15,h16,q.2,q.1⟩
theorem taks_bd {c:Cfg} (h:cfHead c=true) {n:Int} (h0:0≤n) (h1:n≤16384):1≤taks c n∧taks c n≤65536∧c.least≤taks c n:=by
 have f:=cfHead_num h;have a:=takF_bd (c:=c) (n:=n) 20 c.least xo;have b:=takF_le (c:=c) (n:=n) xo xo h0 20 c.least 65536 xo xo;unfold taks;exact ⟨by omega,b,a.1⟩
theorem htC_bd {c:Cfg} (h:1≤c.seg) {size:Int} (h0:0≤size) (h1:size≤65536):htC c size≤16:=by
 have hq0:0≤size/c.seg:=Int.ediv_nonneg h0 xo;have hq1:size/c.seg≤65536:=Int.le_trans (Int.ediv_le_self _ h0) h1;unfold htC;generalize size/c.seg=q at *;by_cases hz:q.toNat=0
 · rw [hz];decide
 · have:q.toNat.log2<17:=(Nat.log2_lt hz).2 xo;omega
theorem wdC_bd {c:Cfg} {a H h:Nat} (hs:c.seg=((2^a:Nat):Int)) (hb:2^a*2^H≤65536) (hh:h≤H):0≤wdC c h∧wdC c h≤65536:=by
 have e:wdC c h=((2^a*2^h:Nat):Int):=by rw [wdC,hs];push_cast;rfl
 have:2^a*2^h≤2^a*2^H:=Nat.mul_le_mul_left _ (Nat.pow_le_pow_right xo hh);rw [e];omega
theorem tak_turn {c:Cfg} {n size T X Y:Int} {k:Nat} (hX:n*c.den=X) (hY:c.rh*size=Y) (h0:0≤n) (h1:n≤16384) (h6:1≤c.rh) (h8:c.den≤2*c.rh) (hK:takF c n k size=T∧X≤size*2^k) (z0:0≤size) (hY2:size≤Y):
    (¬Y<X→size=T)∧(Y<X→size≤32768∧∃j,k=j+1∧takF c n j (2*size)=T∧X≤2*size*2^j):=by
 obtain ⟨k1,k2⟩:=hK;constructor
 · intro hlt;rw [takF_done (by rw [hX,hY];exact hlt)] at k1;exact k1
 · intro hlt;constructor
   · have h9:n*c.den≤n*(2*c.rh):=Int.mul_le_mul_of_nonneg_left h8 h0;have h10:n*(2*c.rh)=c.rh*(2*n):=by rw [Int.mul_comm n,Int.mul_assoc,Int.mul_left_comm]
     have:=Int.lt_of_mul_lt_mul_left (show c.rh*size<c.rh*(2*n) by omega) xo;omega
   · cases k with
     | zero=>
      simp at k2;omega
     | succ j=>
      rw [takF,if_pos (by rw [hX,hY];exact hlt)] at k1;refine ⟨j,rfl,k1,?_⟩;rw [Int.pow_succ] at k2;have:2*size*2^j=size*(2^j*2):=by rw [Int.mul_comm 2 size,Int.mul_assoc,Int.mul_comm 2]
      omega
theorem tak_start {c:Cfg} {n:Int} (h0:0≤n) (h1:n≤16384) (h2:1≤c.least) (h4:1≤c.den) (h5:c.den≤64):n*c.den≤c.least*2^20∧0≤n*c.den∧n*c.den≤16384*64:=by
 have m:=mul_bd h0 h1 (show 0≤c.den by omega) h5;have:=Int.mul_le_mul_of_nonneg_right h2 (show (0:Int)≤2^20 by decide);have e:(2:Int)^20=1048576:=by decide
 rw [e] at this ⊢;exact ⟨by omega,m⟩
theorem takes_ok (c:Cfg) (hc:cfHead c=true) (n:Int) (h0:0≤n) (h1:n≤16384) (w:World):
    Calls Tryd.prog 71 #[.agg #[.int .u8 c.tag,.int .i64 c.most,.int .i64 c.seg,.int .i64 c.least,.int .i64 c.den,.int .i64 c.ll,.int .i64 c.rl,.int .i64 c.rh,.int .i64 c.lh],.int .i64 n] w (AnsB w (.int .i64 (taks c n))):=by
 obtain ⟨d0,d1,d2,d3,d4,d5,d6,d7,d8,d9,d10,d11,d12,d13,d14,d15,d16,d17⟩:=cfHead_num hc;obtain ⟨s1,s2,s3⟩:=tak_start (c:=c) h0 h1 xo d8 d9;have HQ:=hid (And.intro h0 (And.intro h1 (And.intro (show 1≤c.rh by omega) d15)));unfold taks;obtain ⟨T,hT⟩:∃T,takF c n 20 c.least=T:=⟨_,rfl⟩
 rw [hT];have HT:=hid hT;obtain ⟨X,hX⟩:∃X,n*c.den=X:=⟨_,rfl⟩
 rw [hX] at s1 s2 s3;have HX:=hid hX;have H1:=hid s1;have hl1:1≤c.least:=xo;have hrb:1≤c.rh∧c.rh≤64:=xo;clear hT hX s1 hc d17;obtain ⟨hr1,hr2⟩:=hrb;have CR:=hid (fun size (z0:SmI size) W=>Cross_ok n size c.rh c.den ⟨by omega,by omega⟩ z0 ⟨by omega,by omega⟩ ⟨by omega,by omega⟩ W);generalize hrh:c.rh=rh at *;generalize hden:c.den=den at *;generalize hle:c.least=le at *;have HE:=hid (And.intro hrh (And.intro hden hle));clear hrh hden hle;go_enter Tryd.func71,Tryd.ntmps71
 go_wp2
 refine wp_scope_loop 0 (fun g a' w'=>∃size:Int,(∃u:Nat→Value,a'= {tmps:= #[.agg #[.int .u8 c.tag,.int .i64 c.most,.int .i64 c.seg,.int .i64 le,.int .i64 den,.int .i64 c.ll,.int .i64 c.rl,.int .i64 rh,.int .i64 c.lh],.int .i64 n,.pointer (some ⟨w.heap.size,0,none⟩),u 3,u 4,.int .i64 size,u 6,u 7,u 8,u 9,u 10,u 11,u 12,u 13,u 14,u 15,u 16,u 17,u 18,u 19,u 20,u 21,u 22,u 23,u 24],defers:=[]})∧Hid (Below w.heap.size w w')∧w.heap.size<w'.heap.size∧w'.cell? ⟨w.heap.size,7,none⟩=some (.int .i64 rh)∧w'.cell? ⟨w.heap.size,4,none⟩=some (.int .i64 den)∧0≤size∧size≤65536∧Hid (takF c n g size=T∧X≤size*2^g)) rfl ?_ ?_
 · rintro g a wo ⟨size,⟨u,rfl⟩,HB,hz,c7,c4,z0,z1,HK⟩ H hH;obtain ⟨Y,hY⟩:∃Y,rh*size=Y:=⟨_,rfl⟩
   have hY2:size≤Y:=by
    rw [←hY];have a2:=Int.mul_le_mul_of_nonneg_right hr1 z0;omega
   have tt:=tak_turn (by rw [HE.out.2.1];exact HX.out) (by rw [HE.out.1];exact hY) HQ.out.1 HQ.out.2.1 (by have:=HQ.out.2.2.1;have:=HE.out;omega) (by have:=HQ.out.2.2.2;have:=HE.out;omega) HK.out z0 hY2;have cv:crossV n size rh den=if Y<X then 1 else if X<Y then -1 else 0:=by
    unfold crossV;have e1:size*rh=Y:=by rw [Int.mul_comm];exact hY
    have e2:n*den=X:=HX.out;rw [e1,e2];split<;>split<;>(try split)<;>first|rfl|omega
   have C1:=hid (CR.out size ⟨by omega,by omega⟩);rw [cv] at C1;clear CR cv hY hY2 HK;have hzw:=HB.out.size;by_cases hlt:Y<X
   · rw [if_pos hlt] at C1;obtain ⟨hs,j,rfl,hj⟩:=tt.2 hlt;have HJ:=hid hj;clear tt hj;go_wp2_with fail
     refine (C1.out _).mono ?_;rintro e w1 ⟨rfl,hb1⟩;have b7:=(hb1.cell (p:=⟨w.heap.size,7,none⟩) hz).trans c7;have b4:=(hb1.cell (p:=⟨w.heap.size,4,none⟩) hz).trans c4;have hz1:=hb1.size;have HB1:=hid (below_via hb1 HB.out hzw);clear hb1 c7 c4;go_wp2
     refine wp_goto ?_;refine show (0=0∧H _ _) from ⟨rfl,hH j _ _ xo ⟨2*size,frame_mk _ _ _ ?_,HB1,by omega,b7,b4,by omega,by omega,HJ⟩⟩
     rw [show 2*size=size*2 by omega];rfl
   · rw [if_neg hlt] at C1;have hfin:=tt.1 hlt;subst hfin;clear tt;obtain ⟨v,hv⟩:∃v:Int,(if X<Y then (-1:Int) else 0)=v:=⟨_,rfl⟩
     have hv0:v≤0:=by rw [←hv];split<;>omega
     rw [hv] at C1;clear hv;go_wp2_with fail
     refine (C1.out _).mono ?_;rintro e w1 ⟨rfl,hb1⟩;have HB1:=hid (below_via hb1 HB.out hzw);clear hb1;go_wp2
     simp only [Exit.jump];go_ret
     exact ⟨rfl,HB1.out⟩
 · intro H hH hpass;go_wp2
   refine wp_label ?_;go_step
   go_step
   refine hpass 20 _ _ ?_;refine ⟨le,frame_mk _ _ _ rfl,hid (br.alloc (Nat.le_refl _) _),by simp,by rw [World.cell?_alloc_at _ _ _ _ rfl];rfl,by rw [World.cell?_alloc_at _ _ _ _ rfl];rfl,by omega,by omega,hid ⟨HT.out,H1.out⟩⟩
theorem height_ok (c:Cfg) (size:Int) (h0:c.seg≤size) (h1:size≤65536) (h2:1≤c.seg) (w:World):
    Calls Tryd.prog 77 #[.agg #[.int .u8 c.tag,.int .i64 c.most,.int .i64 c.seg,.int .i64 c.least,.int .i64 c.den,.int .i64 c.ll,.int .i64 c.rl,.int .i64 c.rh,.int .i64 c.lh],.int .i64 size] w (AnsB w (.int .i64 (htC c size:Nat))):=by
 have hq0:1≤size/c.seg:=by
  have:=Int.ediv_le_ediv (c:=c.seg) xo h0;rwa [Int.ediv_self xo] at this
 have hq1:size/c.seg≤65536:=Int.le_trans (Int.ediv_le_self _ xo) h1;have hq2:size.tdiv c.seg=size/c.seg:=Int.tdiv_eq_ediv_of_nonneg xo;have hs0:(c.seg==0)=false:=by simp;omega
 unfold htC;generalize size/c.seg=q at *;obtain ⟨m,rfl⟩:=Int.eq_ofNat_of_zero_le (show 0≤q by omega);rw [Int.toNat_natCast];have LG:=hid (fun w=>Down_ok m m rfl xo xo w);generalize m.log2=z at *;have hwm:IntKind.i64.wrap (m:Int)=(m:Int):=IntWalk.i64_in _ xo;go_enter Tryd.func77,Tryd.ntmps77
 go_wp2_with (go_at_call 93;refine (LG.out _).mono ?_;rintro e w' ⟨rfl,rfl⟩)
 go_ret
 exact ⟨rfl,br.alloc (Nat.le_refl _) _⟩
end
section
open Go.RowKit Go.Shelf Go.Sort
attribute [local go_sem] Oper.semAt_some
theorem cell_heap {w:World} {g:Nat} {cs:Array Value} {e:TypeId} {fr:Nat×Nat} (h:w.heap[g]? =some (.cells cs e fr)) (i:Nat):w.cell? ⟨g,i,none⟩=cs[i]? :=by
 unfold World.cell?;simp [h]
theorem bools_heap {w:World} {g:Nat} {e:TypeId} {l:List Bool} (h:w.heap[g]? =some (.cells (l.map Value.bool).toArray e (0,0))):IsBools w g l:=by
 intro i hi;rw [cell_heap h];simp [List.getD_eq_getElem?_getD,hi]
def Fact.bools {T:TypeId} (e:TypeId) (he:e≠T) (n:Nat) (l:List Bool):Fact T:=⟨fun v w=>∃g,v= .slice (some ⟨g,0,none⟩) n n∧w.heap[g]? =some (.cells (l.map Value.bool).toArray e (0,0)),fun _ _ _ h ⟨g,h1,h2⟩=>⟨g,h1,h.same _ _ h2 (fun cs fr e'=>by cases e';exact he rfl)⟩⟩
def szL (c:Cfg):List Bool:=[decide (1≤c.tag),decide (c.tag≤3),decide (1≤c.most),decide (c.most≤16384),powB c.seg 4 64,powB c.least c.seg 256,decide (1≤c.den),decide (c.den≤64)]
def ptL (c:Cfg):List Bool:=[decide (0≤c.ll),decide (c.ll<c.rl),decide (c.rl<c.rh),decide (c.rh<c.lh),decide (c.lh≤c.den)]
def lsL (c:Cfg):List Bool:=[decide (c.den≤2*c.rh),decide (8*c.rl≤c.den),decide (2*c.den≤c.rl*c.least)]
theorem cfHead_split (c:Cfg):cfHead c=((szL c).all id&&(ptL c).all id&&(lsL c).all id):=by
 simp [cfHead,szL,ptL,lsL,Bool.and_assoc]
theorem szp_num {c:Cfg} (h1:(szL c).all id=true) (h2:(ptL c).all id=true):1≤c.den∧c.den≤64∧0≤c.ll∧c.ll<c.rl∧c.rl<c.rh∧c.rh<c.lh∧c.lh≤c.den∧c.rl*c.least≤64*256∧0≤c.rl*c.least:=by
 simp only [szL,ptL,List.all_cons,List.all_nil,Bool.and_true,id,Bool.and_eq_true,decide_eq_true_eq] at h1 h2;obtain ⟨a1,a2,a3,a4,a5,a6,a7,a8⟩:=h1;obtain ⟨b1,b2,b3,b4,b5⟩:=h2;have s:=powB_iff.1 a5;have l:=powB_iff.1 a6;have q:=mul_bd (show 0≤c.rl by omega) (show c.rl≤64 by omega) (show 0≤c.least by omega) l.2.1;exact ⟨a7,a8,b1,b2,b3,b4,b5,q.2,q.1⟩
theorem cfE_bad {c:Cfg} (h:cfHead c=false):cfE c=50:=by simp [cfE,cfMay,h]
theorem Check5_ok (c:Cfg) (w:World):
    Calls Tryd.prog 50 #[.agg #[.int .u8 c.tag,.int .i64 c.most,.int .i64 c.seg,.int .i64 c.least,.int .i64 c.den,.int .i64 c.ll,.int .i64 c.rl,.int .i64 c.rh,.int .i64 c.lh]] w (AnsB w (.int .i64 (cfE c))):=by
 obtain ⟨s,hs⟩:∃s,(szL c).all id=s:=⟨_,rfl⟩
 obtain ⟨p,hp⟩:∃p,(ptL c).all id=p:=⟨_,rfl⟩
 obtain ⟨q,hq⟩:∃q,(lsL c).all id=q:=⟨_,rfl⟩
 have hh:=cfHead_split c;rw [hs,hp,hq] at hh;obtain ⟨r,hr⟩:∃r,cfE c=r:=⟨_,rfl⟩
 rw [hr];have HH:=hid hh;have HR:=hid hr;have HP:=hid hp;have HQ:=hid hq;have HSZ:=hid hs;clear hh hr hp hq;go_enter Tryd.func50,Tryd.ntmps50
 go_upto_region 1 with (fail)
 generalize hwz:w.alloc _=wz;have c_t0:wz.cell? ⟨w.heap.size,0,none⟩=some (.int .u8 c.tag):=by rw [←hwz];(exact xcg)
 have c_t1:wz.cell? ⟨w.heap.size,1,none⟩=some (.int .i64 c.most):=by rw [←hwz];(exact xcg)
 have c_t2:wz.cell? ⟨w.heap.size,2,none⟩=some (.int .i64 c.seg):=by rw [←hwz];(exact xcg)
 have c_t3:wz.cell? ⟨w.heap.size,3,none⟩=some (.int .i64 c.least):=by rw [←hwz];(exact xcg)
 have c_t4:wz.cell? ⟨w.heap.size,4,none⟩=some (.int .i64 c.den):=by rw [←hwz];(exact xcg)
 have c_t5:wz.cell? ⟨w.heap.size,5,none⟩=some (.int .i64 c.ll):=by rw [←hwz];(exact xcg)
 have c_t6:wz.cell? ⟨w.heap.size,6,none⟩=some (.int .i64 c.rl):=by rw [←hwz];(exact xcg)
 have c_t7:wz.cell? ⟨w.heap.size,7,none⟩=some (.int .i64 c.rh):=by rw [←hwz];(exact xcg)
 have c_t8:wz.cell? ⟨w.heap.size,8,none⟩=some (.int .i64 c.lh):=by rw [←hwz];(exact xcg)
 have z_t:w.heap.size<wz.heap.size:=by rw [←hwz];(exact xlt)
 have HS:Hid (Below w.heap.size w wz):=by rw [←hwz];exact hid (br.alloc (Nat.le_refl _) _)
 have hz:w.heap.size+1=wz.heap.size:=by rw [←hwz];simp
 clear hwz;refine wp_region_facts 28 xk (N:=108) rfl xk xk xdd (fun w'=>Below wz.heap.size wz w') (Ext 23) (factAt [.is (.pointer (some ⟨w.heap.size,0,none⟩)),.is (.int .u8 c.tag),.is (.bool (decide (1≤c.tag))),.is (.pointer (some ⟨w.heap.size,0,none⟩)),.is (.int .u8 c.tag),.is (.bool (decide (c.tag≤3))),.is (.pointer (some ⟨w.heap.size,1,none⟩)),.is (.int .i64 c.most),.is (.bool (decide (1≤c.most))),.is (.pointer (some ⟨w.heap.size,1,none⟩)),.is (.int .i64 c.most),.is (.bool (decide (c.most≤16384))),.is (.pointer (some ⟨w.heap.size,2,none⟩)),.is (.int .i64 c.seg),.is (.bool (powB c.seg 4 64)),.is (.pointer (some ⟨w.heap.size,3,none⟩)),.is (.int .i64 c.least),.is (.pointer (some ⟨w.heap.size,2,none⟩)),.is (.int .i64 c.seg),.is (.bool (powB c.least c.seg 256)),.is (.pointer (some ⟨w.heap.size,4,none⟩)),.is (.int .i64 c.den),.is (.bool (decide (1≤c.den))),.is (.pointer (some ⟨w.heap.size,4,none⟩)),.is (.int .i64 c.den),.is (.bool (decide (c.den≤64))),.bools 4 xdd 8 (szL c),.is (.bool s)]) (factAt_stays _) br.drew ?steps ?fin
 case steps=>
     refine ⟨?o0,?o1,?o2,?o3,?o4,?o5,?o6,?o7,?o8,?o9,?o10,?o11,?o12,?o13,?o14,?o15,?o16,?o17,?o18,?o19,?o20,?o21,?o22,?o23,?o24,?o25,?o26,?o27,trivial⟩
     case o0=>
      intro u a w' ev hJ hd K hK;have e1:tg a 1= .pointer (some ⟨w.heap.size,0,none⟩):=ev 1 xdd;have HK:=hid hK;clear hK ev hd;go_simp;exact HK.out _ _ xzc hJ rfl (Ext.refl _ _)
     case o1=>
      intro u a w' ev hJ hd K hK;have e5:tg a 5= .pointer (some ⟨w.heap.size,0,none⟩):=(ev 5 xdd).trans (hd 0 _ xk rfl);have g0:=xjc hJ c_t0;have HK:=hid hK;clear hK ev hd;go_simp;exact HK.out _ _ xzc hJ rfl (Ext.refl _ _)
     case o2=>
      intro u a w' ev hJ hd K hK;have e6:tg a 6= .int .u8 c.tag:=(ev 6 xdd).trans (hd 1 _ xk rfl);have HK:=hid hK;clear hK ev hd;go_simp;exact HK.out _ _ xzc hJ rfl (Ext.refl _ _)
     case o3=>
      intro u a w' ev hJ hd K hK;have e1:tg a 1= .pointer (some ⟨w.heap.size,0,none⟩):=ev 1 xdd;have HK:=hid hK;clear hK ev hd;go_simp;exact HK.out _ _ xzc hJ rfl (Ext.refl _ _)
     case o4=>
      intro u a w' ev hJ hd K hK;have e8:tg a 8= .pointer (some ⟨w.heap.size,0,none⟩):=(ev 8 xdd).trans (hd 3 _ xk rfl);have g0:=xjc hJ c_t0;have HK:=hid hK;clear hK ev hd;go_simp;exact HK.out _ _ xzc hJ rfl (Ext.refl _ _)
     case o5=>
      intro u a w' ev hJ hd K hK;have e9:tg a 9= .int .u8 c.tag:=(ev 9 xdd).trans (hd 4 _ xk rfl);have HK:=hid hK;clear hK ev hd;go_simp;exact HK.out _ _ xzc hJ rfl (Ext.refl _ _)
     case o6=>
      intro u a w' ev hJ hd K hK;have e1:tg a 1= .pointer (some ⟨w.heap.size,0,none⟩):=ev 1 xdd;have HK:=hid hK;clear hK ev hd;go_simp;exact HK.out _ _ xzc hJ rfl (Ext.refl _ _)
     case o7=>
      intro u a w' ev hJ hd K hK;have e11:tg a 11= .pointer (some ⟨w.heap.size,1,none⟩):=(ev 11 xdd).trans (hd 6 _ xk rfl);have g0:=xjc hJ c_t1;have HK:=hid hK;clear hK ev hd;go_simp;exact HK.out _ _ xzc hJ rfl (Ext.refl _ _)
     case o8=>
      intro u a w' ev hJ hd K hK;have e12:tg a 12= .int .i64 c.most:=(ev 12 xdd).trans (hd 7 _ xk rfl);have HK:=hid hK;clear hK ev hd;go_simp;exact HK.out _ _ xzc hJ rfl (Ext.refl _ _)
     case o9=>
      intro u a w' ev hJ hd K hK;have e1:tg a 1= .pointer (some ⟨w.heap.size,0,none⟩):=ev 1 xdd;have HK:=hid hK;clear hK ev hd;go_simp;exact HK.out _ _ xzc hJ rfl (Ext.refl _ _)
     case o10=>
      intro u a w' ev hJ hd K hK;have e14:tg a 14= .pointer (some ⟨w.heap.size,1,none⟩):=(ev 14 xdd).trans (hd 9 _ xk rfl);have g0:=xjc hJ c_t1;have HK:=hid hK;clear hK ev hd;go_simp;exact HK.out _ _ xzc hJ rfl (Ext.refl _ _)
     case o11=>
      intro u a w' ev hJ hd K hK;have e15:tg a 15= .int .i64 c.most:=(ev 15 xdd).trans (hd 10 _ xk rfl);have HK:=hid hK;clear hK ev hd;go_simp;exact HK.out _ _ xzc hJ rfl (Ext.refl _ _)
     case o12=>
      intro u a w' ev hJ hd K hK;have e1:tg a 1= .pointer (some ⟨w.heap.size,0,none⟩):=ev 1 xdd;have HK:=hid hK;clear hK ev hd;go_simp;exact HK.out _ _ xzc hJ rfl (Ext.refl _ _)
     case o13=>
      intro u a w' ev hJ hd K hK;have e17:tg a 17= .pointer (some ⟨w.heap.size,2,none⟩):=(ev 17 xdd).trans (hd 12 _ xk rfl);have g0:=xjc hJ c_t2;have HK:=hid hK;clear hK ev hd;go_simp;exact HK.out _ _ xzc hJ rfl (Ext.refl _ _)
     case o14=>
      intro u a w' ev hJ hd K hK;have e18:tg a 18= .int .i64 c.seg:=(ev 18 xdd).trans (hd 13 _ xk rfl);have HK:=hid hK;have HC:=hid (cpower_ok c.seg 4 64 xo w');clear hK ev hd;go_simp;refine HC.out.mono ?_;rintro e w'' ⟨rfl,rfl⟩;exact HK.out _ _ xzc hJ rfl (Ext.refl _ _)
     case o15=>
      intro u a w' ev hJ hd K hK;have e1:tg a 1= .pointer (some ⟨w.heap.size,0,none⟩):=ev 1 xdd;have HK:=hid hK;clear hK ev hd;go_simp;exact HK.out _ _ xzc hJ rfl (Ext.refl _ _)
     case o16=>
      intro u a w' ev hJ hd K hK;have e20:tg a 20= .pointer (some ⟨w.heap.size,3,none⟩):=(ev 20 xdd).trans (hd 15 _ xk rfl);have g0:=xjc hJ c_t3;have HK:=hid hK;clear hK ev hd;go_simp;exact HK.out _ _ xzc hJ rfl (Ext.refl _ _)
     case o17=>
      intro u a w' ev hJ hd K hK;have e1:tg a 1= .pointer (some ⟨w.heap.size,0,none⟩):=ev 1 xdd;have HK:=hid hK;clear hK ev hd;go_simp;exact HK.out _ _ xzc hJ rfl (Ext.refl _ _)
     case o18=>
      intro u a w' ev hJ hd K hK;have e22:tg a 22= .pointer (some ⟨w.heap.size,2,none⟩):=(ev 22 xdd).trans (hd 17 _ xk rfl);have g0:=xjc hJ c_t2;have HK:=hid hK;clear hK ev hd;go_simp;exact HK.out _ _ xzc hJ rfl (Ext.refl _ _)
     case o19=>
      intro u a w' ev hJ hd K hK;have e21:tg a 21= .int .i64 c.least:=(ev 21 xdd).trans (hd 16 _ xk rfl);have e23:tg a 23= .int .i64 c.seg:=(ev 23 xdd).trans (hd 18 _ xk rfl);have HK:=hid hK;have HC:=hid (cpower_ok c.least c.seg 256 xo w');clear hK ev hd;go_simp;refine HC.out.mono ?_;rintro e w'' ⟨rfl,rfl⟩;exact HK.out _ _ xzc hJ rfl (Ext.refl _ _)
     case o20=>
      intro u a w' ev hJ hd K hK;have e1:tg a 1= .pointer (some ⟨w.heap.size,0,none⟩):=ev 1 xdd;have HK:=hid hK;clear hK ev hd;go_simp;exact HK.out _ _ xzc hJ rfl (Ext.refl _ _)
     case o21=>
      intro u a w' ev hJ hd K hK;have e25:tg a 25= .pointer (some ⟨w.heap.size,4,none⟩):=(ev 25 xdd).trans (hd 20 _ xk rfl);have g0:=xjc hJ c_t4;have HK:=hid hK;clear hK ev hd;go_simp;exact HK.out _ _ xzc hJ rfl (Ext.refl _ _)
     case o22=>
      intro u a w' ev hJ hd K hK;have e26:tg a 26= .int .i64 c.den:=(ev 26 xdd).trans (hd 21 _ xk rfl);have HK:=hid hK;clear hK ev hd;go_simp;exact HK.out _ _ xzc hJ rfl (Ext.refl _ _)
     case o23=>
      intro u a w' ev hJ hd K hK;have e1:tg a 1= .pointer (some ⟨w.heap.size,0,none⟩):=ev 1 xdd;have HK:=hid hK;clear hK ev hd;go_simp;exact HK.out _ _ xzc hJ rfl (Ext.refl _ _)
     case o24=>
      intro u a w' ev hJ hd K hK;have e28:tg a 28= .pointer (some ⟨w.heap.size,4,none⟩):=(ev 28 xdd).trans (hd 23 _ xk rfl);have g0:=xjc hJ c_t4;have HK:=hid hK;clear hK ev hd;go_simp;exact HK.out _ _ xzc hJ rfl (Ext.refl _ _)
     case o25=>
      intro u a w' ev hJ hd K hK;have e29:tg a 29= .int .i64 c.den:=(ev 29 xdd).trans (hd 24 _ xk rfl);have HK:=hid hK;clear hK ev hd;go_simp;exact HK.out _ _ xzc hJ rfl (Ext.refl _ _)
     case o26=>
      intro u a w' ev hJ hd K hK;have e7:tg a 7= .bool (decide (1≤c.tag)):=(ev 7 xdd).trans (hd 2 _ xk rfl);have e10:tg a 10= .bool (decide (c.tag≤3)):=(ev 10 xdd).trans (hd 5 _ xk rfl);have e13:tg a 13= .bool (decide (1≤c.most)):=(ev 13 xdd).trans (hd 8 _ xk rfl);have e16:tg a 16= .bool (decide (c.most≤16384)):=(ev 16 xdd).trans (hd 11 _ xk rfl);have e19:tg a 19= .bool (powB c.seg 4 64):=(ev 19 xdd).trans (hd 14 _ xk rfl);have e24:tg a 24= .bool (powB c.least c.seg 256):=(ev 24 xdd).trans (hd 19 _ xk rfl);have e27:tg a 27= .bool (decide (1≤c.den)):=(ev 27 xdd).trans (hd 22 _ xk rfl);have e30:tg a 30= .bool (decide (c.den≤64)):=(ev 30 xdd).trans (hd 25 _ xk rfl);have f7:a.tmps[7]?.getD undef= .bool (decide (1≤c.tag)):=by rw [←Array.getD_eq_getD_getElem?];exact e7
      have f10:a.tmps[10]?.getD undef= .bool (decide (c.tag≤3)):=by rw [←Array.getD_eq_getD_getElem?];exact e10
      have f13:a.tmps[13]?.getD undef= .bool (decide (1≤c.most)):=by rw [←Array.getD_eq_getD_getElem?];exact e13
      have f16:a.tmps[16]?.getD undef= .bool (decide (c.most≤16384)):=by rw [←Array.getD_eq_getD_getElem?];exact e16
      have f19:a.tmps[19]?.getD undef= .bool (powB c.seg 4 64):=by rw [←Array.getD_eq_getD_getElem?];exact e19
      have f24:a.tmps[24]?.getD undef= .bool (powB c.least c.seg 256):=by rw [←Array.getD_eq_getD_getElem?];exact e24
      have f27:a.tmps[27]?.getD undef= .bool (decide (1≤c.den)):=by rw [←Array.getD_eq_getD_getElem?];exact e27
      have f30:a.tmps[30]?.getD undef= .bool (decide (c.den≤64)):=by rw [←Array.getD_eq_getD_getElem?];exact e30
      have HK:=hid hK;have hz':=hJ.size;clear hK ev hd;go_simp;exact HK.out _ _ xzc (hJ.alloc hz' _) ⟨_,rfl,alloc_new _ _⟩ (Ext.below (br.alloc (Nat.le_refl _) _))
     case o27=>
      intro u a w' ev hJ hd K hK;obtain ⟨g,h1,h2⟩:(Fact.bools (T:=23) 4 xdd 8 (szL c)).holds (u 31) w':=hd 26 _ xk rfl;have e31:tg a 31= .slice (some ⟨g,0,none⟩) 8 8:=(ev 31 xdd).trans h1;have HK:=hid hK;have HC:=hid (all_ok (szL c) 8 g (by simp [szL]) w' (bools_heap h2));rw [hs,show (szL c).length=8 from rfl] at HC;clear hK ev hd h1 h2;go_simp;refine HC.out.mono ?_;rintro e w'' ⟨rfl,rfl⟩;exact HK.out _ _ xzc hJ rfl (Ext.refl _ _)
 case fin=>
  intro u w2 hJ hG;have h1:u 32= .bool s:=hG 27 _ rfl;have hz_w2:=hJ.size;replace c_t0:w2.cell? ⟨w.heap.size,0,none⟩=some (.int .u8 c.tag):=xjt hJ xlt xcn;replace c_t1:w2.cell? ⟨w.heap.size,1,none⟩=some (.int .i64 c.most):=xjt hJ xlt xcn;replace c_t2:w2.cell? ⟨w.heap.size,2,none⟩=some (.int .i64 c.seg):=xjt hJ xlt xcn;replace c_t3:w2.cell? ⟨w.heap.size,3,none⟩=some (.int .i64 c.least):=xjt hJ xlt xcn;replace c_t4:w2.cell? ⟨w.heap.size,4,none⟩=some (.int .i64 c.den):=xjt hJ xlt xcn;replace c_t5:w2.cell? ⟨w.heap.size,5,none⟩=some (.int .i64 c.ll):=xjt hJ xlt xcn;replace c_t6:w2.cell? ⟨w.heap.size,6,none⟩=some (.int .i64 c.rl):=xjt hJ xlt xcn;replace c_t7:w2.cell? ⟨w.heap.size,7,none⟩=some (.int .i64 c.rh):=xjt hJ xlt xcn;replace c_t8:w2.cell? ⟨w.heap.size,8,none⟩=some (.int .i64 c.lh):=xjt hJ xlt xcn;replace z_t:w.heap.size<w2.heap.size:=xo;have HB2:=hid (below_via hJ HS.out xo);have hz2:=hJ.size;clear hG hJ;simp only [mixFrame,mixL,dstsOf,List.take_succ_cons,List.take_zero,List.filterMap_cons,List.filterMap_nil,List.contains_cons,List.contains_nil,Nat.reduceBEq,Bool.or_false,Bool.false_or,Bool.or_true,Bool.true_or,if_true,if_false,Bool.false_eq_true,Nat.reduceAdd,Nat.zero_add,List.drop_succ_cons,List.drop_zero,h1];go_wp2_with fail
  refine (all_ok (ptL c) 5 w2.heap.size (by simp [ptL]) _ (bools_alloc w2 (ptL c) _)).mono ?_;rw [HP.out];rintro e w3 ⟨rfl,rfl⟩;have HB3:=hid (HB2.out.alloc (by omega:w.heap.size≤w2.heap.size) (.cells ((ptL c).map Value.bool).toArray 4));cases s with
  | false=>
   have hr50:r=50:=by rw [←HR.out];exact cfE_bad (by rw [HH.out];rfl)
   subst hr50;go_wp2
   go_ret
   exact ⟨rfl,HB3.out⟩
  | true=>
   cases p with
   | false=>
    have hr50:r=50:=by rw [←HR.out];exact cfE_bad (by rw [HH.out];rfl)
    subst hr50;go_wp2
    go_ret
    exact ⟨rfl,HB3.out⟩
   | true=>
    obtain ⟨d1,d2,d3,d4,d5,d6,d7,d8,d9⟩:=szp_num HSZ.out HP.out;have w1:IntKind.i64.wrap (2*c.rh)=2*c.rh:=IntWalk.i64_in _ xo;have w2':IntKind.i64.wrap (8*c.rl)=8*c.rl:=IntWalk.i64_in _ xo;have w3':IntKind.i64.wrap (2*c.den)=2*c.den:=IntWalk.i64_in _ xo;have w4':IntKind.i64.wrap (c.rl*c.least)=c.rl*c.least:=IntWalk.i64_in _ xo;go_wp2_with fail
    refine (all_ok (lsL c) 3 (w2.heap.size+1) (by simp [lsL]) _ ?_).mono ?_
    · have hb:=bools_alloc (w2.alloc (.cells ((ptL c).map Value.bool).toArray 4)) (lsL c) 4;rw [World.size_alloc] at hb;exact hb
    rw [HQ.out];rintro e w3 ⟨rfl,rfl⟩;have HB4:=hid (HB3.out.alloc (by simp;omega) (.cells ((lsL c).map Value.bool).toArray 4));clear HB3;cases q with
    | false=>
     have hr50:r=50:=by rw [←HR.out];exact cfE_bad (by rw [HH.out];rfl)
     subst hr50;go_wp2
     go_ret
     exact ⟨rfl,HB4.out⟩
    | true=>
     have hd:cfHead c=true:=HH.out;have hnum:=cfHead_num hd;have tb:=taks_bd hd (n:=c.most) xo xo;have TK:=hid (fun W=>takes_ok c hd c.most xo xo W);have HT:=hid (fun W=>height_ok c (taks c c.most) xo xo xo W);have hb:=htC_bd (c:=c) xo (size:=taks c c.most) xo xo;have m1:=mul_bd (show 0≤c.den by omega) d2 (show (0:Int)≤(htC c (taks c c.most):Nat) by omega) (show ((htC c (taks c c.most):Nat):Int)≤16 by omega);have m2:=mul_bd (show 0≤c.lh-c.rh by omega) (show c.lh-c.rh≤64 by omega) (show 0≤c.seg by omega) (show c.seg≤64 by omega);have he:r=if c.den*(htC c (taks c c.most):Nat)≤(c.lh-c.rh)*c.seg then 0 else 50:=by
      rw [←HR.out,cfE,cfMay,hd,Bool.true_and];simp
     have HE:=hid he;clear he hb tb hnum hd;generalize taks c c.most=T at *;generalize ((htC c T:Nat):Int)=HHt at *;have w5:IntKind.i64.wrap (c.den*HHt)=c.den*HHt:=IntWalk.i64_in _ xo;have w6:IntKind.i64.wrap ((c.lh-c.rh)*c.seg)=(c.lh-c.rh)*c.seg:=IntWalk.i64_in _ xo;have w7:IntKind.i64.wrap (c.lh-c.rh)=c.lh-c.rh:=IntWalk.i64_in _ xo;clear m1 m2;go_upto_region 5 with (fail)
     generalize hwy:(w2.alloc (.cells ((ptL c).map Value.bool).toArray 4)).alloc _=wy;replace c_t0:wy.cell? ⟨w.heap.size,0,none⟩=some (.int .u8 c.tag):=by rw [←hwy];(exact xcg)
     replace c_t1:wy.cell? ⟨w.heap.size,1,none⟩=some (.int .i64 c.most):=by rw [←hwy];(exact xcg)
     replace c_t2:wy.cell? ⟨w.heap.size,2,none⟩=some (.int .i64 c.seg):=by rw [←hwy];(exact xcg)
     replace c_t3:wy.cell? ⟨w.heap.size,3,none⟩=some (.int .i64 c.least):=by rw [←hwy];(exact xcg)
     replace c_t4:wy.cell? ⟨w.heap.size,4,none⟩=some (.int .i64 c.den):=by rw [←hwy];(exact xcg)
     replace c_t5:wy.cell? ⟨w.heap.size,5,none⟩=some (.int .i64 c.ll):=by rw [←hwy];(exact xcg)
     replace c_t6:wy.cell? ⟨w.heap.size,6,none⟩=some (.int .i64 c.rl):=by rw [←hwy];(exact xcg)
     replace c_t7:wy.cell? ⟨w.heap.size,7,none⟩=some (.int .i64 c.rh):=by rw [←hwy];(exact xcg)
     replace c_t8:wy.cell? ⟨w.heap.size,8,none⟩=some (.int .i64 c.lh):=by rw [←hwy];(exact xcg)
     replace z_t:w.heap.size<wy.heap.size:=by rw [←hwy];(exact xlt)
     have HB5:Hid (Below w.heap.size w wy):=by rw [←hwy];exact HB4
     clear hwy HB4;obtain ⟨X,hX⟩:∃X,c.den*HHt=X:=⟨_,rfl⟩
     obtain ⟨Y,hY⟩:∃Y,(c.lh-c.rh)*c.seg=Y:=⟨_,rfl⟩
     rw [hX] at w5 HE;rw [hY] at w6 HE;have K0:=hid (fun d os=>kr wy d os (TK.out _));have K1:=hid (fun d os=>kr wy d os (HT.out _));have q0:=cg c_t0;have q1:=cg c_t1;have q2:=cg c_t2;have q3:=cg c_t3;have q4:=cg c_t4;have q5:=cg c_t5;have q6:=cg c_t6;have q7:=cg c_t7;have q8:=cg c_t8;refine wp_region_quiet_below xk xk ?_;repeat (go_big_quiet_step (first|exact K0.out _ _|exact K1.out _ _))
     refine wpQuiet_nil ?_;intro _ hw';obtain ⟨⟨dq,osq⟩,hw''⟩:=hw';subst hw'';have hbq:=below_regrown wy dq osq;clear q0 q1 q2 q3 q4 q5 q6 q7 q8 K0 K1;have HB6:=xv hbq HB5;clear hbq HB5;generalize Sort.grow (redrawn wy dq) osq=wx at *;by_cases hc:X≤Y
     · have hr0:=HE.out;rw [if_pos hc] at hr0;subst hr0;go_wp2
       go_ret
       exact ⟨rfl,HB6.out⟩
     · have hr0:=HE.out;rw [if_neg hc] at hr0;subst hr0;go_wp2
       go_ret
       exact ⟨rfl,HB6.out⟩
end
end Go.Proofs.YtmnlagmmbfjbeaaDoor

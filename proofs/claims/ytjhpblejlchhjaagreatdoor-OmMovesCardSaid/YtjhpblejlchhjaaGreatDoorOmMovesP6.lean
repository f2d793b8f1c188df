/- Merged: WinW, QuietT, Ref02, Of04, May04, Seek, GapChk, GapCk, VebPlain, Flat, IdxPlain, VebPos, IdxTree, IdxTwin, IdxFns, IdxLeaf, HeapFirst, Tree18, VebRef, VebLaid, VebTab, IdxNodes, IdxRead, IdxAll, Ref10, Built18, SlFns, Ref05, Ref09, Ref09C, PmCk, Build18, BuildIx, RowEq, IdxSame, BuildIxs, Twin04, IdxFacts. -/
import Derived.Test.YtjhpblejlchhjaaGreatDoorOmMovesP3
import Derived.Test.YtjhpblejlchhjaaGreatDoorOmMovesP5
import Derived.Laws.BitsAllLaws
import Derived.Test.YtjhpblejlchhjaaGreatDoorOmMovesP1
import Derived.Lib.QuietBelow
import Derived.Test.YtjhpblejlchhjaaGreatDoorOmMovesP2
import Derived.Test.YtjhpblejlchhjaaGreatDoorOmMovesP4
namespace Go.Proofs.YtjhpblejlchhjaaGreatDoor
set_option maxRecDepth 100000
set_option maxHeartbeats 40000000
set_option linter.unusedVariables false
set_option linter.unusedSimpArgs false
section
open Go.RowKit
theorem nat_and_pow {n e:Nat} (hn:n<9223372036854775808) (he:e≤62):n &&& (18446744073709551615-(2^e-1))=n/2^e*2^e:=by
 have h:2^e<2^64:=Nat.pow_lt_pow_right xo xo;have hp:=Nat.two_pow_pos e;rw [show 18446744073709551615-(2^e-1)=2^64-((2^e-1)+1) by omega];apply Nat.eq_of_testBit_eq;intro i;rw [Nat.testBit_and,Nat.testBit_two_pow_sub_succ xo,Nat.testBit_two_pow_sub_one];have h2:=cutLo_bit (x:=(n:Int)) xo e i;have h3:cutLo (n:Int) e=((n/2^e*2^e:Nat):Int):=by rw [cutLo];push_cast;rfl
 rw [h3,bitI_nat,bitI_nat] at h2;rw [h2];by_cases hi:i<64
 · by_cases hie:i<e
   · have:¬e≤i:=xo;simp [hi,hie,this]
   · have:e≤i:=xo;simp [hi,hie,this]
 · have:n.testBit i=false:=by
     have:=bitI_high (x:=(n:Int)) xo (k:=i) xo;rwa [bitI_nat] at this
   simp [this]
theorem i64_andNot_pow {n e:Nat} (hn:n<9223372036854775808) (he:e≤62):bits .andNot .i64 (n:Int) ((2^e-1:Nat):Int)=((n/2^e*2^e:Nat):Int):=by
 have h:2^e<2^64:=Nat.pow_lt_pow_right xo xo;have hd:=Nat.div_mul_le_self n (2^e);show IntKind.i64.wrap ((BitVec.ofInt 64 (n:Int) &&& ~~~BitVec.ofInt 64 ((2^e-1:Nat):Int)).toNat:Int)=_;rw [BitVec.toNat_and,BitVec.toNat_not,ofInt_u64 n xo,ofInt_u64 (2^e-1) xo,show 2^64-1-(2^e-1)=18446744073709551615-(2^e-1) by omega,nat_and_pow hn he,IntWalk.i64_in _ xo]
structure WinC (seg size:Int) (a H:Nat):Prop where
 seg:seg=((2^a:Nat):Int)
 all:size=((2^a*2^H:Nat):Int)
 a2:2≤a
 a6:a≤6
 big:2^a*2^H≤65536
theorem WinC.nums {seg size:Int} {a H:Nat} (k:WinC seg size a H):4≤seg∧seg≤64∧seg≤size∧size≤65536∧pwB seg=true∧pwB size=true∧size/seg=((2^H:Nat):Int)∧H≤14∧2^H≤16384:=by
 obtain ⟨k1,k2,k3,k4,k5⟩:=k;have h4:2^2≤2^a:=Nat.pow_le_pow_right xo k3;have h6:2^a≤2^6:=Nat.pow_le_pow_right xo k4;have h7:2^a*1≤2^a*2^H:=Nat.mul_le_mul_left _ (Nat.two_pow_pos H);have h8:2^2*2^H≤2^a*2^H:=Nat.mul_le_mul_right _ h4;have hH:H≤14:=by
  rcases Nat.lt_or_ge 14 H with q|q
  · have:=Nat.pow_lt_pow_right (a:=2) xo q;omega
  · exact q
 refine ⟨by omega,by omega,by omega,by omega,by rw [k1];exact pwB_two a,by rw [k2,←Nat.pow_add];exact pwB_two _,?_,hH,by omega⟩;rw [k1,k2,Int.natCast_mul,Int.mul_ediv_cancel_left _ (by have:=Nat.two_pow_pos a;omega)]
theorem winHigh_ok (seg size:Int) (a H:Nat) (k:WinC seg size a H) (w:World):
    Calls Tryz.prog 168 #[.int .i64 seg,.int .i64 size] w fun e w'=>e= .returned (.tuple #[.int .i64 H,.int .i64 0])∧w=w':=by
 obtain ⟨n1,n2,n3,n4,n5,n6,n7,n8,n9⟩:=k.nums;have P1:=hid (fun w=>Power_ok seg xo w);have P2:=hid (fun w=>Power_ok size xo w);rw [n5] at P1;rw [n6] at P2;have hp:=Nat.two_pow_pos H;have DN:=hid (fun w=>Down_ok (2^H) (size/seg) n7 xo xo w);rw [Nat.log2_two_pow] at DN;have hq2:size.tdiv seg=size/seg:=Int.tdiv_eq_ediv_of_nonneg xo;have hs0:(seg==0)=false:=by simp;omega
 have hqb:size/seg≤65536:=xo;have hq0:0≤size/seg:=xo;generalize size/seg=q at *;have hwq:IntKind.i64.wrap q=q:=IntWalk.i64_in _ xo;clear k n5 n6 n7 hp;go_enter Tryz.func168,Tryz.ntmps168
 go_wp2_with (first
   | (go_at_call 166;first|(with_reducible refine (P1.out _).mono ?_;rintro e w' ⟨rfl,rfl⟩)|(with_reducible refine (P2.out _).mono ?_;rintro e w' ⟨rfl,rfl⟩))
   | (go_at_call 167;refine (DN.out _).mono ?_;rintro e w' ⟨rfl,rfl⟩))
 go_ret2
 exact ⟨rfl,rfl⟩
theorem wasked_ok (seg size:Int) (a H:Nat) (k:WinC seg size a H) (p:Option Addr) (ca m:Nat) (xs:List Int) (hm:xs.length=m) (hm2:m≤1000) (hx:∀i,i<m→0≤xs.getD i 0∧xs.getD i 0<size) (w:World) (hw:IsRow .i64 w p xs):
    Calls Tryz.prog 141 #[.int .i64 seg,.int .i64 size,.slice p m ca] w fun e w'=>e= .returned (.tuple #[.int .i64 H,.int .i64 0])∧w=w':=by
 have WH:=hid (fun w=>winHigh_ok seg size a H k w);have HW:=hid hw;have HX:=hid hx;have HM:=hid hm;clear k hw hx hm;go_enter Tryz.func141,Tryz.ntmps141
 go_wp2_with (go_at_call 168;refine (WH.out _).mono ?_;rintro e w' ⟨rfl,rfl⟩)
 go_loopg [23] m (fun gk iv wr=>∃i:Nat,i+gk=m∧iv= .int .i64 i∧wr=w)
 case atStart=>exact ⟨0,by omega,rfl,rfl⟩
 case round=>
  obtain ⟨i,hi,rfl,rfl⟩:=hrel;by_cases hlt:i<m
  · obtain ⟨b,off,x,rfl,hxx,hc,-⟩:=HW.out.get (i:=i) (by rw [HM.out];exact hlt);have hb:=HX.out i hlt;rw [hxx.out] at hb;obtain ⟨hb1,hb2⟩:=hb;clear hxx;go_wp2
    go_roundg (gk-1)
    case measure=>omega
    case rel=>exact ⟨i+1,by omega,by go_num,rfl⟩
  · go_wp2
    go_ret2
    exact ⟨rfl,rfl⟩
theorem two_at_b {w:World} {b:Nat} {x y:Value} (h0:w.cell? ⟨b,0,none⟩=some x) (h1:w.cell? ⟨b,1,none⟩=some y):∀j v,[x,y][j]? =some v→w.cell? ⟨b,j,none⟩=some v:=by
 intro j v hj;match j,hj with
 | 0,hj=>cases hj;exact h0
 | 1,hj=>cases hj;exact h1
theorem around_ok (W at_ f:Int) (hb:bits .andNot .i64 at_ (W-1)=f) (h0:1≤W) (h1:W≤65536) (h2:0≤f) (h3:f≤65536) (w:World):
    Calls Tryz.prog 142 #[.int .i64 W,.int .i64 at_] w (AnsB w (.agg #[.int .i64 f,.int .i64 (f+W)])):=by
 have w1:IntKind.i64.wrap (W-1)=W-1:=IntWalk.i64_in _ xo;have w2:IntKind.i64.wrap (f+W)=f+W:=IntWalk.i64_in _ xo;go_enter Tryz.func142,Tryz.ntmps142
 go_wp2
 refine bodyPost_ret (results_c rfl rfl (run_loadVar_many [.int .i64 f,.int .i64 (f+W)] Tryz.underlying122 rfl xk (two_at_b ?_ ?_))) rfl ⟨rfl,?_⟩
 · (exact xcn)
 · (exact xcn)
 · (exact xbel)
theorem info_w2:(Tryz.prog.info? 122).map (fun i=>(i.zero,i.size,i.bytes))=some (some (.agg #[.int .i64 0,.int .i64 0]),2,16):=by kernel_rfl
def rowL (W m:Nat):List (Int×Int):=(List.range m).map fun i=>(((i*W:Nat):Int),((i*W:Nat):Int)+W)
theorem rowL_length (W m:Nat):(rowL W m).length=m:=by simp [rowL]
theorem rowL_succ (W m:Nat):rowL W (m+1)=rowL W m++[(((m*W:Nat):Int),((m*W:Nat):Int)+W)]:=by
 simp [rowL,List.range_succ]
theorem rowL_get {W m i:Nat} (h:i<m):(rowL W m).getD i (0,0)=(((i*W:Nat):Int),((i*W:Nat):Int)+W):=by
 rw [List.getD_eq_getElem?_getD,rowL,List.getElem?_map,List.getElem?_range h];rfl
def FreshW2 (w:World) (l:List (Int×Int)) (x:Value) (e:Ending) (w':World):Prop:=
  ∃v,e= .returned (.tuple #[v,x])∧w'.ownsRow w.heap.size 122 2 v l.length ((prI l).map (Value.int .i64))∧Below w.heap.size w w'
theorem Row_ok (seg size:Int) (a H h:Nat) (k:WinC seg size a H) (hh:h≤H) (w:World):
    Calls Tryz.prog 90 #[.int .i64 seg,.int .i64 size,.int .i64 h] w (FreshW2 w (rowL (2^a*2^h) (2^(H-h))) (.int .i64 0)):=by
 obtain ⟨n1,n2,n3,n4,n5,n6,n7,n8,n9⟩:=k.nums;have AK:=hid (fun w=>wasked_ok seg size a H k none 0 0 [] rfl xo (fun i hi=>by omega) w (fun i hi=>by simp at hi));have hWW:2^a*2^h=2^(a+h):=(Nat.pow_add ..).symm;have hall:size=((2^(a+h)*2^(H-h):Nat):Int):=by rw [k.all,Nat.pow_add,Nat.mul_assoc,←Nat.pow_add 2 h (H-h),Nat.add_sub_cancel' hh]
 have hshl:seg*2^h=((2^(a+h):Nat):Int):=by rw [k.seg,Nat.pow_add];push_cast;rfl
 have hah:a+h≤62:=by have:=k.a6;omega
 have AR:=hid (fun (i:Nat) (hi:i*2^(a+h)<65536) w=>(around_ok ((2^(a+h):Nat):Int) ((i*2^(a+h):Nat):Int) ((i*2^(a+h):Nat):Int) (by
     have:=i64_andNot_pow (n:=i*2^(a+h)) (e:=a+h) xo hah;rw [Nat.mul_div_cancel _ (Nat.two_pow_pos _)] at this;rw [←this];congr 1
     have:=Nat.two_pow_pos (a+h);omega) (by have:=Nat.two_pow_pos (a+h);omega) (by
     have:2^(a+h)*1≤2^(a+h)*2^(H-h):=Nat.mul_le_mul_left _ (Nat.two_pow_pos _);omega) xo xo w))
 rw [hWW];have hW0:=Nat.two_pow_pos (a+h);have hm0:=Nat.two_pow_pos (H-h);generalize 2^(a+h)=W at *;generalize 2^(H-h)=m at *;have hWb:W≤65536:=by
  have:W*1≤W*m:=Nat.mul_le_mul_left _ hm0;omega
 have hmb:m≤65536:=by
  have:1*m≤W*m:=Nat.mul_le_mul_right _ hW0;omega
 have hwr:IntKind.i64.wrap (seg*2^h)=(W:Int):=by rw [hshl];exact IntWalk.i64_in _ xo
 have hzb:((W*m:Nat):Int)≤65536:=xo;have HALL:=hid hall;have hHh:decide (H<h)=false:=by simp;omega
 clear k hWW hshl n5 n6 n7 hall;go_enter Tryz.func90,Tryz.ntmps90
 go_wp2_with (go_at_call 141;refine (AK.out _).mono ?_;rintro e w' ⟨rfl,rfl⟩)
 go_loopg [6,9] m (fun gk v iv wr=>∃i:Nat,i+gk=m∧iv= .int .i64 ((i*W:Nat):Int)∧Hid (wr.ownsRow w.heap.size 122 2 v i ((prI (rowL W i)).map (Value.int .i64)))∧Hid (Below w.heap.size w wr)∧w.heap.size≤wr.heap.size)
 case atStart=>exact ⟨0,by omega,by simp,hid (World.ownsRow_nil _ _ _ _),hid br,Nat.le_refl _⟩
 case round=>
  obtain ⟨i,hi,rfl,HO,HB,hz⟩:=hrel;obtain ⟨ao,co,rfl,-⟩:=owns_news HO.out;by_cases hlt:i<m
  · have hiw:(i+1)*W≤W*m:=by rw [Nat.mul_comm W];exact Nat.mul_le_mul_right _ hlt
    have hs:=rowL_succ W i;have hl1:(prI (rowL W i)).length=i*2:=by rw [prI_length,rowL_length]
    rw [Nat.succ_mul] at hiw;have A1:=hid (fun w=>AR.out i xo w);have HSU:=hid hs;have HAL:=HALL.out;have hgo:decide (((i*W:Nat):Int)<size)=true:=by simp;rw [HAL];omega
    have hnx:IntKind.i64.wrap (((i*W:Nat):Int)+W)=(((i+1)*W:Nat):Int):=by rw [Nat.succ_mul];push_cast;exact IntWalk.i64_in _ (by push_cast at hiw;omega)
    clear hs AR HAL;obtain ⟨f,hf⟩:∃f:Int,((i*W:Nat):Int)=f:=⟨_,rfl⟩
    rw [hf] at A1 HSU hgo hnx ⊢;clear hf hiw;go_wp2_with fail
    refine (A1.out _).mono ?_;rintro e w1 ⟨rfl,hb1⟩;have hz1:=hb1.size;have HB1:=xv hb1 HB;have HO1:=hid (owns_below HO.out hb1);clear hb1
    go_wp2_with (at_builtin;refine wpl_append (.tmp 34) (.tmp 40) 117 122 (.agg #[.int .i64 0,.int .i64 0]) 2 16 Tryz.underlying117 info_w2 rfl xdd xdd w.heap.size _ i _ (some ⟨w1.heap.size,0,none⟩) 1 1 [.int .i64 f,.int .i64 (f+W)] (HO1.out.alloc _) rfl xzc (new_cells _ [.int .i64 f,.int .i64 (f+W)] _ _ rfl) (by simp [Value.oneCell']) xo (by simp;omega) rfl rfl rfl rfl ?_;intro v2 w2 ho2 hg2 _
                 obtain ⟨a2,c2,rfl,-⟩:=owns_news ho2;have HO2:=hid ho2;have HG2:=hid hg2;clear ho2 hg2)
    have HB2:=hid ((HB1.out.alloc (by have:=HB1.out.size;omega) (.cells #[.int .i64 f,.int .i64 (f+W)] 122)).grown HG2.out (by simp;omega) (fun z hz=>by have:=(HO1.out.lt z hz).1;omega));have hz2:=HB2.out.size;go_roundg (gk-1)
    case measure=>omega
    case rel=>
     refine ⟨i+1,by omega,by first|rw [hnx]|rfl,hid ?_,HB2,hz2⟩;rw [HSU.out,prI_append,List.map_append];exact HO2.out
  · have him:m=i:=xo;subst him;have hgo:decide (((m*W:Nat):Int)<size)=false:=by simp;rw [HALL.out,Nat.mul_comm];omega
    clear AR;obtain ⟨f,hf⟩:∃f:Int,((m*W:Nat):Int)=f:=⟨_,rfl⟩
    rw [hf] at hgo ⊢;clear hf;go_wp2
    go_ret2
    refine ⟨_,rfl,?_,HB.out⟩;rw [rowL_length];exact HO.out
end
section
open Go.RowKit Go.Sort
end
section
open Go.RowKit
end
section
open Go.RowKit Go.Shelf
attribute [local go_sem] Oper.semAt_some
def Fact.laid {T:TypeId} (base:Nat) (t:TypeId) (he:t≠T) (vs:Array Value):Fact T:=
  ⟨fun v w=>∃b,v= .slice (some ⟨b,0,none⟩) 1 1∧base≤b∧w.heap[b]? =some (.cells vs t),fun _ _ _ h ⟨b,e,hb,hh⟩=>⟨b,e,hb,h.same _ _ hh (fun cs fr e=>by cases e;exact he rfl)⟩⟩
theorem plsW_getD {ws:List Int} {a b k:Nat} (h:k<(plsW ws a b).length):a≤(plsW ws a b).getD k 0∧(plsW ws a b).getD k 0<b:=by
 rw [List.getD_eq_getElem?_getD,List.getElem?_eq_getElem h];exact plsW_mem (List.getElem_mem h)
end
section
open Go.RowKit
def Fact.len {T:TypeId} (n:Nat):Fact T:=⟨fun v _=>∃a c,v= .slice a n c,fun _ _ _ _ h=>h⟩
end
section
open Go.RowKit
theorem pr_get {l:List (Int×Int)} {W:World} {a:Option Addr} (h:IsRow .i64 W a (prI l)) {i:Nat} (hi:i<l.length):
    ∃b off,a=some ⟨b,off,none⟩∧W.cell? ⟨b,off+i*2,none⟩=some (.int .i64 (l.getD i (0,0)).1)∧W.cell? ⟨b,off+i*2+1,none⟩=some (.int .i64 (l.getD i (0,0)).2)∧b<W.heap.size:=by
 obtain ⟨g1,g2⟩:=prI_get hi;obtain ⟨b,off,x,y,e,hx,hy,c1,c2,hb⟩:=h.get2 (i:=i) (by rw [prI_length];omega);rw [←hx.out,g1] at c1;rw [←hy.out,g2] at c2;exact ⟨b,off,e,c1,c2,hb⟩
end
section
open Go.RowKit Go.Shelf Go.Sort
theorem among_core (w:World) (seg:Int) (wa ka va:Option Addr) (wc kc vc cc lw n lv lc:Nat) (laid:Int) (cb co:Nat) (cs:List Int) (A B:Int) (S lo hi:Nat) (hseg:seg=S) (hS:4≤S) (hS2:S≤64) (hA:A=((lo*S:Nat):Int)) (hB:B=((hi*S:Nat):Int)) (h1:lo≤hi) (h2:hi≤lc) (h3:lo<lc) (hcc:lc≤cc) (hlc:lc≤65536) (hlen:cs.length=lc) (hcs:CntB cs S) (hcn:IsRow .i64 w (some ⟨cb,co,none⟩) cs):
    Calls Tryz.prog 68 #[.agg #[.int .i64 seg,.slice wa lw wc,.slice ka n kc,.slice va lv vc,.slice (some ⟨cb,co,none⟩) lc cc,.int .u64 laid],.int .i64 A,.int .i64 B] w (AnsB w (.int .i64 (sumC cs lo hi))):=by
 have tA:A.tdiv seg=lo:=by
  rw [hA,hseg,Int.tdiv_eq_ediv_of_nonneg xo,←Int.natCast_ediv,Nat.mul_div_cancel _ xo]
 have tB:B.tdiv seg=hi:=by
  rw [hB,hseg,Int.tdiv_eq_ediv_of_nonneg xo,←Int.natCast_ediv,Nat.mul_div_cancel _ xo]
 have hs0:(seg==0)=false:=by simp;omega
 have hs1:¬seg=0:=xo;have wlo:IntKind.i64.wrap (lo:Int)=lo:=IntWalk.i64_in _ xo;have whi:IntKind.i64.wrap (hi:Int)=hi:=IntWalk.i64_in _ xo;have hne:¬cc=lo:=xo;have HN:=hid (hcn.below (br.alloc (Nat.le_refl _) (.cells #[.int .i64 seg,.slice wa lw wc,.slice ka n kc,.slice va lv vc,.slice (some ⟨cb,co,none⟩) lc cc,.int .u64 laid] 29)));have HL:=hid hlen;have HC:=hid hcs;have HSS:=hid (And.intro hS hS2);clear hA hB hseg hcn hlen hcs hS hS2;go_enter Tryz.func68,Tryz.ntmps68
 go_upto_region 1 with (fail)
 generalize hwz:w.alloc _=wz;have hh:=ec6 hwz (al6 (b:=w.heap.size) xsi);obtain ⟨c_t0,c_t1,c_t2,c_t3,c_t4,c_t5⟩:=hh;have z_t:=elt hwz (alz (b:=w.heap.size) xsi);have HS:Hid (Below w.heap.size w wz):=by rw [←hwz];exact hid (br.alloc (Nat.le_refl _) _)
 rw [hwz] at HN;clear hwz;have q0:=cg c_t0;have q1:=cg c_t1;have q2:=cg c_t2;have q3:=cg c_t3;have q4:=cg c_t4;have q5:=cg c_t5;refine wp_region_quiet_below xk xk ?_;repeat (go_big_quiet_step (fail))
 refine wpQuiet_nil ?_;intro _ hw';obtain ⟨⟨dq,osq⟩,hw''⟩:=hw';subst hw'';have hbq:=below_regrown wz dq osq;clear q0 q1 q2 q3 q4 q5;generalize Sort.grow (redrawn wz dq) osq=wx at *;have HB2:=xv hbq HS;have HN2:=hid (HN.out.below hbq);obtain ⟨m,hm⟩:∃m,hi-lo=m:=⟨_,rfl⟩
 go_wp2
 go_loopg [6,8,21] m (fun gk sv x iv wr=>∃i:Nat,i+gk=m∧iv= .int .i64 i∧sv= .int .i64 (sumC cs lo (lo+i))∧wx=wr)
 case atStart=>exact ⟨0,by omega,rfl,by rw [Nat.add_zero,sumC_nil],rfl⟩
 case round=>
  obtain ⟨i,hi2,rfl,rfl,rfl⟩:=hrel;by_cases hlt:i<m
  · obtain ⟨b,off,x,hbe,hxx,hc,-⟩:=HN2.out.get (i:=lo+i) (by rw [HL.out];omega);cases hbe;have hc':wx.cell? ⟨cb,co+lo+i,none⟩=some (.int .i64 x):=by rw [Nat.add_assoc];exact hc
    have hsb:=sumC_bd HC.out lo i;have hx2:=HC.out (lo+i);have hsu:=sumC_succ cs (a:=lo) (b:=lo+i) xo;rw [hxx.out] at hsu hx2;have hsn:S*i≤64*65536:=Nat.mul_le_mul HSS.out.2 xo;have hS64:=HSS.out.2;generalize sumC cs lo (lo+i)=s0 at *;have hw1:IntKind.i64.wrap (s0+x)=s0+x:=IntWalk.i64_in _ xo;have HSU:=hid hsu;clear hc hxx hsu hx2 hsb;go_wp2
    go_roundg (gk-1)
    case measure=>omega
    case rel=>exact ⟨i+1,by omega,by go_num,by rw [←Nat.add_assoc,HSU.out],rfl⟩
  · have him:i=m:=xo;subst him;have e:sumC cs lo (lo+i)=sumC cs lo hi:=by congr 1;omega
    rw [e];clear e;go_wp2
    go_ret
    exact ⟨rfl,HB2.out⟩
theorem gapE_bad {c:Cfg} {s:SlC} (hc:cfMay c=true) (h:gapHead c s=false):gapE c s=8:=by simp [gapE,hc,gapMay,h]
theorem gapCheck_conf (c:Cfg) (hc:cfMay c=false) (seg:Int) (wa ka va ca:Option Addr) (wc kc vc cc lw n lv lc:Nat) (laid:Int) (w:World):
    Calls Tryz.prog 51 #[.agg #[.int .u8 c.tag,.int .i64 c.most,.int .i64 c.seg,.int .i64 c.least,.int .i64 c.den,.int .i64 c.ll,.int .i64 c.rl,.int .i64 c.rh,.int .i64 c.lh],.agg #[.int .i64 seg,.slice wa lw wc,.slice ka n kc,.slice va lv vc,.slice ca lc cc,.int .u64 laid]] w (AnsB w (.int .i64 50)):=by
 have CK:=hid (fun W=>Check5_ok c W);rw [show cfE c=50 by simp [cfE,hc]] at CK;clear hc;go_enter Tryz.func51,Tryz.ntmps51
 go_wp2_with fail
 refine (CK.out _).mono ?_;rintro e w1 ⟨rfl,hb1⟩;have hz_w1:=hb1.size;try simp only [World.size_alloc,World.size_setCell] at hz_w1
 have hh:=bc9 hb1 (au9 (al9 (b:=w.heap.size) xsi));obtain ⟨c_t0,c_t1,c_t2,c_t3,c_t4,c_t5,c_t6,c_t7,c_t8⟩:=hh;have z_t:=blt hb1 (auz (alz (b:=w.heap.size) xsi));have hh:=bc6 hb1 (al6 (b:=w.heap.size+1) xsi);obtain ⟨c_s0,c_s1,c_s2,c_s3,c_s4,c_s5⟩:=hh;have z_s:=blt hb1 (alz (b:=w.heap.size+1) xsi);have hB1:Below w.heap.size w w1:=xbel;go_wp2
 go_ret
 exact ⟨rfl,hB1⟩
theorem gapCheck_high (c:Cfg) (hc:cfMay c=true) (seg:Int) (wa ka va ca:Option Addr) (wc kc vc cc lw n lv lc:Nat) (laid:Int) (hp:powB n c.least (taks c c.most)=false) (w:World):
    Calls Tryz.prog 51 #[.agg #[.int .u8 c.tag,.int .i64 c.most,.int .i64 c.seg,.int .i64 c.least,.int .i64 c.den,.int .i64 c.ll,.int .i64 c.rl,.int .i64 c.rh,.int .i64 c.lh],.agg #[.int .i64 seg,.slice wa lw wc,.slice ka n kc,.slice va lv vc,.slice ca lc cc,.int .u64 laid]] w (AnsB w (.int .i64 8)):=by
 have CK:=hid (fun W=>Check5_ok c W);rw [cfE_ok hc] at CK;have HI:=hid (fun W=>High_no c hc n hp W);clear hc hp;go_enter Tryz.func51,Tryz.ntmps51
 go_wp2_with fail
 refine (CK.out _).mono ?_;rintro e w1 ⟨rfl,hb1⟩;have hz_w1:=hb1.size;try simp only [World.size_alloc,World.size_setCell] at hz_w1
 have hh:=bc9 hb1 (au9 (al9 (b:=w.heap.size) xsi));obtain ⟨c_t0,c_t1,c_t2,c_t3,c_t4,c_t5,c_t6,c_t7,c_t8⟩:=hh;have z_t:=blt hb1 (auz (alz (b:=w.heap.size) xsi));have hh:=bc6 hb1 (al6 (b:=w.heap.size+1) xsi);obtain ⟨c_s0,c_s1,c_s2,c_s3,c_s4,c_s5⟩:=hh;have z_s:=blt hb1 (alz (b:=w.heap.size+1) xsi);have hB1:Below w.heap.size w w1:=xbel;have HB1:=hid hB1;clear hb1 hB1;go_wp2_with fail
 refine (HI.out _).mono ?_;rintro e w2 ⟨rfl,hb2⟩;have hz_w2:=hb2.size;simp (disch:=omega) only [xcl hb2] at *;replace z_t:=blt hb2 z_t;replace z_s:=blt hb2 z_s;have HB2:=xv hb2 HB1;clear hb2;go_upto_region 6 with (fail)
 have q0:=cg c_t0;have q1:=cg c_t1;have q2:=cg c_t2;have q3:=cg c_t3;have q4:=cg c_t4;have q5:=cg c_t5;have q6:=cg c_t6;have q7:=cg c_t7;have q8:=cg c_t8;have q9:=cg c_s0;have q10:=cg c_s1;have q11:=cg c_s2;have q12:=cg c_s3;have q13:=cg c_s4;have q14:=cg c_s5;refine wp_region_quiet_below xk xk ?_;repeat (go_big_quiet_step (fail))
 refine wpQuiet_nil ?_;intro _ hw';obtain ⟨⟨dq,osq⟩,hw''⟩:=hw';subst hw'';have hbq:=below_regrown w2 dq osq;clear q0 q1 q2 q3 q4 q5 q6 q7 q8 q9 q10 q11 q12 q13 q14;generalize Sort.grow (redrawn w2 dq) osq=wx at *;have HB3:=xv hbq HB2;go_wp2
 go_ret
 exact ⟨rfl,HB3.out⟩
theorem gapCheck_slots (c:Cfg) (hc:cfMay c=true) (seg:Int) (wa ka va ca:Option Addr) (wc kc vc cc lw n lv lc:Nat) (laid:Int) (hp:powB n c.least (taks c c.most)=true) (x:Int) (hx:x≠0) (w:World)
    (SK:Hid (∀W,Below w.heap.size w W→Calls Tryz.prog 89 #[.agg #[.int .i64 seg,.slice wa lw wc,.slice ka n kc,.slice va lv vc,.slice ca lc cc,.int .u64 laid]] W (AnsB W (.int .i64 x)))):
    Calls Tryz.prog 51 #[.agg #[.int .u8 c.tag,.int .i64 c.most,.int .i64 c.seg,.int .i64 c.least,.int .i64 c.den,.int .i64 c.ll,.int .i64 c.rl,.int .i64 c.rh,.int .i64 c.lh],.agg #[.int .i64 seg,.slice wa lw wc,.slice ka n kc,.slice va lv vc,.slice ca lc cc,.int .u64 laid]] w (AnsB w (.int .i64 8)):=by
 have CK:=hid (fun W=>Check5_ok c W);rw [cfE_ok hc] at CK;have HI:=hid (fun W=>High_in c hc n hp W);generalize ((htC c n:Nat):Int)=HH at *;have gx:(x != 0)=true:=by simpa using hx
 clear hc hp hx;go_enter Tryz.func51,Tryz.ntmps51
 go_wp2_with fail
 refine (CK.out _).mono ?_;rintro e w1 ⟨rfl,hb1⟩;have hz_w1:=hb1.size;try simp only [World.size_alloc,World.size_setCell] at hz_w1
 have hh:=bc9 hb1 (au9 (al9 (b:=w.heap.size) xsi));obtain ⟨c_t0,c_t1,c_t2,c_t3,c_t4,c_t5,c_t6,c_t7,c_t8⟩:=hh;have z_t:=blt hb1 (auz (alz (b:=w.heap.size) xsi));have hh:=bc6 hb1 (al6 (b:=w.heap.size+1) xsi);obtain ⟨c_s0,c_s1,c_s2,c_s3,c_s4,c_s5⟩:=hh;have z_s:=blt hb1 (alz (b:=w.heap.size+1) xsi);have hB1:Below w.heap.size w w1:=xbel;have HB1:=hid hB1;clear hb1 hB1;go_wp2_with fail
 refine (HI.out _).mono ?_;rintro e w2 ⟨rfl,hb2⟩;have hz_w2:=hb2.size;simp (disch:=omega) only [xcl hb2] at *;replace z_t:=blt hb2 z_t;replace z_s:=blt hb2 z_s;have HB2:=xv hb2 HB1;clear hb2;go_upto_region 6 with (fail)
 have K0:=hid (fun d os=>kr w2 d os (SK.out _ (below_via (below_regrown _ _ _) HB2.out HB2.out.size)));have q0:=cg c_t0;have q1:=cg c_t1;have q2:=cg c_t2;have q3:=cg c_t3;have q4:=cg c_t4;have q5:=cg c_t5;have q6:=cg c_t6;have q7:=cg c_t7;have q8:=cg c_t8;have q9:=cg c_s0;have q10:=cg c_s1;have q11:=cg c_s2;have q12:=cg c_s3;have q13:=cg c_s4;have q14:=cg c_s5;refine wp_region_quiet_below xk xk ?_;repeat (go_big_quiet_step (first|with_reducible exact K0.out _ _|exact K0.out _ _))
 refine wpQuiet_nil ?_;intro _ hw';obtain ⟨⟨dq,osq⟩,hw''⟩:=hw';subst hw'';have hbq:=below_regrown w2 dq osq;clear q0 q1 q2 q3 q4 q5 q6 q7 q8 q9 q10 q11 q12 q13 q14 K0;generalize Sort.grow (redrawn w2 dq) osq=wx at *;have HB3:=xv hbq HB2;go_wp2
 go_ret
 exact ⟨rfl,HB3.out⟩
theorem gapCheck_seg (c:Cfg) (hc:cfMay c=true) (seg:Int) (wa ka va ca:Option Addr) (wc kc vc cc lw n lv lc:Nat) (laid:Int) (hp:powB n c.least (taks c c.most)=true) (hs:seg≠c.seg) (w:World)
    (SK:Hid (∀W,Below w.heap.size w W→Calls Tryz.prog 89 #[.agg #[.int .i64 seg,.slice wa lw wc,.slice ka n kc,.slice va lv vc,.slice ca lc cc,.int .u64 laid]] W (AnsB W (.int .i64 0)))):
    Calls Tryz.prog 51 #[.agg #[.int .u8 c.tag,.int .i64 c.most,.int .i64 c.seg,.int .i64 c.least,.int .i64 c.den,.int .i64 c.ll,.int .i64 c.rl,.int .i64 c.rh,.int .i64 c.lh],.agg #[.int .i64 seg,.slice wa lw wc,.slice ka n kc,.slice va lv vc,.slice ca lc cc,.int .u64 laid]] w (AnsB w (.int .i64 8)):=by
 have CK:=hid (fun W=>Check5_ok c W);rw [cfE_ok hc] at CK;have HI:=hid (fun W=>High_in c hc n hp W);generalize ((htC c n:Nat):Int)=HH at *;have gs:(seg != c.seg)=true:=by simpa using hs
 clear hc hp hs;go_enter Tryz.func51,Tryz.ntmps51
 go_wp2_with fail
 refine (CK.out _).mono ?_;rintro e w1 ⟨rfl,hb1⟩;have hz_w1:=hb1.size;try simp only [World.size_alloc,World.size_setCell] at hz_w1
 have hh:=bc9 hb1 (au9 (al9 (b:=w.heap.size) xsi));obtain ⟨c_t0,c_t1,c_t2,c_t3,c_t4,c_t5,c_t6,c_t7,c_t8⟩:=hh;have z_t:=blt hb1 (auz (alz (b:=w.heap.size) xsi));have hh:=bc6 hb1 (al6 (b:=w.heap.size+1) xsi);obtain ⟨c_s0,c_s1,c_s2,c_s3,c_s4,c_s5⟩:=hh;have z_s:=blt hb1 (alz (b:=w.heap.size+1) xsi);have hB1:Below w.heap.size w w1:=xbel;have HB1:=hid hB1;clear hb1 hB1;go_wp2_with fail
 refine (HI.out _).mono ?_;rintro e w2 ⟨rfl,hb2⟩;have hz_w2:=hb2.size;simp (disch:=omega) only [xcl hb2] at *;replace z_t:=blt hb2 z_t;replace z_s:=blt hb2 z_s;have HB2:=xv hb2 HB1;clear hb2;go_upto_region 6 with (fail)
 have K0:=hid (fun d os=>kr w2 d os (SK.out _ (below_via (below_regrown _ _ _) HB2.out HB2.out.size)));have q0:=cg c_t0;have q1:=cg c_t1;have q2:=cg c_t2;have q3:=cg c_t3;have q4:=cg c_t4;have q5:=cg c_t5;have q6:=cg c_t6;have q7:=cg c_t7;have q8:=cg c_t8;have q9:=cg c_s0;have q10:=cg c_s1;have q11:=cg c_s2;have q12:=cg c_s3;have q13:=cg c_s4;have q14:=cg c_s5;refine wp_region_quiet_below xk xk ?_;repeat (go_big_quiet_step (first|with_reducible exact K0.out _ _|exact K0.out _ _))
 refine wpQuiet_nil ?_;intro _ hw';obtain ⟨⟨dq,osq⟩,hw''⟩:=hw';subst hw'';have hbq:=below_regrown w2 dq osq;clear q0 q1 q2 q3 q4 q5 q6 q7 q8 q9 q10 q11 q12 q13 q14 K0;generalize Sort.grow (redrawn w2 dq) osq=wx at *;have HB3:=xv hbq HB2;go_wp2
 go_ret
 exact ⟨rfl,HB3.out⟩
theorem gapCheck_many (c:Cfg) (hc:cfMay c=true) (seg:Int) (wa ka va ca:Option Addr) (wc kc vc cc lw n lv lc:Nat) (laid:Int) (hp:powB n c.least (taks c c.most)=true) (hs:seg=c.seg) (many:Int) (hm:c.most<many) (w:World)
    (SK:Hid (∀W,Below w.heap.size w W→Calls Tryz.prog 89 #[.agg #[.int .i64 seg,.slice wa lw wc,.slice ka n kc,.slice va lv vc,.slice ca lc cc,.int .u64 laid]] W (AnsB W (.int .i64 0))))
    (AM:Hid (∀W,Below w.heap.size w W→Calls Tryz.prog 68 #[.agg #[.int .i64 seg,.slice wa lw wc,.slice ka n kc,.slice va lv vc,.slice ca lc cc,.int .u64 laid],.int .i64 0,.int .i64 n] W (AnsB W (.int .i64 many)))):
    Calls Tryz.prog 51 #[.agg #[.int .u8 c.tag,.int .i64 c.most,.int .i64 c.seg,.int .i64 c.least,.int .i64 c.den,.int .i64 c.ll,.int .i64 c.rl,.int .i64 c.rh,.int .i64 c.lh],.agg #[.int .i64 seg,.slice wa lw wc,.slice ka n kc,.slice va lv vc,.slice ca lc cc,.int .u64 laid]] w (AnsB w (.int .i64 8)):=by
 have CK:=hid (fun W=>Check5_ok c W);rw [cfE_ok hc] at CK;have HI:=hid (fun W=>High_in c hc n hp W);generalize ((htC c n:Nat):Int)=HH at *;have gs:(seg != c.seg)=false:=by simpa using hs
 have gm:decide (c.most<many)=true:=by simpa using hm
 clear hc hp hs;go_enter Tryz.func51,Tryz.ntmps51
 go_wp2_with fail
 refine (CK.out _).mono ?_;rintro e w1 ⟨rfl,hb1⟩;have hz_w1:=hb1.size;try simp only [World.size_alloc,World.size_setCell] at hz_w1
 have hh:=bc9 hb1 (au9 (al9 (b:=w.heap.size) xsi));obtain ⟨c_t0,c_t1,c_t2,c_t3,c_t4,c_t5,c_t6,c_t7,c_t8⟩:=hh;have z_t:=blt hb1 (auz (alz (b:=w.heap.size) xsi));have hh:=bc6 hb1 (al6 (b:=w.heap.size+1) xsi);obtain ⟨c_s0,c_s1,c_s2,c_s3,c_s4,c_s5⟩:=hh;have z_s:=blt hb1 (alz (b:=w.heap.size+1) xsi);have hB1:Below w.heap.size w w1:=xbel;have HB1:=hid hB1;clear hb1 hB1;go_wp2_with fail
 refine (HI.out _).mono ?_;rintro e w2 ⟨rfl,hb2⟩;have hz_w2:=hb2.size;simp (disch:=omega) only [xcl hb2] at *;replace z_t:=blt hb2 z_t;replace z_s:=blt hb2 z_s;have HB2:=xv hb2 HB1;clear hb2;go_upto_region 6 with (fail)
 have K0:=hid (fun d os=>kr w2 d os (SK.out _ (below_via (below_regrown _ _ _) HB2.out HB2.out.size)));have K1:=hid (fun d os=>kr w2 d os (AM.out _ (below_via (below_regrown _ _ _) HB2.out HB2.out.size)));have q0:=cg c_t0;have q1:=cg c_t1;have q2:=cg c_t2;have q3:=cg c_t3;have q4:=cg c_t4;have q5:=cg c_t5;have q6:=cg c_t6;have q7:=cg c_t7;have q8:=cg c_t8;have q9:=cg c_s0;have q10:=cg c_s1;have q11:=cg c_s2;have q12:=cg c_s3;have q13:=cg c_s4;have q14:=cg c_s5;refine wp_region_quiet_below xk xk ?_;repeat (go_big_quiet_step (first|with_reducible exact K0.out _ _|with_reducible exact K1.out _ _|exact K0.out _ _|exact K1.out _ _))
 refine wpQuiet_nil ?_;intro _ hw';obtain ⟨⟨dq,osq⟩,hw''⟩:=hw';subst hw'';have hbq:=below_regrown w2 dq osq;clear q0 q1 q2 q3 q4 q5 q6 q7 q8 q9 q10 q11 q12 q13 q14 K0 K1;generalize Sort.grow (redrawn w2 dq) osq=wx at *;have HB3:=xv hbq HB2;go_wp2
 go_ret
 exact ⟨rfl,HB3.out⟩
theorem win_wd (i k:Nat):(i+1)*k-i*k=k:=by rw [Nat.succ_mul,Nat.add_sub_cancel_left]
theorem winB_bad {c:Cfg} {s:SlC} {H h i:Nat} (hh:h<H+1) (hi:i<s.cs.length/2^h) (hb:winB c s H h i=false):denB c s H=false:=by
 apply Bool.eq_false_iff.2;intro hd;have h1:=List.all_eq_true.1 hd h (List.mem_range.2 hh);have h2:=List.all_eq_true.1 h1 i (List.mem_range.2 hi);rw [hb] at h2;cases h2
theorem gapCheck_core (c:Cfg) (s:SlC) (seg:Int) (wa ka va ca:Option Addr) (wc kc vc cc lw n lv lc:Nat) (laid:Int) (a H:Nat) (k:CapC c n a H) (hs:seg=c.seg) (hlc:s.cs.length=2^H) (hnk:s.ks.length=n) (hcb:CntB s.cs (2^a)) (many:Int) (hm:many≤c.most) (z:Int) (hz:(if denB c s H=true then 0 else 8)=z) (w:World)
    (SK:Hid (∀W,Below w.heap.size w W→Calls Tryz.prog 89 #[.agg #[.int .i64 seg,.slice wa lw wc,.slice ka n kc,.slice va lv vc,.slice ca lc cc,.int .u64 laid]] W (AnsB W (.int .i64 0))))
    (AM:Hid (∀W,Below w.heap.size w W→Calls Tryz.prog 68 #[.agg #[.int .i64 seg,.slice wa lw wc,.slice ka n kc,.slice va lv vc,.slice ca lc cc,.int .u64 laid],.int .i64 0,.int .i64 n] W (AnsB W (.int .i64 many))))
    (AW:Hid (∀h i,h≤H→i<2^(H-h)→∀W,Below w.heap.size w W→Calls Tryz.prog 68 #[.agg #[.int .i64 seg,.slice wa lw wc,.slice ka n kc,.slice va lv vc,.slice ca lc cc,.int .u64 laid],.int .i64 ((i*(2^a*2^h):Nat):Int),.int .i64 (((i*(2^a*2^h):Nat):Int)+((2^a*2^h:Nat):Int))] W (AnsB W (.int .i64 (sumC s.cs (i*2^h) ((i+1)*2^h)))))):
    Calls Tryz.prog 51 #[.agg #[.int .u8 c.tag,.int .i64 c.most,.int .i64 c.seg,.int .i64 c.least,.int .i64 c.den,.int .i64 c.ll,.int .i64 c.rl,.int .i64 c.rh,.int .i64 c.lh],.agg #[.int .i64 seg,.slice wa lw wc,.slice ka n kc,.slice va lv vc,.slice ca lc cc,.int .u64 laid]] w (AnsB w (.int .i64 z)):=by
 have CK:=hid (fun W=>Check5_ok c W);rw [cfE_ok k.may] at CK;have HI:=hid (fun W=>High_in c k.may n k.cap W);rw [k.hgt] at HI;have hH:=k.h14;have KW:WinC c.seg n a H:=⟨k.seg,k.all,k.a2,k.a6,k.big⟩
 have RW:=hid (fun h (hh:h≤H) W=>Row_ok c.seg n a H h KW hh W);have FU:=hid (fun h (hh:h≤H) x h0 h1 W=>Full_ok c n a H h k hh x h0 h1 W);have SP:=hid (fun h (hh:h≤H) x h0 h1 W=>Sparse_in c n a H h k hh x h0 h1 W);have HZ:=hid hz;have HLC:=hid hlc;have HNK:=hid hnk;have hsum:∀h i,h≤H→0≤sumC s.cs (i*2^h) ((i+1)*2^h)∧sumC s.cs (i*2^h) ((i+1)*2^h)≤wdC c h∧wdC c h≤65536:=by
  intro h i hh;obtain ⟨e,-,e2,-⟩:=k.wd hh;have:=sumC_bd2 hcb (i*2^h) ((i+1)*2^h);rw [win_wd] at this;exact ⟨this.1,by rw [e];exact this.2,e2⟩
 have HSM:=hid hsum;have gs:(seg != c.seg)=false:=by simpa using hs
 have gm:decide (c.most<many)=false:=by simp;omega
 have hw1:IntKind.i64.wrap ((H:Int)+1)=(H:Int)+1:=IntWalk.i64_in _ xo;clear hz hlc hnk hcb hsum KW k hs hm;go_enter Tryz.func51,Tryz.ntmps51
 go_wp2_with fail
 refine (CK.out _).mono ?_;rintro e w1 ⟨rfl,hb1⟩;have hz_w1:=hb1.size;try simp only [World.size_alloc,World.size_setCell] at hz_w1
 have hh:=bc9 hb1 (au9 (al9 (b:=w.heap.size) xsi));obtain ⟨c_t0,c_t1,c_t2,c_t3,c_t4,c_t5,c_t6,c_t7,c_t8⟩:=hh;have z_t:=blt hb1 (auz (alz (b:=w.heap.size) xsi));have hh:=bc6 hb1 (al6 (b:=w.heap.size+1) xsi);obtain ⟨c_s0,c_s1,c_s2,c_s3,c_s4,c_s5⟩:=hh;have z_s:=blt hb1 (alz (b:=w.heap.size+1) xsi);have hB1:Below w.heap.size w w1:=xbel;have HB1:=hid hB1;clear hb1 hB1;go_wp2_with fail
 refine (HI.out _).mono ?_;rintro e w2 ⟨rfl,hb2⟩;have hz_w2:=hb2.size;simp (disch:=omega) only [xcl hb2] at c_t0 c_t1 c_t2 c_t3 c_t4 c_t5 c_t6 c_t7 c_t8 c_s0 c_s1 c_s2 c_s3 c_s4 c_s5;replace z_t:=blt hb2 z_t;replace z_s:=blt hb2 z_s;have HB2:=xv hb2 HB1;clear hb2;go_upto_region 6 with (fail)
 have K0:=hid (fun d os=>kr w2 d os (SK.out _ (below_via (below_regrown _ _ _) HB2.out HB2.out.size)));have K1:=hid (fun d os=>kr w2 d os (AM.out _ (below_via (below_regrown _ _ _) HB2.out HB2.out.size)));have q0:=cg c_t0;have q1:=cg c_t1;have q2:=cg c_t2;have q3:=cg c_t3;have q4:=cg c_t4;have q5:=cg c_t5;have q6:=cg c_t6;have q7:=cg c_t7;have q8:=cg c_t8;have q9:=cg c_s0;have q10:=cg c_s1;have q11:=cg c_s2;have q12:=cg c_s3;have q13:=cg c_s4;have q14:=cg c_s5;refine wp_region_quiet_below xk xk ?_;repeat (go_big_quiet_step (first|with_reducible exact K0.out _ _|with_reducible exact K1.out _ _|exact K0.out _ _|exact K1.out _ _))
 refine wpQuiet_nil ?_;intro _ hw';obtain ⟨⟨dq,osq⟩,hw''⟩:=hw';subst hw'';have hbq:=below_regrown w2 dq osq;clear q0 q1 q2 q3 q4 q5 q6 q7 q8 q9 q10 q11 q12 q13 q14 K0 K1;generalize Sort.grow (redrawn w2 dq) osq=wx at *;have HB3:=xv hbq HB2;have hz_wx:=hbq.size;simp (disch:=omega) only [xcl hbq] at c_t0 c_t1 c_t2 c_t3 c_t4 c_t5 c_t6 c_t7 c_t8 c_s0 c_s1 c_s2 c_s3 c_s4 c_s5;replace z_t:=blt hbq z_t;replace z_s:=blt hbq z_s;clear hbq;go_wp2
 go_loopg [57] (H+1) (fun gk iv wr=>∃h:Nat,h+gk=H+1∧iv= .int .i64 h∧Hid (∀h',h'<h→rowB c s H h'=true)∧Hid (Below wx.heap.size wx wr))
 case atStart=>exact ⟨0,by omega,rfl,hid fun h' q=>by omega,hid br⟩
 case round=>
  obtain ⟨h,hk,rfl,HD,HB⟩:=hrel;have hbr:=HB.out;have hz_wr:=hbr.size;simp (disch:=omega) only [xcl hbr] at c_t0 c_t1 c_t2 c_t3 c_t4 c_t5 c_t6 c_t7 c_t8 c_s0 c_s1 c_s2 c_s3 c_s4 c_s5;replace z_t:=blt hbr z_t;replace z_s:=blt hbr z_s;have HB4:=xv hbr HB3;have hz4:=HB4.out.size;clear hbr;by_cases hlt:h<H+1
  · generalize gk=go at *;have HK:=hid hk;clear hk;go_wp2_with fail
    refine (RW.out h xo _).mono ?_;rintro e w5 ⟨v5,rfl,ho5,hb5⟩;have hz_w5:=hb5.size;simp (disch:=omega) only [xcl hb5] at c_t0 c_t1 c_t2 c_t3 c_t4 c_t5 c_t6 c_t7 c_t8 c_s0 c_s1 c_s2 c_s3 c_s4 c_s5;replace z_t:=blt hb5 z_t;replace z_s:=blt hb5 z_s;have HB5:=hid (below_via hb5 HB4.out hz4);have HW5:=xv hb5 HB;have hz5:=hb5.size;obtain ⟨ra,rc,rfl,hi5,-,-,hrc,-⟩:=row_of_owns ho5;rw [rowL_length] at hrc ⊢;have HR5:=hid hi5;have hm0:2^(H-h)≤2^14:=Nat.pow_le_pow_right xo xo;have AW2:=hid (fun i hi W hb=>AW.out h i xo hi W hb);have SM2:=hid (fun i=>HSM.out h i xo);have RG2:=hid (fun i (hi:i<2^(H-h))=>rowL_get (W:=2^a*2^h) hi);have hbad:Hid (∀i,i<2^(H-h)→winB c s H h i=false→z=8):=hid fun i hi hb=>by
     rw [←HZ.out,winB_bad hlt (by rw [HLC.out,Nat.pow_div xo xo];exact hi) hb];rfl
    have hgood:Hid ((∀i,i<2^(H-h)→winB c s H h i=true)→rowB c s H h=true):=hid fun hg=>List.all_eq_true.2 fun i hi=>hg i (by have:=List.mem_range.1 hi;rwa [HLC.out,Nat.pow_div xo xo] at this)
    have HIL:=hid (rowL_length (2^a*2^h) (2^(H-h)));generalize rowL (2^a*2^h) (2^(H-h))=L at *;generalize 2^(H-h)=m at *;clear hb5 ho5 hi5 hrc;go_wp2
    go_loopg [70] m (fun gk2 iv wr2=>∃i:Nat,i+gk2=m∧iv= .int .i64 i∧Hid (∀j,j<i→winB c s H h j=true)∧Hid (Below w5.heap.size w5 wr2))
    case atStart=>exact ⟨0,by omega,rfl,hid fun j q=>by omega,hid br⟩
    case round=>
     obtain ⟨i,hk2,rfl,HD2,HBB⟩:=hrel;have hbr2:=HBB.out;have hz_wr:=hbr2.size;simp (disch:=omega) only [xcl hbr2] at c_t0 c_t1 c_t2 c_t3 c_t4 c_t5 c_t6 c_t7 c_t8 c_s0 c_s1 c_s2 c_s3 c_s4 c_s5;replace z_t:=blt hbr2 z_t;replace z_s:=blt hbr2 z_s;have HB6:=xv hbr2 HB5;have hz6:=HB6.out.size;by_cases hlt2:i<m
     · obtain ⟨bl,ol,rfl,cl0,cl1,zl⟩:=pr_get (HR5.out.below hbr2) (i:=i) (by rw [HIL.out];exact hlt2);rw [RG2.out i hlt2] at cl0 cl1;clear hbr2;dsimp only at cl0 cl1;have AW3:=hid (fun W hb=>AW2.out i hlt2 W hb);have sb:=SM2.out i;obtain ⟨sb1,sb2,sb3⟩:=sb;have HWB:Hid (winB c s H h i=(fulB c H h (sumC s.cs (i*2^h) ((i+1)*2^h))&&sprB c n H h (sumC s.cs (i*2^h) ((i+1)*2^h)))):=hid (by rw [←HNK.out];rfl);generalize sumC s.cs (i*2^h) ((i+1)*2^h)=sm at *;generalize ((i*(2^a*2^h):Nat):Int)=x0 at *;generalize x0+((2^a*2^h:Nat):Int)=x1 at *;have FU2:=hid (fun W=>FU.out h xo sm sb1 xo W);have SP2:=hid (fun W=>SP.out h xo sm sb1 sb2 W);have HK2:=hid hk2;clear hk2;go_wp2_with fail
       refine (AW3.out _ xbel).mono ?_;rintro e w7 ⟨rfl,hb7⟩;have hz_w7:=hb7.size;try simp only [World.size_alloc,World.size_setCell] at hz_w7
       have hh:=bc9 hb7 (au9 (⟨c_t0,c_t1,c_t2,c_t3,c_t4,c_t5,c_t6,c_t7,c_t8⟩));clear c_t0 c_t1 c_t2 c_t3 c_t4 c_t5 c_t6 c_t7 c_t8;obtain ⟨c_t0,c_t1,c_t2,c_t3,c_t4,c_t5,c_t6,c_t7,c_t8⟩:=hh;replace z_t:=blt hb7 (auz (z_t));have hh:=bc6 hb7 (au6 (⟨c_s0,c_s1,c_s2,c_s3,c_s4,c_s5⟩));clear c_s0 c_s1 c_s2 c_s3 c_s4 c_s5;obtain ⟨c_s0,c_s1,c_s2,c_s3,c_s4,c_s5⟩:=hh;replace z_s:=blt hb7 (auz (z_s));have hh:=bc2 hb7 (al2 (b:=wr.heap.size) xsi);obtain ⟨c_x0,c_x1⟩:=hh;have z_x:=blt hb7 (alz (b:=wr.heap.size) xsi);have HB7:=hid (show Below w.heap.size w w7 by (exact xbel));have HC7:=hid (show Below w5.heap.size w5 w7 by (exact xbel));clear hb7;go_wp2_with fail
       refine (FU2.out _).mono ?_;rintro e w8 ⟨rfl,hb8⟩;have hz_w8:=hb8.size;simp (disch:=omega) only [xcl hb8] at c_t0 c_t1 c_t2 c_t3 c_t4 c_t5 c_t6 c_t7 c_t8 c_s0 c_s1 c_s2 c_s3 c_s4 c_s5;replace z_t:=blt hb8 z_t;replace z_s:=blt hb8 z_s;have HB8:=xv hb8 HB7;have HC8:=xv hb8 HC7;clear hb8;go_wp2_with fail
       refine (SP2.out _).mono ?_;rintro e w9 ⟨rfl,hb9⟩;have hz_w9:=hb9.size;simp (disch:=omega) only [xcl hb9] at c_t0 c_t1 c_t2 c_t3 c_t4 c_t5 c_t6 c_t7 c_t8 c_s0 c_s1 c_s2 c_s3 c_s4 c_s5;replace z_t:=blt hb9 z_t;replace z_s:=blt hb9 z_s;have HB9:=xv hb9 HB8;have HC9:=xv hb9 HC8;clear hb9;cases hf:fulB c H h sm with
       | false=>
        have hz8:=hbad.out i hlt2 (by rw [HWB.out,hf];rfl);subst hz8;go_wp2
        go_ret
        exact ⟨rfl,HB9.out⟩
       | true=>
        cases hg:sprB c n H h sm with
        | false=>
         have hz8:=hbad.out i hlt2 (by rw [HWB.out,hf,hg];rfl);subst hz8;go_wp2
         go_ret
         exact ⟨rfl,HB9.out⟩
        | true=>
         go_wp2
         go_roundg (gk-1)
         case measure=>have:=HK2.out;omega
         case rel=>
          refine ⟨i+1,by have:=HK2.out;omega,by go_num,hid fun j hj=> ?_,HC9⟩;by_cases hji:j=i
          · rw [hji,HWB.out,hf,hg];rfl
          · exact HD2.out j xo
     · have HK2:=hid hk2;clear hk2;go_wp2
       go_roundg (go-1)
       case measure=>have:=HK.out;omega
       case rel=>
        refine ⟨h+1,by have:=HK.out;omega,by go_num,hid fun h' hh'=> ?_,hid (below_via HBB.out HW5.out HW5.out.size)⟩;by_cases hji:h'=h
        · rw [hji];exact hgood.out fun j hj=>HD2.out j (by have:=HK2.out;omega)
        · exact HD.out h' xo
  · have hz0:z=0:=by
      rw [←HZ.out,if_pos];exact List.all_eq_true.2 fun h' hh'=>HD.out h' (by have:=List.mem_range.1 hh';omega)
    subst hz0;clear hk;go_wp2
    go_ret
    exact ⟨rfl,HB4.out⟩
end
section
open Go.RowKit
structure GapN (c:Cfg) (s:SlC) (a H:Nat):Prop where
 cap:CapC c s.ks.length a H
 seg:s.seg=((2^a:Nat):Int)
 nk:s.ks.length=2^a*2^H
 nv:s.vs.length=2^a*2^H
 nc:s.cs.length=2^H
 cnt:CntB s.cs (2^a)
 may:slMay s=true
theorem gapN_of {c:Cfg} {s:SlC} (hc:cfMay c=true) (hp:powB s.ks.length c.least (taks c c.most)=true) (hm:slMay s=true) (hs:s.seg=c.seg):∃a H,GapN c s a H:=by
 obtain ⟨a,H,k⟩:=capC_of hc hp;have hm':=hm;simp only [slMay,Bool.and_eq_true] at hm;obtain ⟨⟨h5,h6⟩,h7⟩:=hm;obtain ⟨S,M,e1,b1,b2,b3,b4,b5,b6,b7,b8,b9,p1,p2,-⟩:=slHead_facts h5;have hS:S=2^a:=by have:=k.seg;omega
 subst hS;have hM:M=2^H:=by
  have h1:=k.all;rw [b3] at h1;have h2:2^a*M=2^a*2^H:=xo;exact Nat.eq_of_mul_eq_mul_left (Nat.two_pow_pos a) h2
 subst hM;exact ⟨a,H,k,e1,b3,b4,b5,cntB_bd e1 h7,hm'⟩
theorem gapE_may {c:Cfg} {s:SlC} {a H:Nat} (k:GapN c s a H) (hs:s.seg=c.seg) (hm:sumC s.cs 0 s.cs.length≤c.most):gapE c s=if denB c s H=true then 0 else 8:=by
 have hh:gapHead c s=true:=by
  simp only [gapHead,Bool.and_eq_true,decide_eq_true_eq];exact ⟨⟨⟨k.may,hs⟩,k.cap.cap⟩,hm⟩
 rw [gapE,if_pos k.cap.may,gapMay,hh,Bool.true_and,k.cap.hgt]
theorem among_ok (s:SlC) (sa:SlA) (S lo hi:Nat) (hseg:s.seg=S) (hS:4≤S) (hS2:S≤64) (A B:Int) (hA:A=((lo*S:Nat):Int)) (hB:B=((hi*S:Nat):Int)) (h1:lo≤hi) (h2:hi≤s.cs.length) (h3:lo<s.cs.length) (hcc:s.cs.length≤sa.cc) (hlc:s.cs.length≤65536) (hcs:CntB s.cs S) (w:World) (hin:SlIn w s sa):
    Calls Tryz.prog 68 #[slV s sa,.int .i64 A,.int .i64 B] w (AnsB w (.int .i64 (sumC s.cs lo hi))):=by
 obtain ⟨wa,ka,va,ca,wc,kc,vc,cc⟩:=sa;have hn:=hin.n;dsimp only at hn hcc;obtain ⟨b,off,x,rfl,-,-,-⟩:=hn.get (i:=0) xo;exact among_core w s.seg wa ka va wc kc vc cc s.ws.length s.ks.length s.vs.length s.cs.length s.laid b off s.cs A B S lo hi hseg hS hS2 hA hB h1 h2 h3 hcc hlc rfl hcs hn
theorem gapCheck_ok (c:Cfg) (s:SlC) (sa:SlA) (hl:s.ws.length≤1000000000000) (hl2:s.ks.length≤1000000000000) (hcc:s.cs.length≤sa.cc) (w:World) (hin:SlIn w s sa):
    Calls Tryz.prog 51 #[.agg #[.int .u8 c.tag,.int .i64 c.most,.int .i64 c.seg,.int .i64 c.least,.int .i64 c.den,.int .i64 c.ll,.int .i64 c.rl,.int .i64 c.rh,.int .i64 c.lh],slV s sa] w (AnsB w (.int .i64 (gapE c s))):=by
 cases hc:cfMay c with
 | false=>
  rw [show gapE c s=50 by simp [gapE,hc]];exact gapCheck_conf c hc _ _ _ _ _ _ _ _ _ _ _ _ _ _ w
 | true =>
  have SK:Hid (∀W,Below w.heap.size w W→Calls Tryz.prog 89 #[slV s sa] W (AnsB W (.int .i64 (slE s)))):=hid fun W hb=>slCheck_ok s sa hl hl2 W (hin.below hb)
  cases hp:powB s.ks.length c.least (taks c c.most) with
  | false=>
   rw [gapE_bad hc (by simp [gapHead,hp])];exact gapCheck_high c hc _ _ _ _ _ _ _ _ _ _ _ _ _ _ hp w
  | true =>
   cases hm:slMay s with
   | false=>
    rw [gapE_bad hc (by simp [gapHead,hm])];exact gapCheck_slots c hc _ _ _ _ _ _ _ _ _ _ _ _ _ _ hp (slE s) (by simp [slE,hm]) w SK
   | true =>
    rw [show slE s=0 by simp [slE,hm]] at SK;by_cases hs:s.seg=c.seg
    · obtain ⟨a,H,k⟩:=gapN_of hc hp hm hs;have ha4:2^2≤2^a:=Nat.pow_le_pow_right xo k.cap.a2;have ha6:2^a≤2^6:=Nat.pow_le_pow_right xo k.cap.a6;have hH0:=Nat.two_pow_pos H;have hnc:=k.nc;have hcb:s.cs.length≤65536:=by
       have:=k.cap.big;have h9:1*2^H≤2^a*2^H:=Nat.mul_le_mul_right _ xo;omega
      have AM:Hid (∀W,Below w.heap.size w W→Calls Tryz.prog 68 #[slV s sa,.int .i64 0,.int .i64 s.ks.length] W (AnsB W (.int .i64 (sumC s.cs 0 s.cs.length)))):=hid fun W hb=>
       among_ok s sa (2^a) 0 s.cs.length k.seg xo xo 0 s.ks.length xsi (by rw [k.nk,k.nc,Nat.mul_comm]) xo xo xo hcc hcb k.cnt W (hin.below hb)
      by_cases hmost:sumC s.cs 0 s.cs.length≤c.most
      · refine gapCheck_core c s s.seg _ _ _ _ _ _ _ _ _ _ _ _ _ a H k.cap hs k.nc rfl k.cnt _ hmost _ (gapE_may k hs hmost).symm w SK AM (hid fun h i hh hi W hb=> ?_);have hi2:(i+1)*2^h≤2^H:=by
         have:(i+1)*2^h≤2^(H-h)*2^h:=Nat.mul_le_mul_right _ hi;rwa [←Nat.pow_add,Nat.sub_add_cancel hh] at this
        have hp0:=Nat.two_pow_pos h;have hlt:i*2^h<(i+1)*2^h:=by rw [Nat.succ_mul];omega
        refine among_ok s sa (2^a) (i*2^h) ((i+1)*2^h) k.seg xo xo _ _ ?_ ?_ xo xo xo hcc hcb k.cnt W (hin.below hb)
        · rw [Nat.mul_comm (2^a),Nat.mul_assoc]
        · rw [Nat.succ_mul i (2^h),Nat.add_mul,Nat.mul_comm (2^a) (2^h),Nat.mul_assoc];push_cast
          rfl
      · rw [gapE_bad hc (by simp [gapHead,hmost])];exact gapCheck_many c hc _ _ _ _ _ _ _ _ _ _ _ _ _ _ hp hs _ xo w SK AM
    · rw [gapE_bad hc (by simp [gapHead,hs])];exact gapCheck_seg c hc _ _ _ _ _ _ _ _ _ _ _ _ _ _ hp hs w SK
end
section
def lay (L r:Nat):List Nat:=
  if h:L≤1 then [r] else lay (L/2) r++(List.range (2^(L/2))).flatMap fun i=>lay (L-L/2) (r*2^(L/2)+i)
termination_by L
decreasing_by all_goals omega
end
section
open Go.RowKit
variable {a b c a' b' c':Nat→Int} {M i:Nat} {v:Int}
theorem set_getD {xs:List Int} {j k:Nat} {v:Int} (hk:k<xs.length):(xs.set j v).getD k 0=if j=k then v else xs.getD k 0:=by
 simp only [List.getD_eq_getElem?_getD,List.getElem?_set];by_cases e:j=k
 · subst e;simp [hk]
 · simp [e]
theorem own_cell {k:IntKind} {w:World} {B g n cap s:Nat} {e:TypeId} {xs:List Int} (h:w.ownsRow B e s (.slice (some ⟨g,0,none⟩) n cap) n (xs.map (Value.int k))) {j:Nat} (hj:j<xs.length):
    w.cell? ⟨g,j,none⟩=some (.int k (xs.getD j 0))∧w.frozen? ⟨g,j,none⟩=false:=by
 have hl:xs.length=n*s:=by have:=h.1;simpa using this
 refine ⟨?_,h.frozenAt j⟩;rw [h.cellAt j xo,List.getElem?_map,List.getElem?_eq_getElem hj];simp [List.getD_eq_getElem?_getD,hj]
theorem own_set {k:IntKind} {w:World} {B g n cap s:Nat} {e:TypeId} {xs:List Int} (h:w.ownsRow B e s (.slice (some ⟨g,0,none⟩) n cap) n (xs.map (Value.int k))) (j:Nat) (y:Int):
    (w.setCell ⟨g,j,none⟩ (.int k y)).ownsRow B e s (.slice (some ⟨g,0,none⟩) n cap) n ((xs.set j y).map (Value.int k)):=by
 have:=(h.stored j (.int k y)).1;rw [List.map_set];exact this
end
section
open Go.RowKit
def ownB (m c:Int):Bool:=decide (0≤c)&&decide (c≤65536)&&(decide (c≠0)||decide (m=0))
def abM (am bm bc:Int):Int:=if 0<bc then bm else am
def abC (ac bc:Int):Int:=if 0<bc then ac+bc else ac
def joinR (m c am ac bm bc:Int):Bool:=decide (0≤ac)&&decide (0≤bc)&&decide (ac≤c)&&decide (bc=c-ac)&&(decide (m=abM am bm bc)&&decide (c=abC ac bc))&&(decide (ac=0)||decide (bc=0)||decide (am<bm))
def ixFit (l:Int) (ms cs:List Int):Prop:=1≤l∧l≤14∧ms.length=2^l.toNat-1∧cs.length=2^l.toNat-1
instance (l:Int) (ms cs:List Int):Decidable (ixFit l ms cs):=by unfold ixFit;infer_instance
end
section
end
section
open Go.RowKit
end
section
open Go.RowKit
end
section
open Go.RowKit
end
section
open Go.RowKit
end
section
open Go.RowKit
end
section
open Go.RowKit Go.Shelf
attribute [local go_sem] Oper.semAt_some
end
section
open Go.RowKit
end
section
open Go.RowKit
end
section
open Go.RowKit
end
section
open Go.RowKit
end
section
open Go.RowKit
end
section
open Go.RowKit
end
section
open Go.RowKit
end
section
open Go.RowKit Go.Shelf
attribute [local go_sem] Oper.semAt_some
def Fact.full {T:TypeId} (base:Nat) (e:TypeId) (he:e≠T) (n:Nat) (xs:List Value):Fact T:=
  ⟨fun v w=>∃g,v= .slice (some ⟨g,0,none⟩) n n∧w.ownsRow base e 1 (.slice (some ⟨g,0,none⟩) n n) n xs,fun _ _ _ h ⟨g,e1,k⟩=>⟨g,e1,h.owns he k⟩⟩
theorem wp_make {P:Program} {w:World} {o:Oper} {a:Act} {K:Act→World→Prop} {Q:Exit→Act→World→Prop} (l c:Operand) (t e:TypeId) (z:Value) (size bytes:Nat)
    (ht:P.underlying t=some (.slice e)) (hinfo:(P.info? e).map (fun i=>(i.zero,i.size,i.bytes))=some (some z,size,bytes)) (hbytes:bytes≤1024)
    (B n:Nat) (N:Int) (hN:N=n) (hlen:n≤4294967296) (hbase:B≤w.heap.size)
    (ho:o.op=Op.makeSlice t l c) (hl:a.eval l= .int .i64 N) (hc:a.eval c= .int .i64 N)
    (h:∀g w',w.heap.size≤g→w'.ownsRow B e size (.slice (some ⟨g,0,none⟩) n n) n (madeCells z.cells (n*size)).toList→Below w.heap.size w w'→K (a.put o.dst (.slice (some ⟨g,0,none⟩) n n)) w'):
    Oper.wp P o a w K Q:=by
 obtain ⟨i0,hi,hz0,hz1,hz2⟩:=info_parts hinfo;obtain ⟨w',hrun,r1,r2⟩:=run_make_full (P:=P) w B t e i0 z size ht hi hz0 hz1 .i64 .i64 n (by rw [hz2];exact Nat.le_trans (Nat.mul_le_mul hbytes hlen) xdd) (by unfold maxLen;omega) hbase;subst hN;unfold Oper.wp;simp [execOp,ho,hl,hc,hrun,Result.andThen];exact h w.heap.size w' (Nat.le_refl _) r1 (br.grown r2 (Nat.le_refl _) (fun k hk=>by cases hk))
end
section
open Go.RowKit
def gr4 (n lk lv lw lc:Nat):Bool:=decide (n<lk)||decide (n<lv)||decide (n<lw)||decide (n<lc)
theorem Great04_ok (seg:Int) (wa ka va ca:Option Addr) (wc kc vc cc lw lk lv lc:Nat) (laid:Int) (n:Nat) (w:World):
    Calls Tryz.prog 30 #[.agg #[.int .i64 seg,.slice wa lw wc,.slice ka lk kc,.slice va lv vc,.slice ca lc cc,.int .u64 laid],.int .i64 n] w (AnsB w (.bool (gr4 n lk lv lw lc))):=by
 go_enter Tryz.func30,Tryz.ntmps30
 go_wp2
 all_goals go_ret
 all_goals exact ⟨by first|rfl|(simp [gr4, *];done)|(simp [gr4];omega),br.alloc (Nat.le_refl _) _⟩
end
section
open Go.RowKit Go.Shelf Go.Sort
end
section
open Go.RowKit Go.Shelf Go.Sort
end
section
open Go.RowKit
theorem GapN.nums {c:Cfg} {s:SlC} {a H:Nat} (k:GapN c s a H):4≤2^a∧2^a≤64∧1≤s.cs.length∧s.cs.length≤65536∧s.ks.length≤65536:=by
 have ha4:2^2≤2^a:=Nat.pow_le_pow_right xo k.cap.a2;have ha6:2^a≤2^6:=Nat.pow_le_pow_right xo k.cap.a6;have hH0:=Nat.two_pow_pos H;have hnc:=k.nc;have:=k.cap.big;have h9:1*2^H≤2^a*2^H:=Nat.mul_le_mul_right _ xo;have:=k.nk;omega
end
section
open Go.RowKit
end
section
open Go.RowKit Go.Shelf
attribute [local go_sem] Oper.semAt_some
end
section
open Go.RowKit Go.Shelf
attribute [local go_sem] Oper.semAt_some
structure FactR (R:World→World→Prop) where
 holds:Value→World→Prop
 stays:∀v w w',R w w'→holds v w→holds v w'
def FactR.any (R:World→World→Prop):FactR R:=⟨fun _ _=>True,fun _ _ _ _ _=>trivial⟩
def FactR.is {R:World→World→Prop} (x:Value):FactR R:=⟨fun v _=>v=x,fun _ _ _ _ h=>h⟩
def FactR.now {R:World→World→Prop} (S:World→Prop) (h:∀w w',R w w'→S w→S w'):FactR R:=⟨fun _ w=>S w,fun _ w w' hr h1=>h w w' hr h1⟩
def factRAt {R:World→World→Prop} (fs:List (FactR R)) (k:Nat) (v:Value) (w:World):Prop:=(fs.getD k (FactR.any R)).holds v w
theorem factRAt_stays {R:World→World→Prop} (fs:List (FactR R)) (k:Nat) (v:Value) (w w':World) (h:R w w'):factRAt fs k v w→factRAt fs k v w':=(fs.getD k (FactR.any R)).stays _ _ _ h
def JB (g:Nat) (X:World) (old new:World→Prop) (w':World):Prop:=(∀q,q≠g→w'.heap[q]? =X.heap[q]?)∧w'.heap.size=X.heap.size∧(w'.os=X.os∧w'.tape=X.tape∧w'.output=X.output)∧(old w'∨new w')
end
section
open Go.RowKit
end
section
open Go.RowKit
end
section
open Go.RowKit Go.Shelf
attribute [local go_sem] Oper.semAt_some
end
section
open Go.RowKit
theorem info4_uint64:(Tryz.prog.info? 27).map (fun i=>(i.zero,i.size,i.bytes))=some (some (.int .u64 0),1,8):=by kernel_rfl
theorem info4_int64:(Tryz.prog.info? 2).map (fun i=>(i.zero,i.size,i.bytes))=some (some (.int .i64 0),1,8):=by kernel_rfl
theorem info4_int:(Tryz.prog.info? 3).map (fun i=>(i.zero,i.size,i.bytes))=some (some (.int .i64 0),1,8):=by kernel_rfl
theorem row_news' {k:IntKind} {w:World} {a:Option Addr} {xs:List Int} (h:IsRow k w a xs) (ad:Addr) (ha:a=some ad):∀j u,(xs.map (Value.int k))[j]? =some u→w.cell? (ad.add j)=some u:=by
 subst ha;exact fun j u hj=>row_news h ad rfl j u hj
def FreshSlN (w:World) (c:SlC) (e:Ending) (w':World):Prop:=
  ∃v1 v2 v3 v4,e= .returned (.agg #[.int .i64 c.seg,v1,v2,v3,v4,.int .u64 c.laid])∧w'.ownsRow w.heap.size 27 1 v1 c.ws.length (c.ws.map (Value.int .u64))∧w'.ownsRow w.heap.size 2 1 v2 c.ks.length (c.ks.map (Value.int .i64))∧w'.ownsRow w.heap.size 2 1 v3 c.vs.length (c.vs.map (Value.int .i64))∧w'.ownsRow w.heap.size 3 1 v4 c.cs.length (c.cs.map (Value.int .i64))∧Below w.heap.size w w'∧∀p q,v2.ownBlock=some p→v3.ownBlock=some q→p≠q
theorem six_at {w:World} {b:Nat} {x y z p q r:Value} (h0:w.cell? ⟨b,0,none⟩=some x) (h1:w.cell? ⟨b,1,none⟩=some y) (h2:w.cell? ⟨b,2,none⟩=some z) (h3:w.cell? ⟨b,3,none⟩=some p) (h4:w.cell? ⟨b,4,none⟩=some q) (h5:w.cell? ⟨b,5,none⟩=some r):∀j v,[x,y,z,p,q,r][j]? =some v→w.cell? ⟨b,j,none⟩=some v:=by
 intro j v hj;match j with
 | 0=>simp at hj;rw [←hj];exact h0
 | 1=>simp at hj;rw [←hj];exact h1
 | 2=>simp at hj;rw [←hj];exact h2
 | 3=>simp at hj;rw [←hj];exact h3
 | 4=>simp at hj;rw [←hj];exact h4
 | 5=>simp at hj;rw [←hj];exact h5
 | n+6=>simp at hj
theorem set_keep {w:World} {a b:Addr} {v u:Value} (h:a≠b) (hc:w.cell? a=some u):(w.setCell b v).cell? a=some u:=(World.cell?_setCell_other _ _ _ _ (by intro e;exact h (by rw [e]))).trans hc
theorem six_set {w:World} {b:Nat} {x y z p q r x' y' z' p' q' r':Value} (h0:w.cell? ⟨b,0,none⟩=some x') (h1:w.cell? ⟨b,1,none⟩=some y') (h2:w.cell? ⟨b,2,none⟩=some z') (h3:w.cell? ⟨b,3,none⟩=some p') (h4:w.cell? ⟨b,4,none⟩=some q') (h5:w.cell? ⟨b,5,none⟩=some r'):
    ∀j v,[x,y,z,p,q,r][j]? =some v→((((((w.setCell ⟨b,0,none⟩ x).setCell ⟨b,1,none⟩ y).setCell ⟨b,2,none⟩ z).setCell ⟨b,3,none⟩ p).setCell ⟨b,4,none⟩ q).setCell ⟨b,5,none⟩ r).cell? ⟨b,j,none⟩=some v:=by
 refine six_at ?_ ?_ ?_ ?_ ?_ ?_
 · exact set_keep xsi (set_keep xsi (set_keep xsi (set_keep xsi (set_keep xsi (World.cell?_setCell_same _ _ _ h0)))))
 · exact set_keep xsi (set_keep xsi (set_keep xsi (set_keep xsi (World.cell?_setCell_same _ _ _ (set_keep xsi h1)))))
 · exact set_keep xsi (set_keep xsi (set_keep xsi (World.cell?_setCell_same _ _ _ (set_keep xsi (set_keep xsi h2)))))
 · exact set_keep xsi (set_keep xsi (World.cell?_setCell_same _ _ _ (set_keep xsi (set_keep xsi (set_keep xsi h3)))))
 · exact set_keep xsi (World.cell?_setCell_same _ _ _ (set_keep xsi (set_keep xsi (set_keep xsi (set_keep xsi h4)))))
 · exact World.cell?_setCell_same _ _ _ (set_keep xsi (set_keep xsi (set_keep xsi (set_keep xsi (set_keep xsi h5)))))
end
section
open Go.RowKit
abbrev RB:World→World→Prop:=fun w w'=>Below w.heap.size w w'
def FactR.sl (base:Nat) (c:SlC):FactR RB:=
  ⟨fun v w=>∃v1 v2 v3 v4,v= .agg #[.int .i64 c.seg,v1,v2,v3,v4,.int .u64 c.laid]∧w.ownsRow base 27 1 v1 c.ws.length (c.ws.map (Value.int .u64))∧w.ownsRow base 2 1 v2 c.ks.length (c.ks.map (Value.int .i64))∧w.ownsRow base 2 1 v3 c.vs.length (c.vs.map (Value.int .i64))∧w.ownsRow base 3 1 v4 c.cs.length (c.cs.map (Value.int .i64)),
    fun _ _ _ h ⟨v1,v2,v3,v4,e,h1,h2,h3,h4⟩=>⟨v1,v2,v3,v4,e,owns_below h1 h,owns_below h2 h,owns_below h3 h,owns_below h4 h⟩⟩
def FactR.box (base:Nat) (t:TypeId) (n:Nat):FactR RB:=
  ⟨fun v w=>∃b cs,v= .pointer (some ⟨b,0,none⟩)∧base≤b∧w.heap[b]? =some (.cells cs t (0,0))∧cs.size=n,fun _ _ _ h ⟨b,cs,e,hb,hh,hn⟩=>⟨b,cs,e,hb,(h.block b (Array.getElem?_eq_some_iff.1 hh).1).trans hh,hn⟩⟩
end
end Go.Proofs.YtjhpblejlchhjaaGreatDoor

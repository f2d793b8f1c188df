/- Merged: WinW, QuietT, Ref02, Of04, May04, Seek. -/
import Derived.Test.YtmnlagmmbfjbeaaDoorPmaNamesP6
import Derived.Test.YtmnlagmmbfjbeaaDoorPmaNamesP10
import Derived.Laws.BitsAllLaws
import Derived.Test.YtmnlagmmbfjbeaaDoorPmaNamesP1
import Derived.Lib.QuietBelow
import Derived.Test.YtmnlagmmbfjbeaaDoorPmaNamesP4
import Derived.Test.YtmnlagmmbfjbeaaDoorPmaNamesP3
import Derived.Test.YtmnlagmmbfjbeaaDoorPmaNamesP5
namespace Go.Proofs.YtmnlagmmbfjbeaaDoor
set_option maxRecDepth 100000
set_option maxHeartbeats 40000000
set_option linter.unusedVariables false
set_option linter.unusedSimpArgs false
section
open Go.RowKit
theorem nat_and_pow {n e:Nat} (hn:n<9223372036854775808) (he:e≤62):n &&& (18446744073709551615-(2^e-1))=n/2^e*2^e:=by
 have h:2^e<2^64:=Nat.pow_lt_pow_right xo xo;have hp:=Nat.two_pow_pos e;rw [show 18446744073709551615-(2^e-1)=2^64-((2^e-1)+1) by omega];apply Nat.eq_of_testBit_eq;intro i;rw [Nat.testBit_and,Nat.testBit_two_pow_sub_succ xo,Nat.testBit_two_pow_sub_one];have h2:=cutLo_bit (x:=(n:Int)) xo e i;have h3:cutLo (n:Int) e=((n/2^e*2^e:Nat):Int):=by rw [cutLo];push_cast;rfl
 rw [h3,bitI_nat,bitI_nat] at h2;rw [h2];by_cases hi:i<64
 · by_cases hie:i<e
   · have:¬e≤i:=xo;simp [hi,hie,this]
   · have:e≤i:=xo;simp [hi,hie,this]
 · have:n.testBit i=false:=by
     have:=bitI_high (x:=(n:Int)) xo (k:=i) xo;rwa [bitI_nat] at this
   simp [this]
theorem i64_andNot_pow {n e:Nat} (hn:n<9223372036854775808) (he:e≤62):bits .andNot .i64 (n:Int) ((2^e-1:Nat):Int)=((n/2^e*2^e:Nat):Int):=by
 have h:2^e<2^64:=Nat.pow_lt_pow_right xo xo;have hd:=Nat.div_mul_le_self n (2^e);show IntKind.i64.wrap ((BitVec.ofInt 64 (n:Int) &&& ~~~BitVec.ofInt 64 ((2^e-1:Nat):Int)).toNat:Int)=_;rw [BitVec.toNat_and,BitVec.toNat_not,ofInt_u64 n xo,ofInt_u64 (2^e-1) xo,show 2^64-1-(2^e-1)=18446744073709551615-(2^e-1) by omega,nat_and_pow hn he,IntWalk.i64_in _ xo]
structure WinC (seg size:Int) (a H:Nat):Prop where
 seg:seg=((2^a:Nat):Int)
 all:size=((2^a*2^H:Nat):Int)
 a2:2≤a
 a6:a≤6
 big:2^a*2^H≤65536
theorem WinC.nums {seg size:Int} {a H:Nat} (k:WinC seg size a H):4≤seg∧seg≤64∧seg≤size∧size≤65536∧pwB seg=true∧pwB size=true∧size/seg=((2^H:Nat):Int)∧H≤14∧2^H≤16384:=by
 obtain ⟨k1,k2,k3,k4,k5⟩:=k;have h4:2^2≤2^a:=Nat.pow_le_pow_right xo k3;have h6:2^a≤2^6:=Nat.pow_le_pow_right xo k4;have h7:2^a*1≤2^a*2^H:=Nat.mul_le_mul_left _ (Nat.two_pow_pos H);have h8:2^2*2^H≤2^a*2^H:=Nat.mul_le_mul_right _ h4;have hH:H≤14:=by
  rcases Nat.lt_or_ge 14 H with q|q
  · have:=Nat.pow_lt_pow_right (a:=2) xo q;omega
  · exact q
 refine ⟨by omega,by omega,by omega,by omega,by rw [k1];exact pwB_two a,by rw [k2,←Nat.pow_add];exact pwB_two _,?_,hH,by omega⟩;rw [k1,k2,Int.natCast_mul,Int.mul_ediv_cancel_left _ (by have:=Nat.two_pow_pos a;omega)]
theorem winHigh_ok (seg size:Int) (a H:Nat) (k:WinC seg size a H) (w:World):
    Calls Tryd.prog 94 #[.int .i64 seg,.int .i64 size] w fun e w'=>e= .returned (.tuple #[.int .i64 H,.int .i64 0])∧w=w':=by
 obtain ⟨n1,n2,n3,n4,n5,n6,n7,n8,n9⟩:=k.nums;have P1:=hid (fun w=>Power_ok seg xo w);have P2:=hid (fun w=>Power_ok size xo w);rw [n5] at P1;rw [n6] at P2;have hp:=Nat.two_pow_pos H;have DN:=hid (fun w=>Down_ok (2^H) (size/seg) n7 xo xo w);rw [Nat.log2_two_pow] at DN;have hq2:size.tdiv seg=size/seg:=Int.tdiv_eq_ediv_of_nonneg xo;have hs0:(seg==0)=false:=by simp;omega
 have hqb:size/seg≤65536:=xo;have hq0:0≤size/seg:=xo;generalize size/seg=q at *;have hwq:IntKind.i64.wrap q=q:=IntWalk.i64_in _ xo;clear k n5 n6 n7 hp;go_enter Tryd.func94,Tryd.ntmps94
 go_wp2_with (first
   | (go_at_call 92;first|(with_reducible refine (P1.out _).mono ?_;rintro e w' ⟨rfl,rfl⟩)|(with_reducible refine (P2.out _).mono ?_;rintro e w' ⟨rfl,rfl⟩))
   | (go_at_call 93;refine (DN.out _).mono ?_;rintro e w' ⟨rfl,rfl⟩))
 go_ret2
 exact ⟨rfl,rfl⟩
theorem wasked_ok (seg size:Int) (a H:Nat) (k:WinC seg size a H) (p:Option Addr) (ca m:Nat) (xs:List Int) (hm:xs.length=m) (hm2:m≤1000) (hx:∀i,i<m→0≤xs.getD i 0∧xs.getD i 0<size) (w:World) (hw:IsRow .i64 w p xs):
    Calls Tryd.prog 79 #[.int .i64 seg,.int .i64 size,.slice p m ca] w fun e w'=>e= .returned (.tuple #[.int .i64 H,.int .i64 0])∧w=w':=by
 have WH:=hid (fun w=>winHigh_ok seg size a H k w);have HW:=hid hw;have HX:=hid hx;have HM:=hid hm;clear k hw hx hm;go_enter Tryd.func79,Tryd.ntmps79
 go_wp2_with (go_at_call 94;refine (WH.out _).mono ?_;rintro e w' ⟨rfl,rfl⟩)
 go_loopg [23] m (fun gk iv wr=>∃i:Nat,i+gk=m∧iv= .int .i64 i∧wr=w)
 case atStart=>exact ⟨0,by omega,rfl,rfl⟩
 case round=>
  obtain ⟨i,hi,rfl,rfl⟩:=hrel;by_cases hlt:i<m
  · obtain ⟨b,off,x,rfl,hxx,hc,-⟩:=HW.out.get (i:=i) (by rw [HM.out];exact hlt);have hb:=HX.out i hlt;rw [hxx.out] at hb;obtain ⟨hb1,hb2⟩:=hb;clear hxx;go_wp2
    go_roundg (gk-1)
    case measure=>omega
    case rel=>exact ⟨i+1,by omega,by go_num,rfl⟩
  · go_wp2
    go_ret2
    exact ⟨rfl,rfl⟩
theorem two_at_b {w:World} {b:Nat} {x y:Value} (h0:w.cell? ⟨b,0,none⟩=some x) (h1:w.cell? ⟨b,1,none⟩=some y):∀j v,[x,y][j]? =some v→w.cell? ⟨b,j,none⟩=some v:=by
 intro j v hj;match j,hj with
 | 0,hj=>cases hj;exact h0
 | 1,hj=>cases hj;exact h1
theorem around_ok (W at_ f:Int) (hb:bits .andNot .i64 at_ (W-1)=f) (h0:1≤W) (h1:W≤65536) (h2:0≤f) (h3:f≤65536) (w:World):
    Calls Tryd.prog 80 #[.int .i64 W,.int .i64 at_] w (AnsB w (.agg #[.int .i64 f,.int .i64 (f+W)])):=by
 have w1:IntKind.i64.wrap (W-1)=W-1:=IntWalk.i64_in _ xo;have w2:IntKind.i64.wrap (f+W)=f+W:=IntWalk.i64_in _ xo;go_enter Tryd.func80,Tryd.ntmps80
 go_wp2
 refine bodyPost_ret (results_c rfl rfl (run_loadVar_many [.int .i64 f,.int .i64 (f+W)] Tryd.underlying77 rfl xk (two_at_b ?_ ?_))) rfl ⟨rfl,?_⟩
 · (exact xcn)
 · (exact xcn)
 · (exact xbel)
theorem info_w2:(Tryd.prog.info? 77).map (fun i=>(i.zero,i.size,i.bytes))=some (some (.agg #[.int .i64 0,.int .i64 0]),2,16):=by kernel_rfl
def rowL (W m:Nat):List (Int×Int):=(List.range m).map fun i=>(((i*W:Nat):Int),((i*W:Nat):Int)+W)
theorem rowL_length (W m:Nat):(rowL W m).length=m:=by simp [rowL]
theorem rowL_succ (W m:Nat):rowL W (m+1)=rowL W m++[(((m*W:Nat):Int),((m*W:Nat):Int)+W)]:=by
 simp [rowL,List.range_succ]
theorem rowL_get {W m i:Nat} (h:i<m):(rowL W m).getD i (0,0)=(((i*W:Nat):Int),((i*W:Nat):Int)+W):=by
 rw [List.getD_eq_getElem?_getD,rowL,List.getElem?_map,List.getElem?_range h];rfl
def FreshW2 (w:World) (l:List (Int×Int)) (x:Value) (e:Ending) (w':World):Prop:=
  ∃v,e= .returned (.tuple #[v,x])∧w'.ownsRow w.heap.size 77 2 v l.length ((prI l).map (Value.int .i64))∧Below w.heap.size w w'
theorem Row_ok (seg size:Int) (a H h:Nat) (k:WinC seg size a H) (hh:h≤H) (w:World):
    Calls Tryd.prog 53 #[.int .i64 seg,.int .i64 size,.int .i64 h] w (FreshW2 w (rowL (2^a*2^h) (2^(H-h))) (.int .i64 0)):=by
 obtain ⟨n1,n2,n3,n4,n5,n6,n7,n8,n9⟩:=k.nums;have AK:=hid (fun w=>wasked_ok seg size a H k none 0 0 [] rfl xo (fun i hi=>by omega) w (fun i hi=>by simp at hi));have hWW:2^a*2^h=2^(a+h):=(Nat.pow_add ..).symm;have hall:size=((2^(a+h)*2^(H-h):Nat):Int):=by rw [k.all,Nat.pow_add,Nat.mul_assoc,←Nat.pow_add 2 h (H-h),Nat.add_sub_cancel' hh]
 have hshl:seg*2^h=((2^(a+h):Nat):Int):=by rw [k.seg,Nat.pow_add];push_cast;rfl
 have hah:a+h≤62:=by have:=k.a6;omega
 have AR:=hid (fun (i:Nat) (hi:i*2^(a+h)<65536) w=>(around_ok ((2^(a+h):Nat):Int) ((i*2^(a+h):Nat):Int) ((i*2^(a+h):Nat):Int) (by
     have:=i64_andNot_pow (n:=i*2^(a+h)) (e:=a+h) xo hah;rw [Nat.mul_div_cancel _ (Nat.two_pow_pos _)] at this;rw [←this];congr 1
     have:=Nat.two_pow_pos (a+h);omega) (by have:=Nat.two_pow_pos (a+h);omega) (by
     have:2^(a+h)*1≤2^(a+h)*2^(H-h):=Nat.mul_le_mul_left _ (Nat.two_pow_pos _);omega) xo xo w))
 rw [hWW];have hW0:=Nat.two_pow_pos (a+h);have hm0:=Nat.two_pow_pos (H-h);generalize 2^(a+h)=W at *;generalize 2^(H-h)=m at *;have hWb:W≤65536:=by
  have:W*1≤W*m:=Nat.mul_le_mul_left _ hm0;omega
 have hmb:m≤65536:=by
  have:1*m≤W*m:=Nat.mul_le_mul_right _ hW0;omega
 have hwr:IntKind.i64.wrap (seg*2^h)=(W:Int):=by rw [hshl];exact IntWalk.i64_in _ xo
 have hzb:((W*m:Nat):Int)≤65536:=xo;have HALL:=hid hall;have hHh:decide (H<h)=false:=by simp;omega
 clear k hWW hshl n5 n6 n7 hall;go_enter Tryd.func53,Tryd.ntmps53
 go_wp2_with (go_at_call 79;refine (AK.out _).mono ?_;rintro e w' ⟨rfl,rfl⟩)
 go_loopg [6,9] m (fun gk v iv wr=>∃i:Nat,i+gk=m∧iv= .int .i64 ((i*W:Nat):Int)∧Hid (wr.ownsRow w.heap.size 77 2 v i ((prI (rowL W i)).map (Value.int .i64)))∧Hid (Below w.heap.size w wr)∧w.heap.size≤wr.heap.size)
 case atStart=>exact ⟨0,by omega,by simp,hid (World.ownsRow_nil _ _ _ _),hid br,Nat.le_refl _⟩
 case round=>
  obtain ⟨i,hi,rfl,HO,HB,hz⟩:=hrel;obtain ⟨ao,co,rfl,-⟩:=owns_news HO.out;by_cases hlt:i<m
  · have hiw:(i+1)*W≤W*m:=by rw [Nat.mul_comm W];exact Nat.mul_le_mul_right _ hlt
    have hs:=rowL_succ W i;have hl1:(prI (rowL W i)).length=i*2:=by rw [prI_length,rowL_length]
    rw [Nat.succ_mul] at hiw;have A1:=hid (fun w=>AR.out i xo w);have HSU:=hid hs;have HAL:=HALL.out;have hgo:decide (((i*W:Nat):Int)<size)=true:=by simp;rw [HAL];omega
    have hnx:IntKind.i64.wrap (((i*W:Nat):Int)+W)=(((i+1)*W:Nat):Int):=by rw [Nat.succ_mul];push_cast;exact IntWalk.i64_in _ (by push_cast at hiw;omega)
    clear hs AR HAL;obtain ⟨f,hf⟩:∃f:Int,((i*W:Nat):Int)=f:=⟨_,rfl⟩
    rw [hf] at A1 HSU hgo hnx ⊢;clear hf hiw;go_wp2_with fail
    refine (A1.out _).mono ?_;rintro e w1 ⟨rfl,hb1⟩;have hz1:=hb1.size;have HB1:=xv hb1 HB;have HO1:=hid (owns_below HO.out hb1);clear hb1
    go_wp2_with (at_builtin;refine wpl_append (.tmp 34) (.tmp 40) 79 77 (.agg #[.int .i64 0,.int .i64 0]) 2 16 Tryd.underlying79 info_w2 rfl xdd xdd w.heap.size _ i _ (some ⟨w1.heap.size,0,none⟩) 1 1 [.int .i64 f,.int .i64 (f+W)] (HO1.out.alloc _) rfl xzc (new_cells _ [.int .i64 f,.int .i64 (f+W)] _ _ rfl) (by simp [Value.oneCell']) xo (by simp;omega) rfl rfl rfl rfl ?_;intro v2 w2 ho2 hg2 _
                 obtain ⟨a2,c2,rfl,-⟩:=owns_news ho2;have HO2:=hid ho2;have HG2:=hid hg2;clear ho2 hg2)
    have HB2:=hid ((HB1.out.alloc (by have:=HB1.out.size;omega) (.cells #[.int .i64 f,.int .i64 (f+W)] 77)).grown HG2.out (by simp;omega) (fun z hz=>by have:=(HO1.out.lt z hz).1;omega));have hz2:=HB2.out.size;go_roundg (gk-1)
    case measure=>omega
    case rel=>
     refine ⟨i+1,by omega,by first|rw [hnx]|rfl,hid ?_,HB2,hz2⟩;rw [HSU.out,prI_append,List.map_append];exact HO2.out
  · have him:m=i:=xo;subst him;have hgo:decide (((m*W:Nat):Int)<size)=false:=by simp;rw [HALL.out,Nat.mul_comm];omega
    clear AR;obtain ⟨f,hf⟩:∃f:Int,((m*W:Nat):Int)=f:=⟨_,rfl⟩
    rw [hf] at hgo ⊢;clear hf;go_wp2
    go_ret2
    refine ⟨_,rfl,?_,HB.out⟩;rw [rowL_length];exact HO.out
end
section
open Go.RowKit Go.Sort
end
section
open Go.RowKit
end
section
open Go.RowKit Go.Shelf
attribute [local go_sem] Oper.semAt_some
def Fact.laid {T:TypeId} (base:Nat) (t:TypeId) (he:t≠T) (vs:Array Value):Fact T:=
  ⟨fun v w=>∃b,v= .slice (some ⟨b,0,none⟩) 1 1∧base≤b∧w.heap[b]? =some (.cells vs t),fun _ _ _ h ⟨b,e,hb,hh⟩=>⟨b,e,hb,h.same _ _ hh (fun cs fr e=>by cases e;exact he rfl)⟩⟩
theorem plsW_getD {ws:List Int} {a b k:Nat} (h:k<(plsW ws a b).length):a≤(plsW ws a b).getD k 0∧(plsW ws a b).getD k 0<b:=by
 rw [List.getD_eq_getElem?_getD,List.getElem?_eq_getElem h];exact plsW_mem (List.getElem_mem h)
end
section
open Go.RowKit
end
section
open Go.RowKit
def risAt (l:List (Int×Int)) (i:Nat):Bool:=i==0||decide ((l.getD (i-1) (0,0)).1<(l.getD i (0,0)).1)
def risB (l:List (Int×Int)):Bool:=(List.range l.length).all (risAt l)
def seekE (c:SlC):Int:=if slMay c=true then (if risB (prs c 0 c.ks.length)=true then 0 else 130) else 8
theorem pr_get {l:List (Int×Int)} {W:World} {a:Option Addr} (h:IsRow .i64 W a (prI l)) {i:Nat} (hi:i<l.length):
    ∃b off,a=some ⟨b,off,none⟩∧W.cell? ⟨b,off+i*2,none⟩=some (.int .i64 (l.getD i (0,0)).1)∧W.cell? ⟨b,off+i*2+1,none⟩=some (.int .i64 (l.getD i (0,0)).2)∧b<W.heap.size:=by
 obtain ⟨g1,g2⟩:=prI_get hi;obtain ⟨b,off,x,y,e,hx,hy,c1,c2,hb⟩:=h.get2 (i:=i) (by rw [prI_length];omega);rw [←hx.out,g1] at c1;rw [←hy.out,g2] at c2;exact ⟨b,off,e,c1,c2,hb⟩
theorem seekCheck_ok (c:SlC) (a:SlA) (hl:c.ws.length≤1000000000000) (hl2:c.ks.length≤1000000000000) (w:World) (hin:SlIn w c a):
    Calls Tryd.prog 27 #[slV c a] w (AnsB w (.int .i64 (seekE c))):=by
 have PR:=hid (fun W (hb:Below w.heap.size w W)=>Pairs_ok c a hl hl2 0 c.ks.length W (hin.below hb));by_cases hm:slMay c=true
 · have he :partE c 0 c.ks.length=0:=by rw [partE,if_pos hm,if_pos xo]
   have hr:prsR c 0 c.ks.length=prs c 0 c.ks.length:=if_pos he;have hv:seekE c=if risB (prs c 0 c.ks.length)=true then 0 else 130:=if_pos hm
   rw [he,hr] at PR;have hlen:(prs c 0 c.ks.length).length≤65536:=by
    obtain ⟨S,M,-,-,-,hnk,-,-,-,hSM,-⟩:=slHead_facts (slMay_head hm);rw [prs_length];have:=cntW_le c.ws 0 c.ks.length;omega
   obtain ⟨R,hR⟩:∃R,seekE c=R:=⟨_,rfl⟩
   have HR:=hid (hR.symm.trans hv);rw [hR];generalize prs c 0 c.ks.length=L at *;obtain ⟨seg,ws,ks,vs,cs,laid⟩:=c;obtain ⟨wa,ka,va,ca,wc,kc,vc,cc⟩:=a;dsimp only [slV] at *;clear hin hm he hr hv hR hl hl2;go_enter Tryd.func27,Tryd.ntmps27
   go_wp2_with fail
   refine (PR.out _ (br.alloc (Nat.le_refl _) _)).mono ?_;rintro e w1 ⟨vl,rfl,hol,hb1⟩;have hz_w1:=hb1.size;try simp only [World.size_alloc,World.size_setCell] at hz_w1
   have c_t0:w1.cell? ⟨w.heap.size,0,none⟩=some (.int .i64 seg):=xjt hb1 xlt xcn;have c_t1:w1.cell? ⟨w.heap.size,1,none⟩=some (.slice wa ws.length wc):=xjt hb1 xlt xcn;have c_t2:w1.cell? ⟨w.heap.size,2,none⟩=some (.slice ka ks.length kc):=xjt hb1 xlt xcn;have c_t3:w1.cell? ⟨w.heap.size,3,none⟩=some (.slice va vs.length vc):=xjt hb1 xlt xcn;have c_t4:w1.cell? ⟨w.heap.size,4,none⟩=some (.slice ca cs.length cc):=xjt hb1 xlt xcn;have c_t5:w1.cell? ⟨w.heap.size,5,none⟩=some (.int .u64 laid):=xjt hb1 xlt xcn;have z_t:w.heap.size<w1.heap.size:=xo;have hB1:Below w.heap.size w w1:=xbel;obtain ⟨la,lc,rfl,hil,-,-,-,-⟩:=row_of_owns hol;have HRL:=hid hil;have HB1:=hid hB1;obtain ⟨m,hmm⟩:∃m,L.length=m:=⟨_,rfl⟩
   rw [hmm] at hlen ⊢;have HML:=hid hmm;clear hb1 hB1 hol hil hmm;go_wp2
   go_loopg [20] m (fun gk iv wr=>∃k:Nat,k+gk=m∧iv= .int .i64 k∧Hid (Below w.heap.size w wr)∧Hid (Below w1.heap.size w1 wr)∧Hid (∀j,j<k→risAt L j=true))
   case atStart=>exact ⟨0,by omega,rfl,HB1,hid br,hid (fun j h=>by omega)⟩
   case round=>
    obtain ⟨k,hk,rfl,HB,HBL,HA⟩:=hrel;have hz:=HB.out.size;by_cases hlt:k<m
    · obtain ⟨bl,ol,rfl,c0,c1,zl⟩:=pr_get (HRL.out.below HBL.out) (i:=k) (by rw [HML.out];exact hlt);have hra:risAt L k=(k==0||decide ((L.getD (k-1) (0,0)).1<(L.getD k (0,0)).1)):=rfl;have HK2:=hid hk;have hz1:=HBL.out.size;by_cases hk0:k=0
      · subst hk0;generalize (L.getD 0 (0,0)).1=x at *;generalize (L.getD 0 (0,0)).2=y at *;have HRA:=hid hra;have g0:decide ((0:Int)>0)=false:=rfl;simp only [Nat.zero_mul,Nat.add_zero] at c0 c1;clear hra;go_wp2
        have p0:(wr.alloc (.cells #[.int .i64 x,.int .i64 y] 59)).cell? ⟨wr.heap.size,0,none⟩=some (.int .i64 x):=xcw;go_quiet (fail)
        go_wp2
        go_roundg (gk-1)
        case measure=>have:=HK2.out;omega
        case rel=>
         refine ⟨1,by have:=HK2.out;omega,rfl,hid (below_drewN (HB.out.alloc hz _) _),hid (below_drewN (HBL.out.alloc hz1 _) _),hid (fun j hj=> ?_)⟩;rw [show j=0 by omega];rfl
      · obtain ⟨q,rfl⟩:∃q,k=q+1:=⟨k-1,by omega⟩
        obtain ⟨bl',ol',hbe,e0,e1,-⟩:=pr_get (HRL.out.below HBL.out) (i:=q) (by rw [HML.out];omega);cases hbe;rw [Nat.add_sub_cancel] at hra;generalize (L.getD (q+1) (0,0)).1=x at *;generalize (L.getD (q+1) (0,0)).2=y at *;generalize (L.getD q (0,0)).1=z at *;have g0:decide ((q:Int)+1>0)=true:=by simp<;>omega
        have hqI:((q+1:Nat):Int)=(q:Int)+1:=xo;by_cases hxz:z<x
        · have HRA:=hid hra;have g1:decide (x≤z)=false:=by simp;omega
          clear hra;go_wp2
          have p0:(wr.alloc (.cells #[.int .i64 x,.int .i64 y] 59)).cell? ⟨wr.heap.size,0,none⟩=some (.int .i64 x):=xcw;replace e0:=(((Below.refl _ wr).alloc (Nat.le_refl _) (.cells #[.int .i64 x,.int .i64 y] 59)).cell (World.block_lt_of_cell? _ _ e0)).trans e0;go_quiet (fail)
          go_wp2
          go_roundg (gk-1)
          case measure=>have:=HK2.out;omega
          case rel=>
           refine ⟨q+2,by have:=HK2.out;omega,by go_num,hid (below_drewN (HB.out.alloc hz _) _),hid (below_drewN (HBL.out.alloc hz1 _) _),hid (fun j hj=> ?_)⟩;by_cases e:j=q+1
           · rw [e,HRA.out];simp [hxz]
           · exact HA.out j xo
        · have hR:R=130:=by
            rw [HR.out,if_neg];intro h;have:=all_upto.1 h (q+1) (by rw [HML.out];exact hlt);rw [hra] at this;simp [hxz] at this
          subst hR;have g1:decide (x≤z)=true:=by simp;omega
          clear hra;go_wp2
          have p0:(wr.alloc (.cells #[.int .i64 x,.int .i64 y] 59)).cell? ⟨wr.heap.size,0,none⟩=some (.int .i64 x):=xcw;replace e0:=(((Below.refl _ wr).alloc (Nat.le_refl _) (.cells #[.int .i64 x,.int .i64 y] 59)).cell (World.block_lt_of_cell? _ _ e0)).trans e0;go_quiet (fail)
          go_wp2
          go_ret
          exact ⟨rfl,below_drewN (HB.out.alloc hz _) _⟩
    · have hR:R=0:=by
        rw [HR.out,if_pos (show risB L=true from all_upto.2 (fun j hj=>HA.out j (by have:=HML.out;omega)))]
      subst hR;go_wp2
      go_ret
      exact ⟨rfl,HB.out⟩
 · have he:partE c 0 c.ks.length=8:=if_neg hm;have hv:seekE c=8:=if_neg hm;rw [he] at PR;rw [hv];obtain ⟨seg,ws,ks,vs,cs,laid⟩:=c;obtain ⟨wa,ka,va,ca,wc,kc,vc,cc⟩:=a;dsimp only [slV] at *;clear hin hm he hv hl hl2;go_enter Tryd.func27,Tryd.ntmps27
   go_wp2_with fail
   refine (PR.out _ (br.alloc (Nat.le_refl _) _)).mono ?_;rintro e w1 ⟨vl,rfl,hol,hb1⟩;have hz_w1:=hb1.size;try simp only [World.size_alloc,World.size_setCell] at hz_w1
   have hB1:Below w.heap.size w w1:=xbel;go_wp2
   go_ret
   exact ⟨rfl,hB1⟩
end
end Go.Proofs.YtmnlagmmbfjbeaaDoor

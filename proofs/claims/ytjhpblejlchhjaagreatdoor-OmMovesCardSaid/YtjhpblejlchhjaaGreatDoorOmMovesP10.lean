/- Merged: FilS, Filled, Spr, LoadW, GapLd, PmNw, PmSl, PmSm, Tab, TabTwin, TabIt, TabCk, TabFind, TabLv, TabAsk. -/
import Derived.Test.YtjhpblejlchhjaaGreatDoorOmMovesP9
import Derived.Test.YtjhpblejlchhjaaGreatDoorOmMovesP3
import Derived.Test.YtjhpblejlchhjaaGreatDoorOmMovesP6
import Derived.Test.YtjhpblejlchhjaaGreatDoorOmMovesP1
import Derived.Deep.CutRange
import Derived.Test.YtjhpblejlchhjaaGreatDoorOmMovesP7
import Derived.Test.YtjhpblejlchhjaaGreatDoorOmMovesP4
import Derived.Test.YtjhpblejlchhjaaGreatDoorOmMovesP5
import Derived.Test.YtjhpblejlchhjaaGreatDoorOmMovesP2
import Derived.BigRegion
import Derived.Lib.SliceRun
namespace Go.Proofs.YtjhpblejlchhjaaGreatDoor
set_option maxRecDepth 100000
set_option maxHeartbeats 40000000
set_option linter.unusedVariables false
set_option linter.unusedSimpArgs false
section
open Go.RowKit
structure FilS (B:Nat) (W:World) (b g1 g2 g3 g4 k1 k2 k3 k4 lw n lc:Nat) (c:SlC):Prop where
 c0:W.cell? ⟨b,0,none⟩=some (.int .i64 c.seg)
 c1:W.cell? ⟨b,1,none⟩=some (.slice (some ⟨g1,0,none⟩) lw k1)
 c2:W.cell? ⟨b,2,none⟩=some (.slice (some ⟨g2,0,none⟩) n k2)
 c3:W.cell? ⟨b,3,none⟩=some (.slice (some ⟨g3,0,none⟩) n k3)
 c4:W.cell? ⟨b,4,none⟩=some (.slice (some ⟨g4,0,none⟩) lc k4)
 c5:W.cell? ⟨b,5,none⟩=some (.int .u64 c.laid)
 f1:W.frozen? ⟨b,1,none⟩=false
 f5:W.frozen? ⟨b,5,none⟩=false
 o1:W.ownsRow B 27 1 (.slice (some ⟨g1,0,none⟩) lw k1) lw (c.ws.map (Value.int .u64))
 o2:W.ownsRow B 2 1 (.slice (some ⟨g2,0,none⟩) n k2) n (c.ks.map (Value.int .i64))
 o3:W.ownsRow B 2 1 (.slice (some ⟨g3,0,none⟩) n k3) n (c.vs.map (Value.int .i64))
 o4:W.ownsRow B 3 1 (.slice (some ⟨g4,0,none⟩) lc k4) lc (c.cs.map (Value.int .i64))
 bB:b<B
 n23:g2≠g3
theorem owns_ne {w:World} {B g g' n n' k k':Nat} {e e':TypeId} {xs xs':List Value} (ha:w.ownsRow B e 1 (.slice (some ⟨g,0,none⟩) n k) n xs) (hb:w.ownsRow B e' 1 (.slice (some ⟨g',0,none⟩) n' k') n' xs') (hc:e≠e'):g≠g':=by
 rcases owns_apart ha hb hc with h|h
 · cases h
 · intro hgg;exact h (by subst hgg;rfl)
section
variable {B b g1 g2 g3 g4 k1 k2 k3 k4 lw n lc:Nat} {W W':World} {c:SlC}
theorem FilS.nums (h:FilS B W b g1 g2 g3 g4 k1 k2 k3 k4 lw n lc c):B≤g1∧B≤g2∧B≤g3∧B≤g4∧g1<W.heap.size∧g2<W.heap.size∧g3<W.heap.size∧g4<W.heap.size∧g1≠g2∧g1≠g3∧g1≠g4∧g2≠g4∧g3≠g4∧b<W.heap.size:=
  ⟨(h.o1.lt g1 rfl).1,(h.o2.lt g2 rfl).1,(h.o3.lt g3 rfl).1,(h.o4.lt g4 rfl).1,(h.o1.lt g1 rfl).2,(h.o2.lt g2 rfl).2,(h.o3.lt g3 rfl).2,(h.o4.lt g4 rfl).2,owns_ne h.o1 h.o2 xdd,owns_ne h.o1 h.o3 xdd,owns_ne h.o1 h.o4 xdd,owns_ne h.o2 h.o4 xdd,owns_ne h.o3 h.o4 xdd,World.block_lt_of_cell? _ _ h.c0⟩
theorem FilS.heap (h:FilS B W b g1 g2 g3 g4 k1 k2 k3 k4 lw n lc c) (hb:W'.heap[b]? =W.heap[b]?) (h1:W'.heap[g1]? =W.heap[g1]?) (h2:W'.heap[g2]? =W.heap[g2]?) (h3:W'.heap[g3]? =W.heap[g3]?) (h4:W'.heap[g4]? =W.heap[g4]?):FilS B W' b g1 g2 g3 g4 k1 k2 k3 k4 lw n lc c:=
  ⟨(World.cell?_of_block (a:=⟨b,0,none⟩) hb).trans h.c0,(World.cell?_of_block (a:=⟨b,1,none⟩) hb).trans h.c1,(World.cell?_of_block (a:=⟨b,2,none⟩) hb).trans h.c2,(World.cell?_of_block (a:=⟨b,3,none⟩) hb).trans h.c3,(World.cell?_of_block (a:=⟨b,4,none⟩) hb).trans h.c4,(World.cell?_of_block (a:=⟨b,5,none⟩) hb).trans h.c5,
    (World.frozen?_of_block (a:=⟨b,1,none⟩) hb).trans h.f1,(World.frozen?_of_block (a:=⟨b,5,none⟩) hb).trans h.f5,
    owns_heap h.o1 fun j hj=>by cases hj;exact h1,owns_heap h.o2 fun j hj=>by cases hj;exact h2,owns_heap h.o3 fun j hj=>by cases hj;exact h3,owns_heap h.o4 fun j hj=>by cases hj;exact h4,h.bB,h.n23⟩
theorem FilS.below (h:FilS B W b g1 g2 g3 g4 k1 k2 k3 k4 lw n lc c) (hb:Below W.heap.size W W'):FilS B W' b g1 g2 g3 g4 k1 k2 k3 k4 lw n lc c:=by
 have q:=h.nums;exact h.heap (hb.block _ xo) (hb.block _ xo) (hb.block _ xo) (hb.block _ xo) (hb.block _ xo)
theorem FilS.drew (h:FilS B W b g1 g2 g3 g4 k1 k2 k3 k4 lw n lc c):FilS B W.drew b g1 g2 g3 g4 k1 k2 k3 k4 lw n lc c:=h.heap rfl rfl rfl rfl rfl
theorem FilS.setL (h:FilS B W b g1 g2 g3 g4 k1 k2 k3 k4 lw n lc c) (y:Int):FilS B (W.setCell ⟨b,5,none⟩ (.int .u64 y)) b g1 g2 g3 g4 k1 k2 k3 k4 lw n lc ⟨c.seg,c.ws,c.ks,c.vs,c.cs,y⟩:=by
 have q:=h.nums;have hbB:=h.bB;have hk:∀z,z≠b→(W.setCell ⟨b,5,none⟩ (.int .u64 y)).heap[z]? =W.heap[z]? :=fun z hz=>heap_setCell_ne _ _ _ hz
 exact ⟨set_keep xsi h.c0,set_keep xsi h.c1,set_keep xsi h.c2,set_keep xsi h.c3,set_keep xsi h.c4,World.cell?_setCell_same _ _ _ h.c5,
   by rw [World.frozen?_setCell];exact h.f1,by rw [World.frozen?_setCell];exact h.f5,
   owns_heap h.o1 fun j hj=>by cases hj;exact hk _ xdo,owns_heap h.o2 fun j hj=>by cases hj;exact hk _ xdo,owns_heap h.o3 fun j hj=>by cases hj;exact hk _ xdo,owns_heap h.o4 fun j hj=>by cases hj;exact hk _ xdo,h.bB,h.n23⟩
end
end
section
open Go.RowKit Go.Shelf
attribute [local go_sem] Oper.semAt_some
structure FilK (w w2 W:World):Prop where
 bel:Below w.heap.size w W
 keep:∀q,q<w.heap.size+2→q≠w.heap.size→W.heap[q]? =w2.heap[q]?
 size:w.heap.size+2≤W.heap.size
theorem FilK.below {w w2 W W':World} (h:FilK w w2 W) (hb:Below W.heap.size W W'):FilK w w2 W':=
  ⟨below_via hb h.bel (by have:=h.size;omega),fun q hq hne=>(hb.block q (by have:=h.size;omega)).trans (h.keep q hq hne),Nat.le_trans h.size hb.size⟩
theorem FilK.drew {w w2 W:World} (h:FilK w w2 W):FilK w w2 W.drew:=⟨h.bel.drew,h.keep,h.size⟩
theorem FilK.setCell {w w2 W:World} (h:FilK w w2 W) {a:Addr} (ha:a.block=w.heap.size∨w.heap.size+2≤a.block) (v:Value):FilK w w2 (W.setCell a v):=
  ⟨h.bel.setCell xo v,fun q hq hne=>(heap_setCell_ne _ _ _ xo).trans (h.keep q hq hne),by rw [World.size_setCell];exact h.size⟩
end
section
open Go.RowKit
def CapsZ (a:SlA):Prop:=(a.wa=none→a.wc=0)∧(a.ka=none→a.kc=0)∧(a.va=none→a.vc=0)∧(a.ca=none→a.cc=0)
theorem gd_may {c:SlC} {S lw n lc:Nat} (h:SlGd c S lw n lc) (hS:pwB (S:Int)=true) (hM:pwB (lc:Int)=true) (hlw:lw=(n+63)/64):slMay c=true:=by
 have hlc1:1≤lc:=by
  rcases Nat.eq_zero_or_pos lc with e|e
  · rw [e] at hM;cases hM
  · exact e
 have h4:=h.s4;have hn:(n:Int)/(S:Int)=lc:=by
  rw [h.cn,Int.natCast_mul,Int.mul_ediv_cancel_left _ xo]
 have hn2:(n:Int)%(S:Int)=0:=by
  rw [h.cn,Int.natCast_mul,Int.mul_emod_right]
 have hle:S*1≤S*lc:=Nat.mul_le_mul_left _ hlc1;simp only [slMay,slHead,fitB,wMayB,clrB,cntB,Bool.and_eq_true,decide_eq_true_eq,List.all_eq_true];rw [h.elk,h.elv,h.elw,h.elc,h.seg,hn,hn2];refine ⟨⟨⟨⟨⟨⟨⟨⟨⟨⟨⟨by have:=h.s4;omega,by have:=h.s64;omega⟩,hS⟩,by have:=h.cn;omega⟩,by have:=h.nm;omega⟩,rfl⟩,hM⟩,rfl⟩,hlw,?_⟩,rfl⟩,?_⟩,?_⟩
 · intro i hi;have:=(List.mem_range'_1.1 hi).1;rw [h.hi i this];rfl
 · intro i hi;cases hb:bitW c.ws i with
   | true=>rfl
   | false=>
    have:=h.clr i hb;simp only [Bool.false_or,Bool.and_eq_true,beq_iff_eq];exact this
 · intro k hk;have:=h.cnt k (List.mem_range.1 hk);rw [Int.toNat_natCast,this,beq_self_eq_true]
theorem gd_fit {c:SlC} {S lw n lc:Nat} (h:SlGd c S lw n lc) (hm:slMay c=true):fitB (S:Int) n=true:=by
 simp only [slMay,slHead,Bool.and_eq_true] at hm;have:=hm.1.1.1.1.1;rwa [h.elk,h.seg] at this
theorem over_ok {c:SlC} {S lw n lc:Nat} (h:SlGd c S lw n lc) (hm:slMay c=true) (sa:SlA) (lo hi:Nat) (hlo:lo≤hi) (hhi:hi≤n) (L:List (Int×Int)) (hL:L.length≤hi-lo) (la:Option Addr) (pl:Nat) (w:World) (hin:SlIn w c sa) (hla:IsRow .i64 w la (prI L)):
    Calls Tryz.prog 126 #[slV c sa,.int .i64 lo,.int .i64 hi,.slice la L.length pl] w (FreshSl2 w (spC c lo hi L) (.int .i64 0)):=by
 have n1:=h.n1;have nm:=h.nm;have s4:=h.s4;have wn:=h.wn;have hlc:0<lc:=by
  rcases Nat.eq_zero_or_pos lc with e|e
  · have:=h.cn;rw [e] at this;omega
  · exact e
 have hlc2:lc≤65536:=by
  have h9:1*lc≤S*lc:=Nat.mul_le_mul_right _ xo;have:=h.cn;omega
 have hlw2:lw≤65536:=by
  have:=slHead_facts (slMay_head hm);obtain ⟨S',M,-,-,-,b3,-,-,-,b7,-,b9,-⟩:=this;rw [h.elw] at b9;omega
 refine over_core w c.seg sa.wa sa.ka sa.va sa.ca sa.wc sa.kc sa.vc sa.cc c.ws.length c.ks.length c.vs.length c.cs.length c.laid lo hi L.length (ints (plR L.length lo hi)) la pl (spC c lo hi L) (by rw [ints_length,plR_length]) (hid fun W hb=> ?_) (hid fun W hb=>Places_ok L.length lo hi hlo xo hL W) (hid fun W pa pc hb hp=> ?_)
 · have:=slCheck_ok c sa (by rw [h.elw];omega) (by rw [h.elk];omega) W (hin.below hb);rwa [show slE c=0 by simp [slE,hm]] at this
 · have hin2:=hin.below hb;have e1:=h.elw;have e2:=h.elk;have e3:=h.elv;have e4:=h.elc;rw [e1,e2,e3,e4];refine slFill_core W c.seg sa.wa sa.ka sa.va sa.ca sa.wc sa.kc sa.vc sa.cc lw n lc c.laid c lo hi L.length S (plR L.length lo hi) L pa la pc pl rfl rfl e1 e2 e3 e4 xo xo hlc nm hlw2 hlc2 h.seg s4 hlo hhi wn h.cn (plR_length _ _ _) rfl xo (fun k hk=>plR_pv hk hL) (fun j hj=>(h.tks j xo).ok) (fun k hk=>(SlGd.lys (h.tks (hi-lo) xo) (fun k=>plR_ltn hL hhi xo k) L k).ok) (hid hp) (hid (hla.below hb)) (hid fun W' hb'=> ?_) (hid fun W' hb'=> ?_)
   · have:=part_ok c sa (by rw [e1];omega) (by rw [e2];omega) lo hi W' (hin2.below hb');rw [show partE c lo hi=0 by unfold partE;rw [if_pos hm,if_pos (by rw [e2];omega)]] at this;simpa only [slV,e1,e2,e3,e4] using this
   · have:=slTwin_ok c sa W' (hin2.below hb') (by rw [e1];omega) (by rw [e2];omega) (by rw [e3];omega) (by rw [e4];omega);simpa only [slV,e1,e2,e3,e4] using this
def emptyL (S M:Nat) (laid:Int):SlC:=⟨S,List.replicate ((S*M+63)/64) 0,List.replicate (S*M) 0,List.replicate (S*M) 0,List.replicate M 0,laid⟩
theorem emptyL_gd {S M:Nat} (h4:4≤S) (h6:S≤64) (hM:1≤M) (hm:S*M≤65536) (laid:Int):SlGd (emptyL S M laid) S ((S*M+63)/64) (S*M) M:=by
 have z:=zero_gd h4 h6 hM hm (lw:=(S*M+63)/64) rfl;exact ⟨z.seg,z.elw,z.elk,z.elv,z.elc,z.s4,z.s64,z.cn,z.wn,z.n1,z.nm,z.u,z.cnt,z.hi,z.clr⟩
def wideC (S M:Nat) (laid:Int) (L:List (Int×Int)):SlC:=spC (emptyL S M laid) 0 (S*M) L
theorem new_nums {S M:Nat} (h4:4≤S) (hm:S*M≤65536):(((S*M:Nat):Int)+63).tdiv 64=((S*M+63)/64:Nat)∧((S*M:Nat):Int).tdiv S=M∧(S*M+63)/64≤2000∧M≤65536:=by
 have h9:1*M≤S*M:=Nat.mul_le_mul_right _ xo;refine ⟨?_,?_,by omega,by omega⟩
 · rw [Int.tdiv_eq_ediv_of_nonneg xo];omega
 · rw [Int.tdiv_eq_ediv_of_nonneg xo,Int.natCast_mul,Int.mul_ediv_cancel_left _ xo]
theorem Into_ok {c:SlC} {S lw n lc:Nat} (h:SlGd c S lw n lc) (hm:slMay c=true) (sa:SlA) (M:Nat) (hM:1≤M) (hS:pwB (S:Int)=true) (hMp:pwB (M:Int)=true) (hsm:S*M≤65536) (L:List (Int×Int)) (hL:L.length≤S*M) (la:Option Addr) (pl:Nat) (w:World) (hin:SlIn w c sa) (hla:IsRow .i64 w la (prI L)):
    Calls Tryz.prog 74 #[slV c sa,.int .i64 ((S*M:Nat):Int),.slice la L.length pl] w (FreshSl2 w (wideC S M c.laid L) (.int .i64 0)):=by
 obtain ⟨q1,q2,q3,q4⟩:=new_nums (M:=M) h.s4 hsm;have ge:=emptyL_gd h.s4 h.s64 hM hsm c.laid;have gm:=gd_may ge hS hMp rfl;refine Into_core w c.seg sa.wa sa.ka sa.va sa.ca sa.wc sa.kc sa.vc sa.cc c.ws.length c.ks.length c.vs.length c.cs.length c.laid (S*M) L.length la pl (zeroSl S (S*M) ((S*M+63)/64) M) (wideC S M c.laid L) ge.u (hid fun W hb=> ?_) (hid fun W hb=> ?_) (hid fun W sa' hb hi z1 z2 z3 z4=> ?_)
 · have:=slCheck_ok c sa (by rw [h.elw];have:=slHead_facts (slMay_head hm);obtain ⟨S',M',-,-,-,b3,-,-,-,b7,-,b9,-⟩:=this;rw [h.elw] at b9;omega) (by rw [h.elk];have:=h.nm;omega) W (hin.below hb);rwa [show slE c=0 by simp [slE,hm]] at this
 · rw [h.seg];refine slNew_core W S (S*M) ((S*M+63)/64) M h.s4 hsm h.s64 q1 q2 xo q4 (hid fun W'=> ?_);have:=fits_ok (S:Int) ((S*M:Nat):Int) W';rwa [gd_fit ge gm] at this
 · exact over_ok ge gm sa' 0 (S*M) (Nat.zero_le _) (Nat.le_refl _) L xo la pl W hi (hla.below hb)
end
section
open Go.RowKit Go.Shelf
attribute [local go_sem] Oper.semAt_some
end
section
open Go.RowKit
theorem cap_nat {c:Cfg} (hd:cfHead c=true) {a:Nat} (hs:c.seg=((2^a:Nat):Int)) {n:Int} (h0:0≤n) (h1:n≤16384):∃H:Nat,taks c n=((2^a*2^H:Nat):Int)∧2^a*2^H≤65536∧n≤taks c n:=by
 have f:=cfHead_facts hd;obtain ⟨d0,d1,d2,d3,d4,d5,d6,d7,d8,d9,d10,d11,d12,d13,d14,d15,d16,d17⟩:=cfHead_num hd;have tb:=taks_bd hd h0 h1;obtain ⟨l1,l2,b,eb⟩:=powB_nat f.2.2.2.2.2.1;have hab:a≤b:=(Nat.pow_le_pow_iff_right (a:=2) xo).1 xo;obtain ⟨j,-,ej⟩:=takF_pow c n 20 c.least;have e:taks c n=((2^a*2^(b-a+j):Nat):Int):=by
  rw [taks,ej,eb,←Nat.pow_add,show a+(b-a+j)=b+j by omega,Nat.pow_add];push_cast
  rfl
 refine ⟨b-a+j,e,by omega,?_⟩;have ht:=takF_takes (c:=c) (n:=n) xo 20 c.least xo (tak_start h0 h1 xo d8 d9).1;have m1:c.rh*taks c n≤c.den*taks c n:=Int.mul_le_mul_of_nonneg_right xo xo;have m2:c.den*n≤c.den*taks c n:=by
  rw [Int.mul_comm c.den n];exact Int.le_trans ht m1
 exact Int.le_of_mul_le_mul_left m2 xo
theorem gap_zero {c:Cfg} {s:SlC} (h:gapE c s=0):cfMay c=true∧∃a H,GapN c s a H∧s.seg=c.seg∧sumC s.cs 0 s.cs.length≤c.most∧denB c s H=true:=by
 unfold gapE at h;split at h
 · rename_i hc
   split at h
   · rename_i hg
     have hg':=hg;simp only [gapMay,gapHead,Bool.and_eq_true,decide_eq_true_eq] at hg;obtain ⟨⟨⟨⟨h1,h2⟩,h3⟩,h4⟩,h5⟩:=hg;obtain ⟨a,H,k⟩:=gapN_of hc h3 h1 h2;exact ⟨hc,a,H,k,h2,h4,by rw [←k.cap.hgt];exact h5⟩
   · cases h
 · cases h
def nilC:SlC:=⟨0,[],[],[],[],0⟩
def capM (c:Cfg) (n:Nat):Nat:=(taks c n).toNat/c.seg.toNat
theorem cap_facts {c:Cfg} {s:SlC} {a H:Nat} (k:GapN c s a H) {n:Nat} (hn:(n:Int)≤c.most):c.seg.toNat=2^a∧taks c n=((2^a*capM c n:Nat):Int)∧1≤capM c n∧2^a*capM c n≤65536∧n≤2^a*capM c n∧pwB (capM c n:Int)=true:=by
 have hd:=cfMay_head k.cap.may;have d:=cfHead_num hd;obtain ⟨H',e,hb,hle⟩:=cap_nat hd k.cap.seg (n:=(n:Int)) xo xo;have hs:c.seg.toNat=2^a:=by rw [k.cap.seg];rfl
 have hm:capM c n=2^H':=by
  rw [capM,e,hs,Int.toNat_natCast,Nat.mul_div_cancel_left _ (Nat.two_pow_pos a)]
 rw [hm];exact ⟨hs,e,Nat.two_pow_pos H',hb,by omega,pwB_two H'⟩
theorem gapN_gd {c:Cfg} {s:SlC} {a H:Nat} (k:GapN c s a H) (hu:U64s s.ws):SlGd s (2^a) ((s.ks.length+63)/64) s.ks.length (2^H)∧(s.ks.length+63)/64≤2000:=by
 obtain ⟨S,M,g,-,-,-⟩:=slMay_gd hu k.may;have e1:S=2^a:=by have:=g.seg;have:=k.seg;omega
 have e2:M=2^H:=by have:=g.elc;have:=k.nc;omega
 have e3:=g.elk;subst e1 e2;have hb:=k.cap.big;rw [←e3] at g;have:=k.nk;exact ⟨g,by omega⟩
end
section
open Go.RowKit
theorem least_nums {c:Cfg} (h:cfMay c=true):∃S M:Nat,c.seg=S∧c.least=((S*M:Nat):Int)∧4≤S∧S≤64∧1≤M∧S*M≤65536∧pwB (S:Int)=true∧pwB (M:Int)=true:=by
 have f:=cfHead_facts (cfMay_head h);obtain ⟨s1,s2,a,ea⟩:=powB_nat f.2.2.2.2.1;obtain ⟨l1,l2,b,eb⟩:=powB_nat f.2.2.2.2.2.1;have hab:a≤b:=(Nat.pow_le_pow_iff_right (a:=2) xo).1 xo;have e:2^b=2^a*2^(b-a):=by rw [←Nat.pow_add,show a+(b-a)=b by omega]
 exact ⟨2^a,2^(b-a),ea,by rw [eb,e],by omega,by omega,Nat.two_pow_pos _,by rw [←e];omega,pwB_two _,pwB_two _⟩
def emptyC (c:Cfg):SlC:=emptyL c.seg.toNat (c.least.toNat/c.seg.toNat) 0
def newC (c:Cfg):SlC:=if cfMay c=true then emptyC c else nilC
def newF (c:Cfg):Cfg:=if cfMay c=true then c else ⟨0,0,0,0,0,0,0,0,0⟩
theorem emptyC_eq {c:Cfg} {S M:Nat} (h1:c.seg=S) (h2:c.least=((S*M:Nat):Int)) (h4:4≤S):emptyC c=emptyL S M 0:=by
 rw [emptyC,h1,h2,Int.toNat_natCast,Int.toNat_natCast,Nat.mul_div_cancel_left _ xo]
theorem newSl_ok {c:Cfg} (h:cfMay c=true) (w:World):Calls Tryz.prog 94 #[.int .i64 c.seg,.int .i64 c.least] w (FreshSl2 w (emptyC c) (.int .i64 0)):=by
 obtain ⟨S,M,h1,h2,h4,h6,hM,hm,pS,pM⟩:=least_nums h;obtain ⟨q1,q2,q3,q4⟩:=new_nums (M:=M) h4 hm;rw [emptyC_eq h1 h2 h4,h1,h2];have ge:=emptyL_gd h4 h6 hM hm 0;have gm:=gd_may ge pS pM rfl;refine slNew_core w S (S*M) ((S*M+63)/64) M h4 hm h6 q1 q2 xo q4 (hid fun W'=> ?_);have:=fits_ok (S:Int) ((S*M:Nat):Int) W';rwa [gd_fit ge gm] at this
theorem gapNew_err (c:Cfg) (e:Int) (he:e≠0) (w:World) (CK:Hid (∀W,Calls Tryz.prog 87 #[.agg #[.int .u8 c.tag,.int .i64 c.most,.int .i64 c.seg,.int .i64 c.least,.int .i64 c.den,.int .i64 c.ll,.int .i64 c.rl,.int .i64 c.rh,.int .i64 c.lh]] W (AnsB W (.int .i64 e)))):
    Calls Tryz.prog 55 #[.agg #[.int .u8 c.tag,.int .i64 c.most,.int .i64 c.seg,.int .i64 c.least,.int .i64 c.den,.int .i64 c.ll,.int .i64 c.rl,.int .i64 c.rh,.int .i64 c.lh]] w (FreshSl2 w nilC (.int .i64 e)):=by
 have ge:(e != 0)=true:=by simpa using he
 clear he;go_enter Tryz.func55,Tryz.ntmps55
 go_wp2_with fail
 refine (CK.out _).mono ?_;rintro e w1 ⟨rfl,hb1⟩;have hz_w1:=hb1.size;try simp only [World.size_alloc,World.size_setCell] at hz_w1
 have hh:=bc9 hb1 (au9 (al9 (b:=w.heap.size) xsi));obtain ⟨c_t0,c_t1,c_t2,c_t3,c_t4,c_t5,c_t6,c_t7,c_t8⟩:=hh;have z_t:=blt hb1 (auz (alz (b:=w.heap.size) xsi));have hh:=bc6 hb1 (al6 (b:=w.heap.size+1) xsi);obtain ⟨c_r0,c_r1,c_r2,c_r3,c_r4,c_r5⟩:=hh;have hh:=bf6 hb1 (alz (b:=w.heap.size+1) xsi) (alf6 (b:=w.heap.size+1) xsi);obtain ⟨f_r0,f_r1,f_r2,f_r3,f_r4,f_r5⟩:=hh;have z_r:=blt hb1 (alz (b:=w.heap.size+1) xsi);have hB1:Below w.heap.size w w1:=xbel;go_wp2
 have HC:=hid (six_some ⟨c_r0,c_r1,c_r2,c_r3,c_r4,c_r5⟩);exact end_row (W:=w1) (b:=w.heap.size+1) [.int .i64 0,.slice none 0 0,.slice none 0 0,.slice none 0 0,.slice none 0 0,.int .u64 0] HC rfl rfl (fun _ h=>results_ct rfl rfl (run_loadVar_many _ Tryz.underlying29 rfl xk h)) fun _ s=>⟨_,_,_,_,rfl,World.ownsRow_nil _ _ _ _,World.ownsRow_nil _ _ _ _,World.ownsRow_nil _ _ _ _,World.ownsRow_nil _ _ _ _,s.be hB1⟩
theorem gapNew_in (c:Cfg) (d:SlC) (w:World) (CK:Hid (∀W,Calls Tryz.prog 87 #[.agg #[.int .u8 c.tag,.int .i64 c.most,.int .i64 c.seg,.int .i64 c.least,.int .i64 c.den,.int .i64 c.ll,.int .i64 c.rl,.int .i64 c.rh,.int .i64 c.lh]] W (AnsB W (.int .i64 0)))) (NW:Hid (∀W,Calls Tryz.prog 94 #[.int .i64 c.seg,.int .i64 c.least] W (FreshSl2 W d (.int .i64 0)))):
    Calls Tryz.prog 55 #[.agg #[.int .u8 c.tag,.int .i64 c.most,.int .i64 c.seg,.int .i64 c.least,.int .i64 c.den,.int .i64 c.ll,.int .i64 c.rl,.int .i64 c.rh,.int .i64 c.lh]] w (FreshSl2 w d (.int .i64 0)):=by
 go_enter Tryz.func55,Tryz.ntmps55
 go_wp2_with fail
 refine (CK.out _).mono ?_;rintro e w1 ⟨rfl,hb1⟩;have hz_w1:=hb1.size;try simp only [World.size_alloc,World.size_setCell] at hz_w1
 have hh:=bc9 hb1 (au9 (al9 (b:=w.heap.size) xsi));obtain ⟨c_t0,c_t1,c_t2,c_t3,c_t4,c_t5,c_t6,c_t7,c_t8⟩:=hh;have z_t:=blt hb1 (auz (alz (b:=w.heap.size) xsi));have hh:=bc6 hb1 (al6 (b:=w.heap.size+1) xsi);obtain ⟨c_r0,c_r1,c_r2,c_r3,c_r4,c_r5⟩:=hh;have hh:=bf6 hb1 (alz (b:=w.heap.size+1) xsi) (alf6 (b:=w.heap.size+1) xsi);obtain ⟨f_r0,f_r1,f_r2,f_r3,f_r4,f_r5⟩:=hh;have z_r:=blt hb1 (alz (b:=w.heap.size+1) xsi);have hB1:Below w.heap.size w w1:=xbel;have hz1:=z_r;go_wp2_with fail
 refine (NW.out _).mono ?_;rintro e w2 ⟨v1,v2,v3,v4,rfl,p1,p2,p3,p4,hb2⟩;have hz_w2:=hb2.size;simp (disch:=omega) only [xcl hb2,xfr hb2] at *;replace z_t:=blt hb2 z_t;replace z_r:=blt hb2 z_r;have hB2:=below_via hb2 hB1 hB1.size;obtain ⟨a1,k1,rfl,-,-,-,-,-⟩:=row_of_owns p1;obtain ⟨a2,k2,rfl,-,-,-,-,-⟩:=row_of_owns p2;obtain ⟨a3,k3,rfl,-,-,-,-,-⟩:=row_of_owns p3;obtain ⟨a4,k4,rfl,-,-,-,-,-⟩:=row_of_owns p4;have HP:=hid (And.intro p1 (And.intro p2 (And.intro p3 p4)));clear p1 p2 p3 p4;go_wp2
 have HC:=hid (six_some ⟨c_r0,c_r1,c_r2,c_r3,c_r4,c_r5⟩);exact end_row (W:=w2) (b:=w.heap.size+1) [.int .i64 d.seg,.slice a1 d.ws.length k1,.slice a2 d.ks.length k2,.slice a3 d.vs.length k3,.slice a4 d.cs.length k4,.int .u64 d.laid] HC rfl rfl (fun _ h=>results_ct rfl rfl (run_loadVar_many _ Tryz.underlying29 rfl xk h)) fun _ s=>⟨_,_,_,_,rfl,s.ow hz1 HP.out.1,s.ow hz1 HP.out.2.1,s.ow hz1 HP.out.2.2.1,s.ow hz1 HP.out.2.2.2,s.be hB2⟩
theorem gapNew_ok (c:Cfg) (w:World):Calls Tryz.prog 55 #[.agg #[.int .u8 c.tag,.int .i64 c.most,.int .i64 c.seg,.int .i64 c.least,.int .i64 c.den,.int .i64 c.ll,.int .i64 c.rl,.int .i64 c.rh,.int .i64 c.lh]] w (FreshSl2 w (newC c) (.int .i64 (cfE c))):=by
 cases h:cfMay c with
 | true=>
  have e:cfE c=0:=cfE_ok h;rw [newC,if_pos h,e];exact gapNew_in c (emptyC c) w (hid fun W=>e ▸ Check5_ok c W) (hid fun W=>newSl_ok h W)
 | false=>
  have e:cfE c=50:=by simp [cfE,h]
  rw [newC,if_neg (by simp [h]),e];exact gapNew_err c 50 xdd w (hid fun W=>e ▸ Check5_ok c W)
end
section
open Go.RowKit
end
section
open Go.RowKit
end
section
open Go.RowKit Go.Shelf
def okAt (g a:Int):Bool:= !(decide (g<0)||decide (2147483647<g)||decide (a < -1)||(decide (0≤a)&&decide (g=2147483647)))
def okTo (gs ps:List Int) (k:Nat):Bool:=(List.range k).all fun i=>okAt (gs.getD i 0) (ps.getD i 0)
def may (gs ps:List Int):Bool:=decide (ps.length=gs.length)&&decide (gs.length≤65536)&&okTo gs ps gs.length
theorem okTo_succ (gs ps:List Int) (k:Nat):okTo gs ps (k+1)=(okTo gs ps k&&okAt (gs.getD k 0) (ps.getD k 0)):=by
 simp [okTo,List.range_succ]
theorem okTo_false {gs ps:List Int} {k n:Nat} (hk:k<n) (h:okAt (gs.getD k 0) (ps.getD k 0)=false):okTo gs ps n=false:=by
 rw [okTo,List.all_eq_false];exact ⟨k,by simpa using hk,by simpa using h⟩
theorem may_len {gs ps:List Int} (h:may gs ps=true):ps.length=gs.length∧gs.length≤65536:=by
 simp only [may,Bool.and_eq_true,decide_eq_true_eq] at h;exact h.1
def mayE (gs ps:List Int):Int:=if may gs ps=true then 0 else 8
theorem mayE_yes {gs ps:List Int} (h:may gs ps=true):mayE gs ps=0:=by simp [mayE,h]
theorem mayE_no {gs ps:List Int} (h:may gs ps=false):mayE gs ps=8:=by simp [mayE,h]
abbrev tabV (ga:Option Addr) (gl gc:Nat) (aa:Option Addr) (al ac:Nat):Value:= .agg #[.slice ga gl gc,.slice aa al ac]
end
section
open Go.RowKit Go.Shelf
theorem clone_ok (ga:Option Addr) (gc:Nat) (xs:List Int) (w:World) (hg:IsInts w ga xs) (hl:xs.length≤65536):
    Calls Tryz.prog 97 #[.slice ga xs.length gc] w (FreshInts w xs):=by
 have q22:∀(w:World) (a:Option Addr) (n c n' c':Nat),(binOp .eql 26 (.slice a n c) (.slice none n' c')).run Tryz.prog w= .ok (.bool a.isNone) w:=fun w a n c n' c'=>Lib.run_eql_slice_nil w _ _ a n c n' c' Tryz.underlying26
 have HG:=hid hg;clear hg;cases ga with
 | none=>
  have hx:xs=[]:=by
   cases xs with
   | nil=>rfl
   | cons x t=>obtain ⟨b,o,h,_⟩:=HG.out 0 xsi;cases h
  subst hx;go_enter Tryz.func97,Tryz.ntmps97
  go_wp2
  go_ret
  exact ⟨_,rfl,World.ownsRow_nil _ _ _ _,Below.refl _ _⟩
 | some a=>
  have hnews:∀ad,some a=some ad→∀j u,(xs.map (Value.int .i64))[j]? =some u→w.cell? (ad.add j)=some u:=by
   rintro ad h j u hj;cases h;rw [List.getElem?_map] at hj;cases hx:xs[j]? with
   | none=>rw [hx] at hj;cases hj
   | some v=>
    rw [hx] at hj;have hjl:=(List.getElem?_eq_some_iff.1 hx).1;obtain ⟨b,o,h,_,hc⟩:=HG.out j hjl;cases h;rw [Addr.add_lit,hc j hjl,List.getD_eq_getElem?_getD,hx];exact hj
  have HN:=hid hnews;clear hnews;go_enter Tryz.func97,Tryz.ntmps97
  go_wp2_with (at_builtin;refine wpl_append (.tmp 5) (.tmp 6) 26 3 (.int .i64 0) 1 8 Tryz.underlying26 info_int rfl xdd xdd w.heap.size _ 0 [] (some a) xs.length gc (xs.map (Value.int .i64)) (World.ownsRow_made w #[] 0 (Nat.le_refl _) (Nat.zero_le _) rfl) xsi xzc (fun ad h j u hj=>Lib.cell?_alloc_some _ (HN.out ad h j u hj)) (oneCells _) xo xsi rfl rfl rfl rfl ?_;intro v' w1 hown hgrow _)
  go_wp2
  go_ret
  refine ⟨v',rfl,by simpa using hown,?_⟩;exact ((Below.refl _ w).alloc (Nat.le_refl _) _).grown hgrow xsi (by intro k hk;simp [Value.ownBlock] at hk;omega)
theorem IsInts.alloc {w:World} {a:Option Addr} {xs:List Int} (h:IsInts w a xs) (ob:Obj):IsInts (w.alloc ob) a xs:=h.below (br.alloc (Nat.le_refl _) _)
def FreshTab (w:World) (gs ps:List Int) (e:Ending) (w':World):Prop:=
  ∃ v u,e= .returned (.agg #[v,u])∧w'.ownsRow w.heap.size 3 1 v gs.length (gs.map (Value.int .i64))∧w'.ownsRow w.heap.size 3 1 u ps.length (ps.map (Value.int .i64))∧
    (∀k l,v.ownBlock=some k→u.ownBlock=some l→k≠l)∧Below w.heap.size w w'
theorem Twin_ok (ga aa:Option Addr) (gc ac:Nat) (gs ps:List Int) (w:World) (hg:IsInts w ga gs) (hp:IsInts w aa ps) (hlg:gs.length≤65536) (hlp:ps.length≤65536):
    Calls Tryz.prog 57 #[tabV ga gs.length gc aa ps.length ac] w (FreshTab w gs ps):=by
 have HG:=hid hg;have HP:=hid hp;clear hg hp;go_enter Tryz.func57,Tryz.ntmps57
 go_wp2
 have hS:Below w.heap.size w ((w.alloc (.cells #[.slice ga gs.length gc,.slice aa ps.length ac] 31)).alloc (.cells #[.slice none 0 0,.slice none 0 0] 31)):=((Below.refl _ w).alloc (Nat.le_refl _) _).alloc xsi _;have HS:=hid hS.drew;clear hS;have e0:IsInts (((w.alloc (.cells #[.slice ga gs.length gc,.slice aa ps.length ac] 31)).alloc (.cells #[.slice none 0 0,.slice none 0 0] 31)).drew) ga gs:=HG.out.below HS.out;generalize hw1:(((w.alloc (.cells #[.slice ga gs.length gc,.slice aa ps.length ac] 31)).alloc (.cells #[.slice none 0 0,.slice none 0 0] 31)))=wz at *;have f0:wz.cell? ⟨w.heap.size,0,none⟩=some (.slice ga gs.length gc):=by rw [←hw1];(exact xcw)
 have f1:wz.cell? ⟨w.heap.size,1,none⟩=some (.slice aa ps.length ac):=by rw [←hw1];(exact xcw)
 have f2:wz.cell? ⟨w.heap.size+1,0,none⟩=some (.slice none 0 0):=by rw [←hw1];(exact xcw)
 have f3:wz.cell? ⟨w.heap.size+1,1,none⟩=some (.slice none 0 0):=by rw [←hw1];(exact xcw)
 have f4:wz.frozen? ⟨w.heap.size+1,0,none⟩=false:=by rw [←hw1];(exact xcw)
 have f5:wz.frozen? ⟨w.heap.size+1,1,none⟩=false:=by rw [←hw1];(exact xcw)
 have fz:w.heap.size+2≤wz.heap.size:=by
  rw [←hw1];simp
 clear hw1;have ez:wz.drew.heap.size=wz.heap.size:=rfl;go_region_law (first
   | (go_simp;go_at_call 97;refine (clone_ok ga gc gs _ e0 hlg).mono ?_;rintro e w1 ⟨v1,rfl,ho1,hb1⟩;obtain ⟨ao1,cc1,rfl,hn1,-⟩:=owns_news ho1
      have g1:w1.cell? ⟨w.heap.size,1,none⟩=some (.slice aa ps.length ac):=(hb1.cell (p:=⟨w.heap.size,1,none⟩) (by show w.heap.size<wz.heap.size;omega)).trans f1;have g2:w1.cell? ⟨w.heap.size+1,0,none⟩=some (.slice none 0 0):=(hb1.cell (p:=⟨w.heap.size+1,0,none⟩) (by show w.heap.size+1<wz.heap.size;omega)).trans f2;have g3:w1.cell? ⟨w.heap.size+1,1,none⟩=some (.slice none 0 0):=(hb1.cell (p:=⟨w.heap.size+1,1,none⟩) (by show w.heap.size+1<wz.heap.size;omega)).trans f3;have g4:w1.frozen? ⟨w.heap.size+1,0,none⟩=false:=(hb1.frozen (p:=⟨w.heap.size+1,0,none⟩) (by show w.heap.size+1<wz.heap.size;omega)).trans f4;have g5:w1.frozen? ⟨w.heap.size+1,1,none⟩=false:=(hb1.frozen (p:=⟨w.heap.size+1,1,none⟩) (by show w.heap.size+1<wz.heap.size;omega)).trans f5;have g6:=hb1.size)
   | (go_simp;go_at_call 97;refine (clone_ok aa ac ps _ (HP.out.below (HS.out.trans (hb1.mono HS.out.size))) hlp).mono ?_;rintro e w2 ⟨v2,rfl,ho2,hb2⟩;obtain ⟨ao2,cc2,rfl,hn2,-⟩:=owns_news ho2
      have k2:w2.cell? ⟨w.heap.size+1,0,none⟩=some (.slice none 0 0):=(hb2.cell (p:=⟨w.heap.size+1,0,none⟩) (by show w.heap.size+1<w1.heap.size;omega)).trans g2;have k3:w2.cell? ⟨w.heap.size+1,1,none⟩=some (.slice none 0 0):=(hb2.cell (p:=⟨w.heap.size+1,1,none⟩) (by show w.heap.size+1<w1.heap.size;omega)).trans g3;have k4:w2.frozen? ⟨w.heap.size+1,0,none⟩=false:=(hb2.frozen (p:=⟨w.heap.size+1,0,none⟩) (by show w.heap.size+1<w1.heap.size;omega)).trans g4;have k5:w2.frozen? ⟨w.heap.size+1,1,none⟩=false:=(hb2.frozen (p:=⟨w.heap.size+1,1,none⟩) (by show w.heap.size+1<w1.heap.size;omega)).trans g5))
 all_goals
   go_wp2
   have r1:((w2.setCell ⟨w.heap.size+1,0,none⟩ (.slice ao1 gs.length cc1)).setCell ⟨w.heap.size+1,1,none⟩ (.slice ao2 ps.length cc2)).cell? ⟨w.heap.size+1,0,none⟩=some (.slice ao1 gs.length cc1):=by
    rw [World.cell?_setCell_other _ _ _ _ (by intro e;simp at e),World.cell?_setCell_same _ _ _ k2]
   have r2:((w2.setCell ⟨w.heap.size+1,0,none⟩ (.slice ao1 gs.length cc1)).setCell ⟨w.heap.size+1,1,none⟩ (.slice ao2 ps.length cc2)).cell? ⟨w.heap.size+1,1,none⟩=some (.slice ao2 ps.length cc2):=by
    refine World.cell?_setCell_same _ _ _ (u:= .slice none 0 0) ?_;rw [World.cell?_setCell_other _ _ _ _ (by intro e;simp at e)];exact k3
   have hk1:=ho1.lt;have hk2:=ho2.lt;have hz2:=hb2.size;have o1:=owns_heap (W':=((w2.setCell ⟨w.heap.size+1,0,none⟩ (.slice ao1 gs.length cc1)).setCell ⟨w.heap.size+1,1,none⟩ (.slice ao2 ps.length cc2))) (owns_base (owns_below ho1 hb2) (base':=w.heap.size) (by rw [ez];omega)) (fun k hk=>by
    have h:=hk1 k hk;rw [ez] at h;rw [heap_setCell_ne _ _ _ (by show k≠w.heap.size+1;omega),heap_setCell_ne _ _ _ (by show k≠w.heap.size+1;omega)])
   have o2:=owns_heap (W':=((w2.setCell ⟨w.heap.size+1,0,none⟩ (.slice ao1 gs.length cc1)).setCell ⟨w.heap.size+1,1,none⟩ (.slice ao2 ps.length cc2))) (owns_base ho2 (base':=w.heap.size) (by rw [ez] at g6;omega)) (fun k hk=>by
    have h:=hk2 k hk;rw [ez] at g6;rw [heap_setCell_ne _ _ _ (by show k≠w.heap.size+1;omega),heap_setCell_ne _ _ _ (by show k≠w.heap.size+1;omega)])
   have hbb:Below w.heap.size w ((w2.setCell ⟨w.heap.size+1,0,none⟩ (.slice ao1 gs.length cc1)).setCell ⟨w.heap.size+1,1,none⟩ (.slice ao2 ps.length cc2)):=
     (((HS.out.trans (hb1.mono (by rw [ez];omega))).trans (hb2.mono (by rw [ez] at g6;omega))).setCell (by show w.heap.size≤w.heap.size+1;omega) _).setCell (by show w.heap.size≤w.heap.size+1;omega) _
   have hne:∀k l,(Value.slice ao1 gs.length cc1).ownBlock=some k→(Value.slice ao2 ps.length cc2).ownBlock=some l→k≠l:=fun k l h1 h2=>by
    have:=(hk1 k h1).2;have:=(hk2 l h2).1;omega
   exact bodyPost_ret (results_c rfl rfl (run_loadVar_two Tryz.underlying31 rfl xk r1 r2)) rfl ⟨_,_,rfl,o1,o2,hne,hbb⟩
end
section
open Go.RowKit Go.Shelf
attribute [local go_sem] Oper.semAt_some
def tabRow (gs ps:List Int) (k:Nat):Array Value:= #[.int .i64 k,.agg #[.int .i64 (gs.getD k 0),.int .i64 (ps.getD k 0)]]
def tabRows (gs ps:List Int):List (Array Value):=List.map (tabRow gs ps) (List.range gs.length)
theorem tabRows_length (gs ps:List Int):(tabRows gs ps).length=gs.length:=by simp [tabRows]
theorem tabRows_get {gs ps:List Int} {k:Nat} (h:k<gs.length):(tabRows gs ps).getD k #[]=tabRow gs ps k:=by
 rw [List.getD_eq_getElem?_getD,tabRows,List.getElem?_map,List.getElem?_range h];rfl
structure TabKp (ga aa:Option Addr) (gs ps:List Int) (b:Nat) (W W':World):Prop where
 box:W'.heap[b]? =W.heap[b]?
 gens:IsInts W ga gs→IsInts W' ga gs
 ats:IsInts W aa ps→IsInts W' aa ps
theorem TabKp.trans {ga aa:Option Addr} {gs ps:List Int} {b:Nat} {A B C:World} (h:TabKp ga aa gs ps b A B) (k:TabKp ga aa gs ps b B C):TabKp ga aa gs ps b A C:=
  ⟨k.box.trans h.box,fun x=>k.gens (h.gens x),fun x=>k.ats (h.ats x)⟩
theorem TabKp.refl {ga aa:Option Addr} {gs ps:List Int} {b:Nat} {A:World}:TabKp ga aa gs ps b A A:=⟨rfl,id,id⟩
theorem TabKp.below {ga aa:Option Addr} {gs ps:List Int} {b:Nat} {A B:World} (h:Below A.heap.size A B) (hb:b<A.heap.size):TabKp ga aa gs ps b A B:=
  ⟨h.block b hb,fun x=>x.below h,fun x=>x.below h⟩
theorem numbers1_iter (ga aa:Option Addr) (gc ac:Nat) (gs ps:List Int) (hl:ps.length=gs.length) (h1:gs.length≤65536) (b:Nat) (w:World)
    (hb0:w.cell? ⟨b,0,none⟩=some (.slice ga gs.length gc)) (hb1:w.cell? ⟨b,1,none⟩=some (.slice aa gs.length ac)) (hg:IsInts w ga gs) (hp:IsInts w aa ps):
    Iter Tryz.prog 143 #[.pointer (some ⟨b,0,none⟩)] (tabRows gs ps) (TabKp ga aa gs ps b) w:=by
 intro l J Jx W hW hJ hJx hY h0;have hbl:b<w.heap.size:=World.block_lt_of_cell? w _ hb0;have hc0:W.cell? ⟨b,0,none⟩=some (.slice ga gs.length gc):=(hW.cell (p:=⟨b,0,none⟩) hbl).trans hb0;have hc1:W.cell? ⟨b,1,none⟩=some (.slice aa gs.length ac):=(hW.cell (p:=⟨b,1,none⟩) hbl).trans hb1;have hgW:=hg.below hW;have hpW:=hp.below hW;have HG:=hid hgW;have HP:=hid hpW;have HY:=hid hY;have HL:=hid hl;clear hY hJ hJx hb0 hb1 hg hp hgW hpW hl;refine callsIn_of_wp Tryz.func143 rfl trivial ?_ rfl;simp only [Tryz.ntmps143,List.size_toArray,List.length_cons,List.length_nil,Nat.reduceAdd,Nat.reduceSub,Array.replicate_succ,Array.replicate_zero,List.push_toArray,List.append_toArray,List.nil_append,List.cons_append];gi_wp2
 gi_loopw [8] (fun i wr=>∃k:Nat,k≤gs.length∧i= .int .i64 k∧J k wr∧wr.cell? ⟨b,1,none⟩=some (.slice aa gs.length ac)∧Hid (IsInts wr ga gs)∧Hid (IsInts wr aa ps)) (fun i _=>gs.length-(intOf i).toNat)
 case atStart=>exact ⟨0,Nat.zero_le _,rfl,h0,hc1,HG,HP⟩
 case round=>
  obtain ⟨k,hk,rfl,hJk,hc1',HG',HP'⟩:=hrel;by_cases hlt:k<gs.length
  · obtain ⟨b1,o1,x,rfl,hx,hcx,hl1⟩:=HG'.out.get hlt;obtain ⟨b2,o2,y,rfl,hy,hcy,hl2⟩:=HP'.out.get (k:=k) (by rw [HL.out];exact hlt);obtain ⟨fn,tmps,assign,body,hyy,hR⟩:=HY.out k wr (by rw [tabRows_length];exact hlt) hJk;rw [tabRows_get hlt,tabRow,hx.out,hy.out] at hyy;gi_wp2
    refine ⟨rfl,hR.mono ?_⟩;rintro e W3 (⟨rfl,hJ3,hk3⟩ | ⟨rfl,hJx3⟩)
    · have hc3:W3.cell? ⟨b,1,none⟩=some (.slice (some ⟨b2,o2,none⟩) gs.length ac):=by rw [World.cell?_of_block (w:=wr) hk3.box];exact hc1'
      have HG3:=hid (hk3.gens HG'.out);have HP3:=hid (hk3.ats HP'.out);clear hk3 hc1' HG' HP';gi_wp2
      go_roundw
      case measure=>simp [intOf];omega
      case rel=>exact ⟨k+1,by omega,by go_num,hJ3,hc3,HG3,HP3⟩
    · gi_wp2
      refine bodyPost_ret (results_none rfl _ _ _) rfl ⟨⟨_,rfl⟩,.inr ⟨k+1,by rw [tabRows_length];omega,hJx3⟩⟩
  · obtain rfl:k=gs.length:=xo;gi_wp2
    refine bodyPost_end (results_none rfl _ _ _) rfl ⟨⟨_,rfl⟩,.inl ?_⟩;rw [tabRows_length];exact hJk
end
section
open Go.RowKit Go.Shelf
attribute [local go_sem] Oper.semAt_some
theorem numbers_ok (ga aa:Option Addr) (gl gc al ac:Nat) (w:World):
    Calls Tryz.prog 93 #[tabV ga gl gc aa al ac] w fun e w'=>
     e= .returned (.func (.func 143) #[] #[.pointer (some ⟨w.heap.size,0,none⟩)])∧w'=w.alloc (.cells #[.slice ga gl gc,.slice aa al ac] 31):=by
 go_enter Tryz.func93,Tryz.ntmps93
 go_wp2
 go_ret
 exact ⟨rfl,rfl⟩
structure CkI (gs ps:List Int) (B:Nat) (w:World) (k:Nat) (W:World):Prop where
 ok:okTo gs ps k=true
 r:∃v,W.cell? ⟨B+1,0,none⟩=some v
 f:W.frozen? ⟨B+1,0,none⟩=false
 bel:Below B w W
 sz:B+2<W.heap.size
structure CkX (gs ps:List Int) (B:Nat) (w:World) (c:Code) (W:World):Prop where
 code:c= .ret
 bad:may gs ps=false
 r:W.cell? ⟨B+1,0,none⟩=some (.int .i64 8)
 bel:Below B w W
theorem Check_ok (ga aa:Option Addr) (gc ac:Nat) (gs ps:List Int) (w:World) (hg:IsInts w ga gs) (hp:IsInts w aa ps) (hlg:gs.length≤1000000000) (hla:ps.length≤1000000000):
    Calls Tryz.prog 92 #[tabV ga gs.length gc aa ps.length ac] w fun e w'=>e= .returned (.int .i64 (mayE gs ps))∧Below w.heap.size w w':=by
 by_cases h1:ps.length=gs.length
 · by_cases h2:gs.length≤65536
   · have hmay:may gs ps=okTo gs ps gs.length:=by simp [may,h1,h2]
     rw [h1];have HG:=hid hg;have HP:=hid hp;have H1:=hid h1;have HM:=hid hmay;clear hg hp hla hlg h1 hmay;refine calls_of_wp_m Tryz.func92 rfl ?_;simp only [Tryz.ntmps92,List.size_toArray,List.length_cons,List.length_nil,Nat.reduceAdd,Nat.reduceSub,Array.replicate_succ,Array.replicate_zero,List.push_toArray,List.append_toArray,List.nil_append,List.cons_append];go_wp2_with fail
     refine (numbers_ok _ _ _ _ _ _ _).mono ?_;rintro e w2 ⟨rfl,rfl⟩;go_wp2
     refine wp_range_w (xs:=tabRows gs ps) (Kp:=TabKp ga aa gs ps (w.heap.size+2)) rfl (enters_of Tryz.func143 xk rfl)
       (numbers1_iter ga aa gc ac gs ps H1.out h2 (w.heap.size+2) _ ?b0 ?b1 ?ig ?ip) br (fun h k=>h.trans k) ?kb ?ps
       (CkI gs ps w.heap.size w) (CkX gs ps w.heap.size w) ?hI ?hIx ?h0 ?round ?done ?stop
     case b0=>(exact xcw)
     case b1=>(exact xcw)
     case ig=>exact ((HG.out.below (br.alloc (Nat.le_refl _) _)).below (br.alloc (Nat.le_refl _) _)).below (br.alloc (Nat.le_refl _) _)
     case ip=>exact ((HP.out.below (br.alloc (Nat.le_refl _) _)).below (br.alloc (Nat.le_refl _) _)).below (br.alloc (Nat.le_refl _) _)
     case kb=>
      intro W l o o' hl ho hc;simp at hl;have hcalm:=Calm.putObj (B:=0) o' (Nat.zero_le _) ho hc;exact ⟨World.putObj_heap_other xo,hcalm.ints,hcalm.ints⟩
     case ps=>
      intro y hy;simp only [tabRows,List.mem_map] at hy;obtain ⟨k,_,rfl⟩:=hy;rfl
     case hI=>
      intro k W W' hi hc;obtain ⟨v,hv⟩:=hi.r;exact ⟨hi.ok,⟨v,hc.cell hv⟩,hc.frozen hv hi.f,hc.below (by simp;omega) hi.bel,Nat.lt_of_lt_of_le hi.sz hc.size⟩
     case hIx=>
      intro c W W' hi hc;exact ⟨hi.code,hi.bad,hc.cell hi.r,hc.below (by simp;omega) hi.bel⟩
     case h0=>
      exact ⟨rfl,⟨_,by (exact xcw)⟩,by (exact xcw),(((Below.refl _ w).alloc (Nat.le_refl _) _).alloc xsi _).alloc (by simp;omega) _,by simp⟩
     case round =>
      intro l k W hl hk hi;rw [tabRows_length] at hk;rw [tabRows_get hk,tabRow];obtain ⟨x,hx⟩:∃x,gs.getD k 0=x:=⟨_,rfl⟩
      obtain ⟨y,hy⟩:∃y,ps.getD k 0=y:=⟨_,rfl⟩
      rw [hx,hy];have HX:=hid hx;have HY:=hid hy;have HI:=hid hi;clear hx hy hi;gi_wp2
      have hbz:=HI.out.bel.size;have hWb:w.heap.size+2<W.heap.size:=HI.out.sz;have hab:Below W.heap.size W (W.alloc (.cells #[.int .i64 x,.int .i64 y] 122)):=br.alloc (Nat.le_refl _) _;refine ⟨keeps_below hab,TabKp.below hab hWb,?_⟩;intro W2 hc;have hcx:W2.cell? ⟨W.heap.size,0,none⟩=some (.int .i64 x):=hc.cell xcw;have hcy:W2.cell? ⟨W.heap.size,1,none⟩=some (.int .i64 y):=hc.cell xcw;obtain ⟨v,hv0⟩:=HI.out.r;have hf0:=HI.out.f;have hv:W2.cell? ⟨w.heap.size+1,0,none⟩=some v:=by
       refine hc.cell ?_;rw [World.cell?_alloc_past _ _ _ xo];exact hv0
      have hf:W2.frozen? ⟨w.heap.size+1,0,none⟩=false:=by
       refine hc.frozen (v:=v) ?_ ?_
       · rw [World.cell?_alloc_past _ _ _ xo];exact hv0
       · rw [World.frozen?_alloc_past _ _ _ xo];exact hf0
      have bel2:Below w.heap.size w W2:=hc.below (by simp;omega) (HI.out.bel.alloc xo _);have BE:=hid bel2;have HO:okAt x y=true→okTo gs ps (k+1)=true:=fun h=>by rw [okTo_succ,HI.out.ok,HX.out,HY.out,h];rfl
      have HB:okAt x y=false→may gs ps=false:=fun h=>by rw [HM.out];exact okTo_false hk (by rw [HX.out,HY.out];exact h)
      have HO':=hid HO;have HB':=hid HB;have HS2:w.heap.size+2<W2.heap.size:=by have:=hc.size;simp at this;omega
      clear hbz hab hc hv0 hf0 bel2 HO HB;have hsz:w.heap.size+2<W2.heap.size:=HS2;clear HS2;by_cases c0:y= -1
      · subst c0;by_cases c1:x<0
        ·
          have HZ:=hid (HB'.out (by simp [okAt,c1]));gi_wp2
          exact ⟨KeepsOthers.setCell _ _ _,rfl,HZ.out,World.cell?_setCell_same _ _ _ hv,BE.out.setCell (by show w.heap.size≤w.heap.size+1;omega) _⟩
        · by_cases c2:2147483647<x
          ·
            have HZ:=hid (HB'.out (by simp [okAt,c2]));gi_wp2
            exact ⟨KeepsOthers.setCell _ _ _,rfl,HZ.out,World.cell?_setCell_same _ _ _ hv,BE.out.setCell (by show w.heap.size≤w.heap.size+1;omega) _⟩
          ·
            have HZ:=hid (HO'.out (by simp [okAt,c1,c2]));gi_wp2
            exact ⟨KeepsOthers.refl _,TabKp.refl,HZ.out,⟨_,hv⟩,hf,BE.out,hsz⟩
      · have c0':(y != -1)=true:=by simpa using c0
        have hc0:y < -1∨0≤y:=xo;clear c0;by_cases c1:x<0
        ·
          have HZ:=hid (HB'.out (by simp [okAt,c1]));gi_wp2
          exact ⟨KeepsOthers.setCell _ _ _,rfl,HZ.out,World.cell?_setCell_same _ _ _ hv,BE.out.setCell (by show w.heap.size≤w.heap.size+1;omega) _⟩
        · by_cases c2:2147483646<x
          · have hz:okAt x y=false:=by
              rcases hc0 with h|h
              · simp [okAt,h]
              · by_cases h3:2147483647<x
                · simp [okAt,h3]
                · simp [okAt,h,show x=2147483647 by omega]
            have HZ:=hid (HB'.out hz);clear hz;gi_wp2
            exact ⟨KeepsOthers.setCell _ _ _,rfl,HZ.out,World.cell?_setCell_same _ _ _ hv,BE.out.setCell (by show w.heap.size≤w.heap.size+1;omega) _⟩
          · by_cases c3:y < -1
            ·
              have HZ:=hid (HB'.out (by simp [okAt,c3]));gi_wp2
              exact ⟨KeepsOthers.setCell _ _ _,rfl,HZ.out,World.cell?_setCell_same _ _ _ hv,BE.out.setCell (by show w.heap.size≤w.heap.size+1;omega) _⟩
            ·
              have HZ:=hid (HO'.out (by simp [okAt,c1,c3,show ¬2147483647<x by omega,show ¬x=2147483647 by omega]));gi_wp2
              exact ⟨KeepsOthers.refl _,TabKp.refl,HZ.out,⟨_,hv⟩,hf,BE.out,hsz⟩
     case done=>
      intro D W hD hi hK;obtain ⟨hok,⟨v,hv⟩,hf,hbel,hsz⟩:=hi;rw [tabRows_length] at hok;have HB:=hid hbel;have hm:mayE gs ps=0:=mayE_yes (HM.out.trans hok);have HZ:=hid hm;clear hok hbel hm;go_wp2
      have hK2:(W.setCell ⟨w.heap.size+1,0,none⟩ (.int .i64 0)).heap[D]? =some (.deferred (some [])):=(KeepsOthers.setCell _ _ _).same _ _ hK rfl;have hcalm:=Calm.putObj (B:=w.heap.size) (.deferred none) (by simp at hD;omega) hK2 rfl;exact postM_one hK2 (results_c rfl rfl (run_loadVar_one Tryz.underlying38 rfl (hcalm.cell (World.cell?_setCell_same _ _ _ hv)))) ⟨by rw [HZ.out],hcalm.below (Nat.le_refl _) (HB.out.setCell (by show w.heap.size≤w.heap.size+1;omega) _)⟩
     case stop=>
      intro D c W hD hi hK;obtain ⟨rfl,hbad,hr,hbel⟩:=hi;have hm:mayE gs ps=8:=mayE_no hbad;have HZ:=hid hm;clear hm;have hcalm:=Calm.putObj (B:=w.heap.size) (.deferred none) (by simp at hD;omega) hK rfl;go_wp2
      exact postM_one hK (results_c rfl rfl (run_loadVar_one Tryz.underlying38 rfl (hcalm.cell hr))) ⟨by rw [HZ.out],hcalm.below (Nat.le_refl _) hbel⟩
   · have hfin:mayE gs ps=8:=mayE_no (by simp [may,h2]);rw [hfin,h1];clear hg hp hla h1 hfin;refine calls_of_wp_m Tryz.func92 rfl ?_;simp only [Tryz.ntmps92,List.size_toArray,List.length_cons,List.length_nil,Nat.reduceAdd,Nat.reduceSub,Array.replicate_succ,Array.replicate_zero,List.push_toArray,List.append_toArray,List.nil_append,List.cons_append];go_wp2
     exact postM_none (results_c rfl rfl (run_loadVar_one Tryz.underlying38 rfl xcw)) ⟨rfl,((Below.refl _ w).alloc (Nat.le_refl _) _).alloc xsi _⟩
 · have hfin:mayE gs ps=8:=mayE_no (by simp [may,h1]);rw [hfin];have hne:((ps.length:Int) != (gs.length:Int))=true:=by simp;omega
   clear hg hp h1 hfin;refine calls_of_wp_m Tryz.func92 rfl ?_;simp only [Tryz.ntmps92,List.size_toArray,List.length_cons,List.length_nil,Nat.reduceAdd,Nat.reduceSub,Array.replicate_succ,Array.replicate_zero,List.push_toArray,List.append_toArray,List.nil_append,List.cons_append];go_wp2
   exact postM_none (results_c rfl rfl (run_loadVar_one Tryz.underlying38 rfl xcw)) ⟨rfl,((Below.refl _ w).alloc (Nat.le_refl _) _).alloc xsi _⟩
end
section
open Go.RowKit Go.Shelf
def isH (gs ps:List Int) (n g:Int):Bool:=decide (0≤n)&&decide (n<gs.length)&&decide (0≤ps.getD n.toNat 0)&&decide (gs.getD n.toNat 0=g)
theorem isH_facts {gs ps:List Int} {n g:Int} (h:isH gs ps n g=true):0≤n∧n<gs.length∧0≤ps.getD n.toNat 0∧gs.getD n.toNat 0=g:=by
 simp only [isH,Bool.and_eq_true,decide_eq_true_eq] at h;exact ⟨h.1.1.1,h.1.1.2,h.1.2,h.2⟩
theorem has_ok (B:Nat) (ga aa:Option Addr) (gc ac:Nat) (gs ps:List Int) (n g:Int) (w:World) (hb0:w.cell? ⟨B,0,none⟩=some (.slice ga gs.length gc)) (hb1:w.cell? ⟨B,1,none⟩=some (.slice aa gs.length ac)) (hg:IsInts w ga gs) (hp:IsInts w aa ps) (hl:ps.length=gs.length) (hlg:gs.length≤1000000000) (hlo:∀k,k<gs.length→ -1≤ps.getD k 0):
    Calls Tryz.prog 127 #[.pointer (some ⟨B,0,none⟩),.agg #[.int .i64 n,.int .i64 g]] w fun e w'=>e= .returned (.bool (isH gs ps n g))∧Below w.heap.size w w':=by
 have HB:=hid ((Below.refl _ w).alloc (Nat.le_refl _) (.cells #[.int .i64 n,.int .i64 g] 35));have hbl:B<w.heap.size:=World.block_lt_of_cell? w _ hb0;by_cases h1:0≤n
 · by_cases h2:n<gs.length
   · obtain ⟨b2,o2,y,rfl,hy,hcy,hl2⟩:=hp.get (k:=n.toNat) xo;obtain ⟨b1,o1,x,rfl,hx,hcx,hl1⟩:=hg.get (k:=n.toNat) xo;have d1:decide (0≤n)=true:=by simpa using h1
     have d2:decide (n<gs.length)=true:=by simpa using h2
     have hy1: -1≤y:=by rw [←hy.out];exact hlo _ xo
     have hiv:isH gs ps n g=(decide (0≤y)&&decide (x=g)):=by
      rw [isH,d1,d2,hy.out,hx.out];rfl
     rw [hiv];clear hiv hg hp hlo;by_cases h3:0≤y
     · have d3:decide (0≤y)=true:=by simpa using h3
       rw [d3];have e3:(y != -1)=true:=by simp;omega
       by_cases h4:x=g
       · have d4:decide (x=g)=true:=by simpa using h4
         have e4:(x==g)=true:=by simpa using h4
         rw [d4];clear d4 h4 hl;go_enter Tryz.func127,Tryz.ntmps127
         go_wp2
         go_quiet (fail)
         go_wp2
         go_ret
         exact ⟨rfl,below_drewN HB.out _⟩
       · have d4:decide (x=g)=false:=by simpa using h4
         have e4:(x==g)=false:=by simpa using h4
         rw [d4];clear d4 h4 hl;go_enter Tryz.func127,Tryz.ntmps127
         go_wp2
         go_quiet (fail)
         go_wp2
         go_ret
         exact ⟨rfl,below_drewN HB.out _⟩
     · have d3:decide (0≤y)=false:=by simpa using h3
       rw [d3];have e3:(y != -1)=false:=by simp;omega
       clear hl h3;go_enter Tryz.func127,Tryz.ntmps127
       go_wp2
       go_quiet (fail)
       go_wp2
       go_ret
       exact ⟨rfl,below_drewN HB.out _⟩
   · have d1:decide (0≤n)=true:=by simpa using h1
     have d2:decide (n<gs.length)=false:=by simpa using h2
     have hiv:isH gs ps n g=false:=by rw [isH,d1,d2];rfl
     rw [hiv];clear hiv hl h2 hg hp;go_enter Tryz.func127,Tryz.ntmps127
     go_wp2
     go_quiet (fail)
     go_wp2
     go_ret
     exact ⟨rfl,below_drewN HB.out _⟩
 · have d1:decide (0≤n)=false:=by simpa using h1
   have hiv:isH gs ps n g=false:=by rw [isH,d1];rfl
   rw [hiv];clear hiv hl h1 hg hp;go_enter Tryz.func127,Tryz.ntmps127
   go_wp2
   go_quiet (fail)
   go_wp2
   go_ret
   exact ⟨rfl,below_drewN HB.out _⟩
end
section
open Go.RowKit Go.Shelf
attribute [local go_sem] Oper.semAt_some
def cntTo (ps:List Int):Nat→Nat
  | 0=>0
  | k+1=>cntTo ps k+if 0≤ps.getD k 0 then 1 else 0
theorem cntTo_le (ps:List Int):∀k,cntTo ps k≤k
  | 0=>Nat.le_refl _
  | k+1=>by have:=cntTo_le ps k;simp only [cntTo];split<;>omega
theorem cntTo_yes {ps:List Int} {k:Nat} (h:0≤ps.getD k 0):cntTo ps (k+1)=cntTo ps k+1:=by simp only [cntTo,h,if_pos]
theorem cntTo_no {ps:List Int} {k:Nat} (h:¬0≤ps.getD k 0):cntTo ps (k+1)=cntTo ps k:=by simp only [cntTo,h,if_false];rfl
def liveN (gs ps:List Int):Int:=if may gs ps=true then cntTo ps gs.length else 0
theorem liveN_yes {gs ps:List Int} (h:may gs ps=true):liveN gs ps=cntTo ps gs.length:=by simp [liveN,h]
theorem liveN_no {gs ps:List Int} (h:may gs ps=false):liveN gs ps=0:=by simp [liveN,h]
theorem may_at {gs ps:List Int} (h:may gs ps=true) {k:Nat} (hk:k<gs.length):okAt (gs.getD k 0) (ps.getD k 0)=true:=by
 simp only [may,Bool.and_eq_true,decide_eq_true_eq] at h;have h2:=h.2;rw [okTo,List.all_eq_true] at h2;exact h2 k (by simpa using hk)
theorem okAt_facts {g a:Int} (h:okAt g a=true):0≤g∧g≤2147483647∧ -1≤a∧(0≤a→g<2147483647):=by
 simp [okAt] at h;omega
structure LvI (ps:List Int) (B M:Nat) (w:World) (k:Nat) (W:World):Prop where
 r:W.cell? ⟨B+1,0,none⟩=some (.int .i64 (cntTo ps k))
 f:W.frozen? ⟨B+1,0,none⟩=false
 bel:Below B w W
 sz:M<W.heap.size
theorem Live_ok (ga aa:Option Addr) (gc ac:Nat) (gs ps:List Int) (w:World) (hg:IsInts w ga gs) (hp:IsInts w aa ps) (hlg:gs.length≤1000000000) (hla:ps.length≤1000000000):
    Calls Tryz.prog 52 #[tabV ga gs.length gc aa ps.length ac] w fun e w'=>e= .returned (.tuple #[.int .i64 (liveN gs ps),.int .i64 (mayE gs ps)])∧Below w.heap.size w w':=by
 have HG:=hid hg;have HP:=hid hp;by_cases hm:may gs ps=true
 · obtain ⟨h1,h2⟩:=may_len hm;have hck:=fun w' (hb:Below w.heap.size w w')=>Check_ok ga aa gc ac gs ps w' (HG.out.below hb) (HP.out.below hb) hlg hla
   rw [mayE_yes hm,liveN_yes hm];rw [mayE_yes hm] at hck;rw [h1] at hck ⊢;have H1:=hid h1;have HM:=hid hm;have HC:=hid hck;clear hg hp hlg hla h1 hm hck;refine calls_of_wp_m Tryz.func52 rfl ?_;simp only [Tryz.ntmps52,List.size_toArray,List.length_cons,List.length_nil,Nat.reduceAdd,Nat.reduceSub,Array.replicate_succ,Array.replicate_zero,List.push_toArray,List.append_toArray,List.nil_append,List.cons_append];go_wp2_with fail
   have hb2:Below w.heap.size w ((w.alloc (.cells #[.slice ga gs.length gc,.slice aa gs.length ac] 31)).alloc (.cells #[.int .i64 0] 3)):=((Below.refl _ w).alloc (Nat.le_refl _) _).alloc xsi _;refine (HC.out _ hb2).mono ?_;rintro e w3 ⟨rfl,hb3⟩;have hz3:=hb3.size;rw [World.size_alloc,World.size_alloc] at hz3;have e0:w3.cell? ⟨w.heap.size,0,none⟩=some (.slice ga gs.length gc):=(hb3.cell (p:=⟨w.heap.size,0,none⟩) (by simp;omega)).trans xcw;have e1:w3.cell? ⟨w.heap.size,1,none⟩=some (.slice aa gs.length ac):=(hb3.cell (p:=⟨w.heap.size,1,none⟩) (by simp;omega)).trans xcw;have e2:w3.cell? ⟨w.heap.size+1,0,none⟩=some (.int .i64 0):=(hb3.cell (p:=⟨w.heap.size+1,0,none⟩) xsi).trans xcw;have e3:w3.frozen? ⟨w.heap.size+1,0,none⟩=false:=(hb3.frozen (p:=⟨w.heap.size+1,0,none⟩) xsi).trans xcw;have hb4:=hb2.trans (hb3.mono (by simp;omega));have HB:=hid hb4;clear hb2 hb3 hb4;go_wp2_with fail
   refine (numbers_ok _ _ _ _ _ _ _).mono ?_;rintro e w4 ⟨rfl,rfl⟩;go_wp2
   refine wp_range_w (xs:=tabRows gs ps) (Kp:=TabKp ga aa gs ps w3.heap.size) rfl (enters_of Tryz.func143 xk rfl)
     (numbers1_iter ga aa gc ac gs ps H1.out h2 w3.heap.size _ ?b0 ?b1 ?ig ?ip) br (fun h k=>h.trans k) ?kb ?ps
     (LvI ps w.heap.size w3.heap.size w) (fun _ _=>False) ?hI (fun _ _ _ h _=>h) ?h0 ?round ?done (fun _ _ _ _ h _=>h.elim)
   case b0=>(exact xcw)
   case b1=>(exact xcw)
   case ig=>exact (HG.out.below HB.out).below (br.alloc (Nat.le_refl _) _)
   case ip=>exact (HP.out.below HB.out).below (br.alloc (Nat.le_refl _) _)
   case kb=>
    intro W l o o' hl ho hc;simp at hl;have hcalm:=Calm.putObj (B:=0) o' (Nat.zero_le _) ho hc;exact ⟨World.putObj_heap_other xo,hcalm.ints,hcalm.ints⟩
   case ps=>
    intro y hy;simp only [tabRows,List.mem_map] at hy;obtain ⟨k,_,rfl⟩:=hy;rfl
   case hI=>
    intro k W W' hi hc;exact ⟨hc.cell hi.r,hc.frozen hi.r hi.f,hc.below (by simp;omega) hi.bel,Nat.lt_of_lt_of_le hi.sz hc.size⟩
   case h0=>
    exact ⟨by rw [World.cell?_alloc_past _ _ _ xo];exact e2,by rw [World.frozen?_alloc_past _ _ _ xo];exact e3,HB.out.alloc xo _,by simp⟩
   case round=>
    intro l k W hl hk hi;rw [tabRows_length] at hk;rw [tabRows_get hk,tabRow];obtain ⟨x,hx⟩:∃x,gs.getD k 0=x:=⟨_,rfl⟩
    obtain ⟨y,hy⟩:∃y,ps.getD k 0=y:=⟨_,rfl⟩
    have hok:=okAt_facts (may_at HM.out hk);rw [hx,hy] at hok ⊢;have hcl:=cntTo_le ps k;have HX:=hid hx;have HY:=hid hy;have HI:=hid hi;clear hx hy hi;gi_wp2
    have hbz:=HI.out.bel.size;have hWb:=HI.out.sz;have hab:Below W.heap.size W (W.alloc (.cells #[.int .i64 x,.int .i64 y] 122)):=br.alloc (Nat.le_refl _) _;refine ⟨keeps_below hab,TabKp.below hab hWb,?_⟩;intro W2 hc;have hcy:W2.cell? ⟨W.heap.size,1,none⟩=some (.int .i64 y):=hc.cell xcw;have hv0:(W.alloc (.cells #[.int .i64 x,.int .i64 y] 122)).cell? ⟨w.heap.size+1,0,none⟩=some (.int .i64 (cntTo ps k)):=by
     rw [World.cell?_alloc_past _ _ _ xo];exact HI.out.r
    have hv:W2.cell? ⟨w.heap.size+1,0,none⟩=some (.int .i64 (cntTo ps k)):=hc.cell hv0;have hf:W2.frozen? ⟨w.heap.size+1,0,none⟩=false:=by
     refine hc.frozen hv0 ?_;rw [World.frozen?_alloc_past _ _ _ xo];exact HI.out.f
    have bel2:Below w.heap.size w W2:=hc.below (by simp;omega) (HI.out.bel.alloc xo _);have hsz:w3.heap.size<W2.heap.size:=by have:=hc.size;simp at this;omega
    have BE:=hid bel2;clear hbz hab hc hv0 bel2;by_cases c0:y= -1
    · subst c0;have hcn:cntTo ps (k+1)=cntTo ps k:=cntTo_no (by rw [HY.out];decide);have HN:=hid hcn;clear hcn;gi_wp2
      exact ⟨KeepsOthers.refl _,TabKp.refl,by rw [HN.out];exact hv,hf,BE.out,hsz⟩
    · have c0':(y != -1)=true:=by simpa using c0
      have hcn:cntTo ps (k+1)=cntTo ps k+1:=cntTo_yes (by rw [HY.out];omega);have HN:=hid hcn;clear hcn c0;gi_wp2
      have hbel3:Below w.heap.size w (W2.setCell ⟨w.heap.size+1,0,none⟩ (.int .i64 ((cntTo ps k:Nat)+1:Int))):=BE.out.setCell (by show w.heap.size≤w.heap.size+1;omega) _;refine ⟨KeepsOthers.setCell _ _ _,⟨?_,fun _=>HG.out.below hbel3,fun _=>HP.out.below hbel3⟩,?_,?_,hbel3,by simpa using hsz⟩
      · exact heap_setCell_ne _ _ _ (by show w3.heap.size≠w.heap.size+1;omega)
      · rw [World.cell?_setCell_same _ _ _ hv,HN.out];rfl
      · simpa using hf
   case done=>
    intro D W hD hi hK;obtain ⟨hr,hf,hbel,hsz⟩:=hi;rw [tabRows_length] at hr;have HBL:=hid hbel;clear hbel;go_wp2
    have hK2:(W.setCell ⟨w.heap.size+1,0,none⟩ (.int .i64 (cntTo ps gs.length))).heap[D]? =some (.deferred (some [])):=(KeepsOthers.setCell _ _ _).same _ _ hK rfl;have hcalm:=Calm.putObj (B:=w.heap.size) (.deferred none) (by simp at hD;omega) hK2 rfl;exact postM_one hK2 (results_ct rfl rfl (run_loadVar_one Tryz.underlying3 rfl (hcalm.cell (World.cell?_setCell_same _ _ _ hr)))) ⟨rfl,hcalm.below (Nat.le_refl _) (HBL.out.setCell (by show w.heap.size≤w.heap.size+1;omega) _)⟩
 · have hm':may gs ps=false:=by simpa using hm
   have hck:=fun w' (hb:Below w.heap.size w w')=>Check_ok ga aa gc ac gs ps w' (HG.out.below hb) (HP.out.below hb) hlg hla
   rw [mayE_no hm',liveN_no hm'];rw [mayE_no hm'] at hck;have HC:=hid hck;clear hg hp hm hm' hck;refine calls_of_wp_m Tryz.func52 rfl ?_;simp only [Tryz.ntmps52,List.size_toArray,List.length_cons,List.length_nil,Nat.reduceAdd,Nat.reduceSub,Array.replicate_succ,Array.replicate_zero,List.push_toArray,List.append_toArray,List.nil_append,List.cons_append];go_wp2_with fail
   have hb2:Below w.heap.size w ((w.alloc (.cells #[.slice ga gs.length gc,.slice aa ps.length ac] 31)).alloc (.cells #[.int .i64 0] 3)):=((Below.refl _ w).alloc (Nat.le_refl _) _).alloc xsi _;refine (HC.out _ hb2).mono ?_;rintro e w3 ⟨rfl,hb3⟩;have hz3:=hb3.size;rw [World.size_alloc,World.size_alloc] at hz3;have e2:w3.cell? ⟨w.heap.size+1,0,none⟩=some (.int .i64 0):=(hb3.cell (p:=⟨w.heap.size+1,0,none⟩) xsi).trans xcw;have e3:w3.frozen? ⟨w.heap.size+1,0,none⟩=false:=(hb3.frozen (p:=⟨w.heap.size+1,0,none⟩) xsi).trans xcw;have hb4:=hb2.trans (hb3.mono (by simp;omega));have HB:=hid hb4;clear hb2 hb3 hb4;go_wp2
   exact postM_none (results_ct rfl rfl (run_loadVar_one Tryz.underlying3 rfl (World.cell?_setCell_same _ _ _ e2))) ⟨rfl,HB.out.setCell (by show w.heap.size≤w.heap.size+1;omega) _⟩
end
section
open Go.RowKit Go.Shelf
def Asked (w:World) (gs ps:List Int) (e:Ending) (w':World):Prop:=
  ∃ B v u,e= .returned (.tuple #[.pointer (some ⟨B,0,none⟩),.int .i64 0])∧w.heap.size≤B∧w'.heap[B]? =some (.cells #[v,u] 127)∧
    w'.ownsRow w.heap.size 3 1 v gs.length (gs.map (Value.int .i64))∧w'.ownsRow w.heap.size 3 1 u ps.length (ps.map (Value.int .i64))∧
    (∀k l,v.ownBlock=some k→u.ownBlock=some l→k≠l)∧Below w.heap.size w w'
theorem tasked_ok (ga aa:Option Addr) (gc ac:Nat) (gs ps:List Int) (n g at_:Int) (w:World) (hg:IsInts w ga gs) (hp:IsInts w aa ps) (hm:may gs ps=true) (ht:0≤at_) (hi:isH gs ps n g=true):
    Calls Tryz.prog 77 #[tabV ga gs.length gc aa ps.length ac,.agg #[.int .i64 n,.int .i64 g],.int .i64 at_] w (Asked w gs ps):=by
 obtain ⟨h1,h2⟩:=may_len hm;rw [h1];have HG:=hid hg;have HP:=hid hp;have HB:=hid ((((Below.refl _ w).alloc (Nat.le_refl _) (.cells #[.slice ga gs.length gc,.slice aa gs.length ac] 31)).alloc xsi (.cells #[.int .i64 n,.int .i64 g] 35)));have HC:=hid (fun w' (hb:Below w.heap.size w w')=>Check_ok ga aa gc ac gs ps w' (HG.out.below hb) (HP.out.below hb) xo xo);rw [mayE_yes hm,h1] at HC;have HT:=hid (fun w' (hb:Below w.heap.size w w')=>Twin_ok ga aa gc ac gs ps w' (HG.out.below hb) (HP.out.below hb) h2 xo);rw [h1] at HT;have H1:=hid h1;have HM:=hid hm;have HI:=hid hi;clear hg hp hm hi h1;go_enter Tryz.func77,Tryz.ntmps77
 go_wp2_with fail
 refine (HC.out _ HB.out).mono ?_;rintro e w3 ⟨rfl,hb3⟩;have hz3:=hb3.size;rw [World.size_alloc,World.size_alloc] at hz3;have e0:w3.cell? ⟨w.heap.size,0,none⟩=some (.slice ga gs.length gc):=(hb3.cell (p:=⟨w.heap.size,0,none⟩) (by simp;omega)).trans xcw;have e1:w3.cell? ⟨w.heap.size,1,none⟩=some (.slice aa gs.length ac):=(hb3.cell (p:=⟨w.heap.size,1,none⟩) (by simp;omega)).trans xcw;have e2:w3.cell? ⟨w.heap.size+1,0,none⟩=some (.int .i64 n):=(hb3.cell (p:=⟨w.heap.size+1,0,none⟩) xsi).trans xcw;have e3:w3.cell? ⟨w.heap.size+1,1,none⟩=some (.int .i64 g):=(hb3.cell (p:=⟨w.heap.size+1,1,none⟩) xsi).trans xcw;have HB3:=hid (HB.out.trans (hb3.mono (by simp;omega)));clear hb3;go_wp2_with fail
 refine (HT.out _ HB3.out).mono ?_;rintro e w4 ⟨v,u,rfl,hov,hou,hne,hb4⟩;have hz4:=hb4.size;have i2:w4.cell? ⟨w.heap.size+1,0,none⟩=some (.int .i64 n):=(hb4.cell (p:=⟨w.heap.size+1,0,none⟩) (by show w.heap.size+1<w3.heap.size;omega)).trans e2;have i3:w4.cell? ⟨w.heap.size+1,1,none⟩=some (.int .i64 g):=(hb4.cell (p:=⟨w.heap.size+1,1,none⟩) (by show w.heap.size+1<w3.heap.size;omega)).trans e3;have il:w.heap.size+1<w4.heap.size:=xo;have HB4:=hid (HB3.out.trans (hb4.mono xo));obtain ⟨va,vc,rfl,hiv,_⟩:=ints_of_owns hov;obtain ⟨ua,uc,rfl,hiu,_⟩:=ints_of_owns hou;rw [H1.out] at hou;rw [H1.out];have hO:=And.intro hov (And.intro hou hne);have HO:=hid hO;have hc0:((w4.alloc (.cells #[.slice va gs.length vc,.slice ua gs.length uc] 127))).cell? ⟨w4.heap.size,0,none⟩=some (.slice va gs.length vc):=xcw;have hc1:((w4.alloc (.cells #[.slice va gs.length vc,.slice ua gs.length uc] 127))).cell? ⟨w4.heap.size,1,none⟩=some (.slice ua gs.length uc):=xcw;have hh:=has_ok w4.heap.size va ua vc uc gs ps n g _ hc0 hc1 (hiv.alloc _) (hiu.alloc _) H1.out xo (fun k hk=>(okAt_facts (may_at HM.out hk)).2.2.1);rw [HI.out] at hh;have HH:=hid hh;clear hh hc0 hc1 hO hov hou hne hiv hiu hb4;go_wp2_with fail
 refine HH.out.mono ?_;rintro e w5 ⟨rfl,hb5⟩;have HB5:=hid hb5;clear hb5;go_wp2
 go_ret2
 obtain ⟨hov,hou,hne⟩:=HO.out;have hb5:=HB5.out;have hz5:=hb5.size;rw [World.size_alloc] at hz5;refine ⟨w4.heap.size,.slice va gs.length vc,.slice ua gs.length uc,rfl,by omega,?_,?_,?_,?_,?_⟩
 · exact (hb5.block _ xsi).trans (World.alloc_heap_new _ _)
 · exact owns_below (owns_base (hov.alloc _) xo) hb5
 · rw [H1.out];exact owns_below (owns_base (hou.alloc _) xo) hb5
 · intro k l h1 h2;exact hne k l h1 (by rw [H1.out];exact h2)
 · exact (HB4.out.alloc xo _).trans (hb5.mono (by simp;omega))
def AskNo (w:World) (x:Int) (e:Ending) (w':World):Prop:=e= .returned (.tuple #[.pointer none,.int .i64 x])∧Below w.heap.size w w'
theorem tasked_bad (ga aa:Option Addr) (gc ac:Nat) (gs ps:List Int) (n g at_:Int) (w:World) (hg:IsInts w ga gs) (hp:IsInts w aa ps) (hm:may gs ps=false) (hlg:gs.length≤1000000000) (hla:ps.length≤1000000000):
    Calls Tryz.prog 77 #[tabV ga gs.length gc aa ps.length ac,.agg #[.int .i64 n,.int .i64 g],.int .i64 at_] w (AskNo w 8):=by
 have HG:=hid hg;have HP:=hid hp;have HB:=hid ((((Below.refl _ w).alloc (Nat.le_refl _) (.cells #[.slice ga gs.length gc,.slice aa ps.length ac] 31)).alloc xsi (.cells #[.int .i64 n,.int .i64 g] 35)));have HC:=hid (fun w' (hb:Below w.heap.size w w')=>Check_ok ga aa gc ac gs ps w' (HG.out.below hb) (HP.out.below hb) hlg hla);rw [mayE_no hm] at HC;clear hg hp hm;go_enter Tryz.func77,Tryz.ntmps77
 go_wp2_with fail
 refine (HC.out _ HB.out).mono ?_;rintro e w3 ⟨rfl,hb3⟩;go_wp2
 go_ret2
 exact ⟨rfl,HB.out.trans (hb3.mono (by simp;omega))⟩
theorem tasked_not (ga aa:Option Addr) (gc ac:Nat) (gs ps:List Int) (n g at_:Int) (w:World) (hg:IsInts w ga gs) (hp:IsInts w aa ps) (hm:may gs ps=true) (ht:0≤at_) (hi:isH gs ps n g=false):
    Calls Tryz.prog 77 #[tabV ga gs.length gc aa ps.length ac,.agg #[.int .i64 n,.int .i64 g],.int .i64 at_] w (AskNo w 140):=by
 obtain ⟨h1,h2⟩:=may_len hm;rw [h1];have HG:=hid hg;have HP:=hid hp;have HB:=hid ((((Below.refl _ w).alloc (Nat.le_refl _) (.cells #[.slice ga gs.length gc,.slice aa gs.length ac] 31)).alloc xsi (.cells #[.int .i64 n,.int .i64 g] 35)));have HC:=hid (fun w' (hb:Below w.heap.size w w')=>Check_ok ga aa gc ac gs ps w' (HG.out.below hb) (HP.out.below hb) xo xo);rw [mayE_yes hm,h1] at HC;have HT:=hid (fun w' (hb:Below w.heap.size w w')=>Twin_ok ga aa gc ac gs ps w' (HG.out.below hb) (HP.out.below hb) h2 xo);rw [h1] at HT;have H1:=hid h1;have HM:=hid hm;have HI:=hid hi;clear hg hp hm hi h1;go_enter Tryz.func77,Tryz.ntmps77
 go_wp2_with fail
 refine (HC.out _ HB.out).mono ?_;rintro e w3 ⟨rfl,hb3⟩;have hz3:=hb3.size;rw [World.size_alloc,World.size_alloc] at hz3;have e0:w3.cell? ⟨w.heap.size,0,none⟩=some (.slice ga gs.length gc):=(hb3.cell (p:=⟨w.heap.size,0,none⟩) (by simp;omega)).trans xcw;have e1:w3.cell? ⟨w.heap.size,1,none⟩=some (.slice aa gs.length ac):=(hb3.cell (p:=⟨w.heap.size,1,none⟩) (by simp;omega)).trans xcw;have e2:w3.cell? ⟨w.heap.size+1,0,none⟩=some (.int .i64 n):=(hb3.cell (p:=⟨w.heap.size+1,0,none⟩) xsi).trans xcw;have e3:w3.cell? ⟨w.heap.size+1,1,none⟩=some (.int .i64 g):=(hb3.cell (p:=⟨w.heap.size+1,1,none⟩) xsi).trans xcw;have HB3:=hid (HB.out.trans (hb3.mono (by simp;omega)));clear hb3;go_wp2_with fail
 refine (HT.out _ HB3.out).mono ?_;rintro e w4 ⟨v,u,rfl,hov,hou,hne,hb4⟩;have hz4:=hb4.size;have i2:w4.cell? ⟨w.heap.size+1,0,none⟩=some (.int .i64 n):=(hb4.cell (p:=⟨w.heap.size+1,0,none⟩) (by show w.heap.size+1<w3.heap.size;omega)).trans e2;have i3:w4.cell? ⟨w.heap.size+1,1,none⟩=some (.int .i64 g):=(hb4.cell (p:=⟨w.heap.size+1,1,none⟩) (by show w.heap.size+1<w3.heap.size;omega)).trans e3;have il:w.heap.size+1<w4.heap.size:=xo;have HB4:=hid (HB3.out.trans (hb4.mono xo));obtain ⟨va,vc,rfl,hiv,_⟩:=ints_of_owns hov;obtain ⟨ua,uc,rfl,hiu,_⟩:=ints_of_owns hou;rw [H1.out] at hou;rw [H1.out];have hO:=And.intro hov (And.intro hou hne);have HO:=hid hO;have hc0:((w4.alloc (.cells #[.slice va gs.length vc,.slice ua gs.length uc] 127))).cell? ⟨w4.heap.size,0,none⟩=some (.slice va gs.length vc):=xcw;have hc1:((w4.alloc (.cells #[.slice va gs.length vc,.slice ua gs.length uc] 127))).cell? ⟨w4.heap.size,1,none⟩=some (.slice ua gs.length uc):=xcw;have hh:=has_ok w4.heap.size va ua vc uc gs ps n g _ hc0 hc1 (hiv.alloc _) (hiu.alloc _) H1.out xo (fun k hk=>(okAt_facts (may_at HM.out hk)).2.2.1);rw [HI.out] at hh;have HH:=hid hh;clear hh hc0 hc1 hO hov hou hne hiv hiu hb4;go_wp2_with fail
 refine HH.out.mono ?_;rintro e w5 ⟨rfl,hb5⟩;have HB5:=hid hb5;clear hb5;go_wp2
 go_ret2
 have hb5:=HB5.out;exact ⟨rfl,(HB4.out.alloc xo _).trans (hb5.mono (by simp;omega))⟩
end
end Go.Proofs.YtjhpblejlchhjaaGreatDoor

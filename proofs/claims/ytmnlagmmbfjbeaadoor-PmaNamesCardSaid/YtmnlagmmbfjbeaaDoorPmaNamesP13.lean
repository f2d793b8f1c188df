/- Merged: SlFns, Ref05, Ref09, Ref09C, PmCk, Tz, OccNx, DownPlain, DownMay, IdxLaw, Split. -/
import Derived.Test.YtmnlagmmbfjbeaaDoorPmaNamesP12
import Derived.Test.YtmnlagmmbfjbeaaDoorPmaNamesP4
import Derived.Test.YtmnlagmmbfjbeaaDoorPmaNamesP3
import Derived.Test.YtmnlagmmbfjbeaaDoorPmaNamesP8
import Derived.Test.YtmnlagmmbfjbeaaDoorPmaNamesP11
import Derived.Test.YtmnlagmmbfjbeaaDoorPmaNamesP1
import Derived.Laws.Bits64b
import Derived.Lib.TrailingZeros
import Derived.Test.YtmnlagmmbfjbeaaDoorPmaNamesP5
namespace Go.Proofs.YtmnlagmmbfjbeaaDoor
set_option maxRecDepth 100000
set_option maxHeartbeats 40000000
set_option linter.unusedVariables false
set_option linter.unusedSimpArgs false
section
open Go.RowKit
end
section
open Go.RowKit Go.Shelf Go.Sort
end
section
open Go.RowKit Go.Shelf Go.Sort
end
section
open Go.RowKit
theorem GapN.nums {c:Cfg} {s:SlC} {a H:Nat} (k:GapN c s a H):4≤2^a∧2^a≤64∧1≤s.cs.length∧s.cs.length≤65536∧s.ks.length≤65536:=by
 have ha4:2^2≤2^a:=Nat.pow_le_pow_right xo k.cap.a2;have ha6:2^a≤2^6:=Nat.pow_le_pow_right xo k.cap.a6;have hH0:=Nat.two_pow_pos H;have hnc:=k.nc;have:=k.cap.big;have h9:1*2^H≤2^a*2^H:=Nat.mul_le_mul_right _ xo;have:=k.nk;omega
end
section
open Go.RowKit
def pmV (c:Cfg) (s:SlC) (a:SlA):Value:= .agg #[.int .u8 c.tag,.int .i64 c.most,.int .i64 c.seg,.int .i64 c.least,.int .i64 c.den,.int .i64 c.ll,.int .i64 c.rl,.int .i64 c.rh,.int .i64 c.lh,.int .i64 s.seg,.slice a.wa s.ws.length a.wc,.slice a.ka s.ks.length a.kc,.slice a.va s.vs.length a.vc,.slice a.ca s.cs.length a.cc,.int .u64 s.laid]
def pmE (c:Cfg) (s:SlC):Int:=if gapE c s=0 then seekE s else gapE c s
theorem pmaCheck_core (c:Cfg) (s:SlC) (wa ka va ca:Option Addr) (wc kc vc cc:Nat) (g z:Int) (w:World)
    (GK:Hid (∀W,Below w.heap.size w W→Calls Tryd.prog 26 #[.agg #[.int .u8 c.tag,.int .i64 c.most,.int .i64 c.seg,.int .i64 c.least,.int .i64 c.den,.int .i64 c.ll,.int .i64 c.rl,.int .i64 c.rh,.int .i64 c.lh],.agg #[.int .i64 s.seg,.slice wa s.ws.length wc,.slice ka s.ks.length kc,.slice va s.vs.length vc,.slice ca s.cs.length cc,.int .u64 s.laid]] W (AnsB W (.int .i64 g))))
    (SK:Hid (∀W,Below w.heap.size w W→Calls Tryd.prog 27 #[.agg #[.int .i64 s.seg,.slice wa s.ws.length wc,.slice ka s.ks.length kc,.slice va s.vs.length vc,.slice ca s.cs.length cc,.int .u64 s.laid]] W (AnsB W (.int .i64 z)))):
    Calls Tryd.prog 13 #[.agg #[.int .u8 c.tag,.int .i64 c.most,.int .i64 c.seg,.int .i64 c.least,.int .i64 c.den,.int .i64 c.ll,.int .i64 c.rl,.int .i64 c.rh,.int .i64 c.lh,.int .i64 s.seg,.slice wa s.ws.length wc,.slice ka s.ks.length kc,.slice va s.vs.length vc,.slice ca s.cs.length cc,.int .u64 s.laid]] w (AnsB w (.int .i64 (if g=0 then z else g))):=by
 by_cases h:g=0
 · rw [if_pos h];have g1:(g != 0)=false:=by simpa using h
   clear h;go_enter Tryd.func13,Tryd.ntmps13
   go_wp2_with fail
   refine (GK.out _ xbel).mono ?_;rintro e w1 ⟨rfl,hb1⟩;have hz_w1:=hb1.size;try simp only [World.size_alloc,World.size_setCell] at hz_w1
   have hh:=bc15 hb1 (al15 (b:=w.heap.size) xsi);obtain ⟨c_t0,c_t1,c_t2,c_t3,c_t4,c_t5,c_t6,c_t7,c_t8,c_t9,c_t10,c_t11,c_t12,c_t13,c_t14⟩:=hh;have z_t:=blt hb1 (alz (b:=w.heap.size) xsi);have hB1:Below w.heap.size w w1:=xbel;have HB1:=hid hB1;clear hb1 hB1;go_wp2_with fail
   refine (SK.out _ HB1.out).mono ?_;rintro e w2 ⟨rfl,hb2⟩;have hz_w2:=hb2.size;simp (disch:=omega) only [xcl hb2] at *;replace z_t:=blt hb2 z_t;have HB2:=xv hb2 HB1;clear hb2;go_wp2
   go_ret
   exact ⟨rfl,HB2.out⟩
 · rw [if_neg h];have g1:(g != 0)=true:=by simpa using h
   clear h SK;go_enter Tryd.func13,Tryd.ntmps13
   go_wp2_with fail
   refine (GK.out _ xbel).mono ?_;rintro e w1 ⟨rfl,hb1⟩;have hz_w1:=hb1.size;try simp only [World.size_alloc,World.size_setCell] at hz_w1
   have hh:=bc15 hb1 (al15 (b:=w.heap.size) xsi);obtain ⟨c_t0,c_t1,c_t2,c_t3,c_t4,c_t5,c_t6,c_t7,c_t8,c_t9,c_t10,c_t11,c_t12,c_t13,c_t14⟩:=hh;have z_t:=blt hb1 (alz (b:=w.heap.size) xsi);have hB1:Below w.heap.size w w1:=xbel;go_wp2
   go_ret
   exact ⟨rfl,hB1⟩
theorem pmaCheck_ok (c:Cfg) (s:SlC) (a:SlA) (hl:s.ws.length≤1000000000000) (hl2:s.ks.length≤1000000000000) (hcc:s.cs.length≤a.cc) (w:World) (hin:SlIn w s a):
    Calls Tryd.prog 13 #[pmV c s a] w (AnsB w (.int .i64 (pmE c s))):=
  pmaCheck_core c s a.wa a.ka a.va a.ca a.wc a.kc a.vc a.cc (gapE c s) (seekE s) w (hid fun W hb=>gapCheck_ok c s a hl hl2 hcc W (hin.below hb)) (hid fun W hb=>seekCheck_ok s a hl hl2 W (hin.below hb))
end
section
open Go.RowKit
def TabAt (w:World):Prop:=∀j,j<64→w.cell? ⟨0,j,none⟩=some (.int .u8 (Lib.deBruijn64tab.getD j 0))
theorem TabAt.below {w w':World} (h:TabAt w) (hb:Below w.heap.size w w'):TabAt w':=fun j hj=>(hb.cell (World.block_lt_of_cell? _ _ (h j hj))).trans (h j hj)
theorem tz64_core (x k idx:Nat) (w:World) (hx0:((x:Int)==0)=false)
    (key:IntKind.u64.wrap (bits BinOp.and IntKind.u64 (x:Int) (IntKind.u64.wrap (-(x:Int)))*285870213051353865)/288230376151711744=(idx:Int))
    (hi:idx<64) (hk:k<64) (hcell:w.cell? ⟨0,idx,none⟩=some (.int .u8 k)):
    Calls Tryd.prog 73 #[.int .u64 x] w fun e w'=>e= .returned (.int .i64 k)∧w=w':=by
 go_enter Tryd.func73,Tryd.ntmps73
 go_wp2_with (simp only [key])
 go_ret
 exact ⟨rfl,rfl⟩
theorem tz64_key (x a:Nat) (hx:x<18446744073709551616) (hx0:x≠0) (hlow:x &&& (18446744073709551616-x)=a):
    IntKind.u64.wrap (bits BinOp.and IntKind.u64 (x:Int) (IntKind.u64.wrap (-(x:Int)))*285870213051353865)/288230376151711744=((a*285870213051353865%18446744073709551616/288230376151711744:Nat):Int):=by
 have e1:IntKind.u64.wrap (-(x:Int))=((18446744073709551616-x:Nat):Int):=by rw [IntKind.wrap_u64];omega
 rw [e1,bits_and_u64_nat x _ hx xo,hlow,IntKind.wrap_u64];omega
def tzI (x:Int):Nat:=Lib.ctz 64 x.toNat
theorem tz_ok (x:Int) (h0:0≤x) (h1:x<18446744073709551616) (hx:x≠0) (w:World) (hT:TabAt w):
    Calls Tryd.prog 73 #[.int .u64 x] w fun e w'=>e= .returned (.int .i64 (tzI x))∧w=w':=by
 obtain ⟨n,rfl⟩:∃n:Nat,x=n:=⟨x.toNat,by omega⟩
 have hn0:n≠0:=xo;obtain ⟨hlow,hk⟩:=Lib.lowest_bit 64 n hn0 xo;obtain ⟨hi,htab⟩:=Lib.deBruijn64_at _ hk;have hcell:=hT _ hi;rw [htab] at hcell;rw [tzI,Int.toNat_natCast];exact tz64_core n _ _ w (by simp;omega) (tz64_key n _ xo hn0 hlow) hi hk hcell
theorem tzI_bit {x:Int} (h0:0≤x) (h1:x<18446744073709551616) (hx:x≠0):tzI x<64∧bitI x (tzI x)=true∧∀j,j<tzI x→bitI x j=false:=by
 obtain ⟨n,rfl⟩:∃n:Nat,x=n:=⟨x.toNat,by omega⟩
 have hn0:n≠0:=xo;obtain ⟨m,hm,hk⟩:=Lib.ctzFrom_spec 64 n xo xo;have e:tzI (n:Int)=Lib.ctzFrom 64 n:=by rw [tzI,Int.toNat_natCast,Lib.ctz,if_neg hn0]
 rw [e];generalize Lib.ctzFrom 64 n=c at *;refine ⟨hk,?_,fun j hj=> ?_⟩
 · rw [bitI_nat,hm,Nat.mul_comm,Nat.testBit_mul_two_pow];simp
 · rw [bitI_nat,hm,Nat.mul_comm,Nat.testBit_mul_two_pow];simp;omega
end
section
open Go.RowKit Go.Shelf
attribute [local go_sem] Oper.semAt_some
def nx (ws:List Int) (a n:Nat):Option Nat:=(List.range' a (n-a)).find? (bitW ws)
theorem nx_some {ws:List Int} {a n i:Nat}:nx ws a n=some i↔a≤i∧i<n∧bitW ws i=true∧∀j,a≤j→j<i→bitW ws j=false:=by
 rw [nx,List.find?_eq_some_iff_getElem];constructor
 · rintro ⟨h1,k,hk,h2,h3⟩;rw [List.getElem_range'] at h2;rw [List.length_range'] at hk;refine ⟨by omega,by omega,h1,fun j j1 j2=> ?_⟩;have:=h3 (j-a) xo;rw [List.getElem_range'] at this;rw [show a+1*(j-a)=j by omega] at this;simpa using this
 · rintro ⟨h1,h2,h3,h4⟩;refine ⟨h3,i-a,by rw [List.length_range'];omega,by rw [List.getElem_range'];omega,fun j hj=> ?_⟩;rw [List.getElem_range'];simpa using h4 (a+1*j) xo xo
theorem nx_none {ws:List Int} {a n:Nat}:nx ws a n=none↔∀j,a≤j→j<n→bitW ws j=false:=by
 rw [nx,List.find?_eq_none];constructor
 · intro h j h1 h2;simpa using h j (List.mem_range'_1.2 ⟨h1,by omega⟩)
 · intro h j hj;have:=List.mem_range'_1.1 hj;simpa using h j this.1 xo
structure NxI (ws:List Int) (a n b0 b1 B:Nat) (w:World) (k:Nat) (W:World):Prop where
 free:∀j,a≤j→j<64*(a/64+k)→j<n→bitW ws j=false
 box0:W.cell? ⟨b0,0,none⟩=some (.int .i64 0)
 box1:W.cell? ⟨b1,0,none⟩=some (.int .i64 0)
 fz0:W.frozen? ⟨b0,0,none⟩=false
 fz1:W.frozen? ⟨b1,0,none⟩=false
 bel:Below B w W
theorem NxI.calm {ws:List Int} {a n b0 b1 B M:Nat} {w:World} {k:Nat} {W W':World} (h:NxI ws a n b0 b1 B w k W) (hc:Calm M W W') (hB:B≤M):NxI ws a n b0 b1 B w k W':=
  ⟨h.free,hc.cell h.box0,hc.cell h.box1,hc.frozen h.box0 h.fz0,hc.frozen h.box1 h.fz1,hc.below hB h.bel⟩
structure NxX (ws:List Int) (a n b0 b1 B:Nat) (w:World) (c:Code) (W:World):Prop where
 code:c= .ret
 hit:∃i,nx ws a n=some i∧W.cell? ⟨b0,0,none⟩=some (.int .i64 i)
 box1:W.cell? ⟨b1,0,none⟩=some (.int .i64 0)
 bel:Below B w W
theorem NxX.calm {ws:List Int} {a n b0 b1 B M:Nat} {w:World} {c:Code} {W W':World} (h:NxX ws a n b0 b1 B w c W) (hc:Calm M W W') (hB:B≤M):NxX ws a n b0 b1 B w c W':=
  ⟨h.code,h.hit.imp fun i hi=>⟨hi.1,hc.cell hi.2⟩,hc.cell h.box1,hc.below hB h.bel⟩
theorem nx_hit {ws:List Int} {a n k:Nat} (hu:U64s ws) (hk:k<(n+63)/64-a/64) (hf:∀j,a≤j→j<64*(a/64+k)→j<n→bitW ws j=false) (h0:0≤cutV ws a n (a/64+k)) (h1:cutV ws a n (a/64+k)<18446744073709551616) (hx:cutV ws a n (a/64+k)≠0):
    nx ws a n=some (64*(a/64+k)+tzI (cutV ws a n (a/64+k))):=by
 obtain ⟨t1,t2,t3⟩:=tzI_bit h0 h1 hx;rw [cutV_bit hu xo t1] at t2;simp only [inW,Bool.and_eq_true,decide_eq_true_eq] at t2;obtain ⟨t2,t4,t5⟩:=t2;refine nx_some.2 ⟨t4,t5,t2,fun j j1 j2=> ?_⟩;by_cases hj:j<64*(a/64+k)
 · exact hf j j1 hj xo
 · have:=t3 (j-64*(a/64+k)) xo;rw [cutV_bit hu xo xo,show 64*(a/64+k)+(j-64*(a/64+k))=j by omega,inW] at this;rw [decide_eq_true j1,decide_eq_true (by omega:j<n)] at this;simpa using this
theorem nx_miss {ws:List Int} {a n k:Nat} (hu:U64s ws) (hk:k<(n+63)/64-a/64) (hf:∀j,a≤j→j<64*(a/64+k)→j<n→bitW ws j=false) (hx:cutV ws a n (a/64+k)=0):
    ∀j,a≤j→j<64*(a/64+(k+1))→j<n→bitW ws j=false:=by
 intro j j1 j2 j3;by_cases hj:j<64*(a/64+k)
 · exact hf j j1 hj j3
 · have:=cutV_bit hu (a:=a) (b:=n) (k:=a/64+k) (j:=j-64*(a/64+k)) xo xo;rw [hx,bitI_zero,show 64*(a/64+k)+(j-64*(a/64+k))=j by omega,inW,decide_eq_true j1,decide_eq_true j3] at this;simpa using this.symm
theorem Next_ok (wa:Option Addr) (wc:Nat) (ws:List Int) (hu:U64s ws) (n a:Nat) (hn:n≤65536) (hl:ws.length≤1000000000000) (hmay:wMayB ws n=true) (han:a≤n) (w:World) (hw:IsRow .u64 w wa ws) (hT:TabAt w):
    Calls Tryd.prog 84 #[.slice wa ws.length wc,.int .i64 n,.int .i64 a] w (AnsB w (.tuple #[.int .i64 ((nx ws a n).getD 0:Nat),.int .i64 (if (nx ws a n).isSome then 0 else 6)])):=by
 have AK:=hid (fun w hw=>asked_ok wa wc ws hu n hn hl hmay w hw);have hlen:n≤64*ws.length:=by
  simp only [wMayB,Bool.and_eq_true,decide_eq_true_eq] at hmay;omega
 have IT:=hid (fun S b1 b2 b3 s1 s2 s3 sw w hw c1 c2 c3=>parts1_iter wa wc ws hu a n han hn xo hl S b1 b2 b3 s1 s2 s3 sw w hw c1 c2 c3);have HW:=hid hw;have HT:=hid hT;have HLT:=hid (fun x (h:wa=some x) (h0:0<ws.length)=>(show x.block<w.heap.size from by
  obtain ⟨bb,off,x',hx,-,-,hlt⟩:=hw.get h0;rw [hx] at h;cases h;exact hlt))
 obtain ⟨m,hm⟩:∃m,(n+63)/64-a/64=m:=⟨_,rfl⟩
 have HP:=hid (fun k (hk:k<m)=>partsL_get ws (a:=a) (b:=n) (k:=k) xo);have HPL:=hid ((partsL_length ws a n).trans hm);have HV:=hid (fun k (hk:k<m)=>cutV_bd hu (a:=a) (b:=n) (k:=a/64+k) xo);have HIT:=hid (fun k (hk:k<m) hf h0 h1 hx=>nx_hit (ws:=ws) (a:=a) (n:=n) (k:=k) hu xo hf h0 h1 hx);have MIS:=hid (fun k (hk:k<m) hf hx=>nx_miss (ws:=ws) (a:=a) (n:=n) (k:=k) hu xo hf hx);have NON:=hid (fun (hf:∀j,a≤j→j<64*(a/64+m)→j<n→bitW ws j=false)=>(nx_none (ws:=ws) (a:=a) (n:=n)).2 fun j j1 j2=>hf j j1 xo j2);have hmb:m≤1024:=xo;have hqb:a/64+m≤1024:=xo;obtain ⟨M,hM⟩:∃M,ws.length=M:=⟨_,rfl⟩
 rw [hM] at hlen hl AK IT HLT ⊢;clear hw hmay hM hu hm hT;refine calls_of_wp_m Tryd.func84 rfl ?_;simp only [Tryd.ntmps84,List.size_toArray,List.length_cons,List.length_nil,Nat.reduceAdd,Nat.reduceSub,Array.replicate_succ,Array.replicate_zero,List.push_toArray,List.append_toArray,List.nil_append,List.cons_append];obtain ⟨V,hV⟩:∃V:Int,(((nx ws a n).getD 0:Nat):Int)=V:=⟨_,rfl⟩
 obtain ⟨E,hE⟩:∃E:Int,(if (nx ws a n).isSome then (0:Int) else 6)=E:=⟨_,rfl⟩
 rw [hV,hE];have YES:=hid (fun i (h:nx ws a n=some i)=>(show V=i∧E=0 by rw [←hV,←hE,h];exact ⟨rfl,rfl⟩));have NO:=hid (fun (h:nx ws a n=none)=>(show V=0∧E=6 by rw [←hV,←hE,h];exact ⟨rfl,rfl⟩));clear hV hE;have g1:decide ((0:Int)≤a)=true:=by simp
 have g2:decide ((a:Int)≤n)=true:=by simp;omega
 go_wp2_with fail
 refine (AK.out _ (HW.out.below ((br.alloc (Nat.le_refl _) _).alloc xsi _))).mono ?_;rintro e w' ⟨rfl,rfl⟩;go_wp2_with fail
 refine (parts_ok wa M wc a n _).mono ?_;rintro e w2 ⟨rfl,rfl⟩;go_wp2
 refine wp_range (xs:=partsL ws a n) (Kp:=KpS (fun k=>k≠w.heap.size∧k≠w.heap.size+1∧k<w.heap.size+5)) rfl (enters_of Tryd.func82 xk rfl)
   (IT.out (fun k=>k≠w.heap.size∧k≠w.heap.size+1∧k<w.heap.size+5) (w.heap.size+1+1) (w.heap.size+1+1+1) (w.heap.size+1+1+2) xo xo xo ?sw _ ?hw ?c1 ?c2 ?c3) br (fun _ _ _=>rfl) (fun h k=>fun i hi=>(k i hi).trans (h i hi)) ?kb ?ps
   (NxI ws a n w.heap.size (w.heap.size+1) w.heap.size w) (NxX ws a n w.heap.size (w.heap.size+1) w.heap.size w) ?hI ?hX ?h0 ?round ?done ?stop
 case sw=>intro x hx h0;have:=HLT.out x hx h0;omega
 case hw=>exact HW.out.below xbel
 case c1=>(exact xcn)
 case c2=>(exact xcn)
 case c3=>(exact xcn)
 case kb=>
  intro W l o o' hl _ _ k hk;simp at hl;exact World.putObj_heap_other xo
 case ps=>
  intro x hx;simp only [partsL,List.mem_map] at hx;obtain ⟨k,_,rfl⟩:=hx;rfl
 case hI=>
  intro k W W' h hc;exact h.calm hc (by simp;omega)
 case hX=>
  intro k W W' h hc;exact h.calm hc (by simp;omega)
 case h0=>
  exact ⟨fun j j1 j2=>by omega,by (exact xcn),by (exact xcn),by (exact xcn),by (exact xcn),by (exact xbel)⟩
 case round=>
  intro l k W hl hk hi;rw [HPL.out] at hk;rw [HP.out k hk];have hv:=HV.out k hk;have HI:=hid (fun hf=>HIT.out k hk hf hv.1 hv.2);have MI:=hid (fun hf=>MIS.out k hk hf);have T1:=hid (fun (hx:cutV ws a n (a/64+k)≠0) W hT=>tz_ok _ hv.1 hv.2 hx W hT);have T2:=hid (fun (hx:cutV ws a n (a/64+k)≠0)=>(tzI_bit hv.1 hv.2 hx).1);generalize cutV ws a n (a/64+k)=x at *;gi_wp2
  refine ⟨rfl,?_⟩;intro W2 hi2;have hb0:=hi2.box0;have hb1:=hi2.box1;have hf0:=hi2.fz0;have hf1:=hi2.fz1;have HFR:=hid hi2.free;have HBL:=hid hi2.bel;have hkq:a/64+k≤1024:=xo;by_cases hx:x=0
  · subst hx;have MM:=hid (MI.out HFR.out rfl);clear hi hi2 HI MI T1 T2;gi_wp2
    exact ⟨KeepsOthers.refl _,fun _ _=>rfl,⟨MM.out,hb0,hb1,hf0,hf1,HBL.out⟩⟩
  · have hx2:(x != 0)=true:=by simpa using hx
    have HH:=hid (HI.out HFR.out hx);have TT:=hid (T1.out hx W2 (HT.out.below HBL.out));have T3:=T2.out hx;generalize tzI x=t at *;have HE:Hid (((64*(a/64+k)+t:Nat):Int)=64*((a:Int)/64+k)+t):=hid (by push_cast;rfl);clear hi hi2 HI MI T1 T2 hx;gi_wp2_with fail
    refine ⟨trivial,rfl,(callsIn_wide.2 TT.out).mono ?_⟩;rintro e w' ⟨rfl,rfl⟩;gi_wp2
    refine ⟨(KeepsOthers.setCell W2 ⟨w.heap.size,0,none⟩ _).trans (KeepsOthers.setCell _ ⟨w.heap.size+1,0,none⟩ _),⟨rfl,⟨_,HH.out,?_⟩,?_,?_⟩⟩
    · rw [HE.out,World.cell?_setCell_other _ _ _ _ (by intro e;simp at e)];exact World.cell?_setCell_same _ _ _ hb0
    · exact World.cell?_setCell_same _ _ _ (by rw [World.cell?_setCell_other _ _ _ _ (by intro e;simp at e)];exact hb1)
    · exact (HBL.out.setCell xdo _).setCell xdo _
 case done=>
  intro D W hD hi hK;have hb0:=hi.box0;have hb1:=hi.box1;have hf0:=hi.fz0;have hf1:=hi.fz1;have hfr:=hi.free;have hbl:=hi.bel;rw [HPL.out] at hfr;obtain ⟨rfl,rfl⟩:=NO.out (NON.out hfr);simp at hD;have HBL:=hid hbl;clear hi hfr hbl YES NO NON HIT MIS HV HP;go_wp2
  have hK2:((W.setCell ⟨w.heap.size,0,none⟩ (.int .i64 0)).setCell ⟨w.heap.size+1,0,none⟩ (.int .i64 6)).heap[D]? =some (.deferred (some [])):=((Below.heap_setCell _ _ _ _ (by show D≠w.heap.size+1;omega)).trans (Below.heap_setCell _ _ _ _ (by show D≠w.heap.size;omega))).trans hK;have hcalm:Calm (w.heap.size+2) ((W.setCell ⟨w.heap.size,0,none⟩ (.int .i64 0)).setCell ⟨w.heap.size+1,0,none⟩ (.int .i64 6)) (((W.setCell ⟨w.heap.size,0,none⟩ (.int .i64 0)).setCell ⟨w.heap.size+1,0,none⟩ (.int .i64 6)).putObj D (.deferred none)):=Calm.putObj _ xo hK2 rfl;have c0:((W.setCell ⟨w.heap.size,0,none⟩ (.int .i64 0)).setCell ⟨w.heap.size+1,0,none⟩ (.int .i64 6)).cell? ⟨w.heap.size,0,none⟩=some (.int .i64 0):=by
   rw [World.cell?_setCell_other _ _ _ _ (by intro e;simp at e)];exact World.cell?_setCell_same _ _ _ hb0
  have c1:((W.setCell ⟨w.heap.size,0,none⟩ (.int .i64 0)).setCell ⟨w.heap.size+1,0,none⟩ (.int .i64 6)).cell? ⟨w.heap.size+1,0,none⟩=some (.int .i64 6):=World.cell?_setCell_same _ _ _ (by rw [World.cell?_setCell_other _ _ _ _ (by intro e;simp at e)];exact hb1);exact postM_one hK2 (results_cc rfl rfl rfl (run_loadVar_one Tryd.underlying3 rfl (hcalm.cell c0)) (run_loadVar_one Tryd.underlying34 rfl (hcalm.cell c1))) ⟨rfl,hcalm.below xo ((HBL.out.setCell xdo _).setCell xdo _)⟩
 case stop=>
  intro D c W hD hX hK;obtain ⟨rfl,⟨i,hnx,hc0⟩,hc1,hbel⟩:=hX;obtain ⟨rfl,rfl⟩:=YES.out i hnx;simp at hD;have hcalm:Calm (w.heap.size+2) W (W.putObj D (.deferred none)):=Calm.putObj _ xo hK rfl;clear YES NO NON HIT MIS HV HP;go_wp2
  exact postM_one hK (results_cc rfl rfl rfl (run_loadVar_one Tryd.underlying3 rfl (hcalm.cell hc0)) (run_loadVar_one Tryd.underlying34 rfl (hcalm.cell hc1))) ⟨rfl,hcalm.below xo hbel⟩
end
section
open Go.RowKit
section
variable {f g:Nat→Int}
def lvs (f g:Nat→Int):Nat→Nat→List (Int×Int)
  | 0,n=>[(f n,g n)]
  | d+1,n=>lvs f g d (2*n)++lvs f g d (2*n+1)
theorem lvs_length:∀d n,(lvs f g d n).length=2^d:=by
 intro d;induction d with
 | zero=>intro n;rfl
 | succ d ih=>intro n;rw [lvs,List.length_append,ih,ih,Nat.pow_succ];omega
theorem lvs_get:∀d n i,i<2^d→(lvs f g d n)[i]? =some (f (n*2^d+i),g (n*2^d+i)):=by
 intro d;induction d with
 | zero=>
  intro n i hi;have:i=0:=by simp at hi;exact hi
  subst this;simp [lvs]
 | succ d ih=>
  intro n i hi;rw [Nat.pow_succ] at hi;rw [lvs];by_cases h:i<2^d
  · rw [List.getElem?_append_left (by rw [lvs_length];exact h),ih _ _ h];rw [show n*2^(d+1)+i=2*n*2^d+i by rw [Nat.pow_succ,Nat.mul_comm 2 n,Nat.mul_assoc,Nat.mul_comm 2]]
  · rw [List.getElem?_append_right (by rw [lvs_length];omega),lvs_length,ih _ _ xo];rw [show n*2^(d+1)+i=(2*n+1)*2^d+(i-2^d) by rw [Nat.pow_succ,Nat.add_mul,Nat.mul_comm 2 n,Nat.mul_assoc,Nat.mul_comm 2];omega]
def Good (f g:Nat→Int):Nat→Nat→Prop
  | 0,n=>ownB (f n) (g n)=true
  | d+1,n=>ownB (f n) (g n)=true∧joinR (f n) (g n) (f (2*n)) (g (2*n)) (f (2*n+1)) (g (2*n+1))=true∧Good f g d (2*n)∧Good f g d (2*n+1)
theorem Good.own:∀ {d n},Good f g d n→ownB (f n) (g n)=true
  | 0,_,h=>h
  | _+1,_,h=>h.1
def cntL (l:List (Int×Int)):Int:=(l.map (·.2)).sum
theorem cntL_append (a b:List (Int×Int)):cntL (a++b)=cntL a+cntL b:=by simp [cntL]
theorem join_facts {m c am ac bm bc:Int} (h:joinR m c am ac bm bc=true):c=ac+bc∧(0<bc→m=bm)∧(¬0<bc→m=am)∧(0<ac→0<bc→am<bm):=by
 simp only [joinR,Bool.and_eq_true,Bool.or_eq_true,decide_eq_true_eq] at h;obtain ⟨⟨⟨⟨⟨h1,h2⟩,h3⟩,h4⟩,h5,h6⟩,h7⟩:=h;unfold abM at h5;refine ⟨by omega,fun hb=>by rw [if_pos hb] at h5;exact h5,fun hb=>by rw [if_neg hb] at h5;exact h5,fun ha hb=>by rcases h7 with (h7|h7)|h7<;>omega⟩
theorem Good.cnt:∀ {d n},Good f g d n→cntL (lvs f g d n)=g n:=by
 intro d;induction d with
 | zero=>intro n _;simp [lvs,cntL]
 | succ d ih=>
  intro n h;obtain ⟨h1,h2,h3,h4⟩:=h;rw [lvs,cntL_append,ih h3,ih h4,(join_facts h2).1]
def srv (key m c:Int):Prop:=0<c∧key≤m
instance (key m c:Int):Decidable (srv key m c):=by unfold srv;infer_instance
end
end
section
open Go.RowKit
theorem lvs_take {f g:Nat→Int} {D d m:Nat} (hd:d≤D) (h1:2^D≤m*2^d) (h2:(m+1)*2^d≤2*2^D):
    (lvs f g D 1).take (m*2^d-2^D+2^d)=(lvs f g D 1).take (m*2^d-2^D)++lvs f g d m:=by
 rw [Nat.add_mul,Nat.one_mul] at h2;obtain ⟨P,hP⟩:∃P,m*2^d=P:=⟨_,rfl⟩
 rw [hP] at h1 h2 ⊢;have p1:=Nat.two_pow_pos d;have p2:=Nat.two_pow_pos D;generalize hQ:2^D=Q at h1 h2 p2 ⊢;generalize hR:2^d=R at h2 p1 ⊢;have e:((lvs f g D 1).take (P-Q)).length=P-Q:=by
  rw [List.length_take,lvs_length,hQ];omega
 refine List.ext_getElem? fun k=> ?_
 by_cases hk:k<P-Q
 · rw [List.getElem?_take,if_pos xo,List.getElem?_append_left (by rw [e];exact hk),List.getElem?_take,if_pos hk]
 · rw [List.getElem?_append_right (by rw [e];omega),e];by_cases hk2:k<P-Q+R
   · rw [List.getElem?_take,if_pos hk2,lvs_get _ _ _ (by rw [hQ];omega),lvs_get _ _ _ (by rw [hR];omega),hP,hQ];rw [show 1*Q+k=P+(k-(P-Q)) by omega]
   · rw [List.getElem?_take,if_neg hk2,List.getElem?_eq_none (by rw [lvs_length,hR];omega)]
theorem Good.ahead {f g:Nat→Int} {D d m:Nat} (h:Good f g d m) (hd:d≤D) (h1:2^D≤m*2^d) (h2:(m+1)*2^d≤2*2^D):
    cntL ((lvs f g D 1).take (m*2^d-2^D+2^d))=cntL ((lvs f g D 1).take (m*2^d-2^D))+g m:=by
 rw [lvs_take hd h1 h2,cntL_append,h.cnt]
end
section
open Go.RowKit
theorem plsW_append (ws:List Int) {a b d:Nat} (h1:a≤b) (h2:b≤d):plsW ws a b++plsW ws b d=plsW ws a d:=by
 unfold plsW;rw [←List.filter_append];congr 1
 have:=List.range'_append_1 (s:=a) (m:=b-a) (n:=d-b);rw [show a+(b-a)=b by omega,show b-a+(d-b)=d-a by omega] at this;exact this
theorem prs_append (c:SlC) {a b d:Nat} (h1:a≤b) (h2:b≤d):prs c a b++prs c b d=prs c a d:=by
 unfold prs;rw [←List.map_append,plsW_append c.ws h1 h2]
def Ris (l:List (Int×Int)):Prop:=l.Pairwise fun p q=>p.1<q.1
theorem ris_of {l:List (Int×Int)} (h:risB l=true):Ris l:=by
 unfold risB at h;rw [List.all_eq_true] at h;have h1:∀i,i+1<l.length→(l.getD i (0,0)).1<(l.getD (i+1) (0,0)).1:=fun i hi=>by
  have:=h (i+1) (List.mem_range.2 hi);simpa [risAt] using this
 have h2:∀j i,i<j→j<l.length→(l.getD i (0,0)).1<(l.getD j (0,0)).1:=by
  intro j;induction j with
  | zero=>intro i hi;omega
  | succ j ih=>
   intro i hi hj;have:=h1 j hj;by_cases e:i=j
   · subst e;exact this
   · have:=ih i xo xo;omega
 refine List.pairwise_iff_getElem.2 fun i j hi hj hij=> ?_
 have:=h2 j i hij hj;simpa [List.getD_eq_getElem?_getD,hi,hj] using this
theorem Ris.apart {a b:List (Int×Int)} (h:Ris (a++b)):Ris a∧Ris b∧∀p ∈ a,∀q ∈ b,p.1<q.1:=by
 have:=List.pairwise_append.1 h;exact this
theorem Ris.prs {c:SlC} {n:Nat} (h:Ris (prs c 0 n)) {a b:Nat} (h1:a≤b) (h2:b≤n):Ris (Go.Proofs.YtmnlagmmbfjbeaaDoor.prs c a b):=by
 rw [←prs_append c (Nat.zero_le b) h2] at h;have h3:=h.apart.1;rw [←prs_append c (Nat.zero_le a) h1] at h3;exact h3.apart.2.1
theorem seek_ris {c:SlC} (h:seekE c=0):Ris (prs c 0 c.ks.length):=by
 have hm:=seekE_may h;rw [seekE,if_pos hm] at h;split at h
 · exact ris_of (by assumption)
 · cases h
end
section
open Go.RowKit Go.Shelf
def MonoK (ws ks:List Int) (n:Nat):Prop:=∀i j,i<j→j<n→bitW ws i=true→bitW ws j=true→ks.getD i 0<ks.getD j 0
theorem seek_mono {c:SlC} (h:seekE c=0):MonoK c.ws c.ks c.ks.length:=by
 have hr:=seek_ris h;unfold Ris prs plsW at hr;rw [List.pairwise_map,List.pairwise_filter,List.pairwise_iff_getElem] at hr;intro i j hij hj bi bj;have:=hr i j (by rw [List.length_range'];omega) (by rw [List.length_range'];omega) hij;simp only [List.getElem_range',Nat.zero_add,Nat.one_mul] at this;exact this bi bj
structure FrR (ws ks:List Int) (n:Nat) (key:Int) (r:Nat):Prop where
 le:r≤n
 low:∀j,j<r→bitW ws j=true→ks.getD j 0<key
 hit:r<n→bitW ws r=true∧key≤ks.getD r 0
def frS (ws ks:List Int) (n:Nat) (key:Int):Nat:=((List.range' 0 n).find? fun i=>bitW ws i&&decide (key≤ks.getD i 0)).getD n
theorem frS_is (ws ks:List Int) (n:Nat) (key:Int):FrR ws ks n key (frS ws ks n key):=by
 unfold frS;cases h:(List.range' 0 n).find? fun i=>bitW ws i&&decide (key≤ks.getD i 0) with
 | none=>
  rw [List.find?_eq_none] at h;refine ⟨Nat.le_refl _,fun j hj hb=> ?_,fun hn=>absurd hn (Nat.lt_irrefl _)⟩;have:=h j (List.mem_range'_1.2 ⟨Nat.zero_le _,by simpa using hj⟩);rw [hb] at this;simpa using this
 | some i=>
  rw [List.find?_eq_some_iff_getElem] at h;obtain ⟨h1,k,hk,h2,h3⟩:=h;rw [List.getElem_range'] at h2;rw [List.length_range'] at hk;obtain rfl:k=i:=xo;simp only [Bool.and_eq_true,decide_eq_true_eq] at h1;refine ⟨by simp;omega,fun j hj hb=> ?_,fun _=>h1⟩;have:=h3 j hj;rw [List.getElem_range',show 0+1*j=j by omega,hb] at this;simpa using this
theorem FrR.unique {ws ks:List Int} {n:Nat} {key:Int} {r q:Nat} (h:FrR ws ks n key r) (k:FrR ws ks n key q):r=q:=by
 apply Nat.le_antisymm
 · apply Nat.le_of_not_lt;intro hl;have a:=k.hit (Nat.lt_of_lt_of_le hl h.le);have b:=h.low q hl a.1;omega
 · apply Nat.le_of_not_lt;intro hl;have a:=h.hit (Nat.lt_of_lt_of_le hl k.le);have b:=k.low r hl a.1;omega
theorem from1_ok (k key:Int) (b:Nat) (w:World) (hb:w.cell? ⟨b,0,none⟩=some (.int .i64 key)):
    Calls Tryd.prog 63 #[.int .i64 k,.pointer (some ⟨b,0,none⟩)] w fun e w'=>e= .returned (.bool (decide (key≤k)))∧w=w':=by
 go_enter Tryd.func63,Tryd.ntmps63
 go_wp2
 go_ret
 exact ⟨rfl,rfl⟩
theorem split_ok (seg laid key:Int) (wa ka va ca:Option Addr) (wc kc vc cc lw lv lc:Nat) (n:Nat) (ws ks:List Int) (hn:n≤65536) (hks:ks.length=n) (b:Nat) (w:World) (hk:IsRow .i64 w ka ks) (hb:w.cell? ⟨b,0,none⟩=some (.int .i64 key)) (hmo:MonoK ws ks n)
    (NX:Hid (∀m W,m≤n→Below w.heap.size w W→Calls Tryd.prog 84 #[.slice wa lw wc,.int .i64 n,.int .i64 (m:Nat)] W (AnsB W (.tuple #[.int .i64 ((nx ws m n).getD 0:Nat),.int .i64 (if (nx ws m n).isSome then 0 else 6)])))):
    Calls Tryd.prog 62 #[.agg #[.int .i64 seg,.slice wa lw wc,.slice ka n kc,.slice va lv vc,.slice ca lc cc,.int .u64 laid],.func (.func 63) #[] #[.pointer (some ⟨b,0,none⟩)]] w (AnsB w (.int .i64 (frS ws ks n key))):=by
 have HN:=hid (fun m (hm:m≤n) (h:nx ws m n=none) W hb=>(show Calls Tryd.prog 84 #[.slice wa lw wc,.int .i64 n,.int .i64 (m:Nat)] W (AnsB W (.tuple #[.int .i64 0,.int .i64 6])) by
  have:=NX.out m W hm hb;rw [h] at this;exact this))
 have HS:=hid (fun m (hm:m≤n) i (h:nx ws m n=some i) W hb=>(show Calls Tryd.prog 84 #[.slice wa lw wc,.int .i64 n,.int .i64 (m:Nat)] W (AnsB W (.tuple #[.int .i64 (i:Nat),.int .i64 0])) by
  have:=NX.out m W hm hb;rw [h] at this;exact this))
 have FR:=hid (fun r (h:FrR ws ks n key r)=>(frS_is ws ks n key).unique h);have HK:=hid hk;have HKL:=hid hks;have HMO:=hid hmo;obtain ⟨R,hR⟩:∃R,frS ws ks n key=R:=⟨_,rfl⟩
 rw [hR] at FR ⊢;clear hk hks hmo NX hR;go_enter Tryd.func62,Tryd.ntmps62
 have hbk:=World.block_lt_of_cell? _ _ hb;go_wp2
 refine wp_scope_loop 0 (fun _ _ _=>False) rfl (fun _ _ _ h=>h.elim) ?_;intro H hH hp;clear hH hp;go_wp2
 refine wp_label ?_;have hba:Below w.heap.size w (w.alloc (.cells #[.int .i64 seg,.slice wa lw wc,.slice ka n kc,.slice va lv vc,.slice ca lc cc,.int .u64 laid] 29)):=br.alloc (Nat.le_refl _) _;have d1:(w.alloc (.cells #[.int .i64 seg,.slice wa lw wc,.slice ka n kc,.slice va lv vc,.slice ca lc cc,.int .u64 laid] 29)).cell? ⟨w.heap.size,1,none⟩=some (.slice wa lw wc):=xcw;have d2:(w.alloc (.cells #[.int .i64 seg,.slice wa lw wc,.slice ka n kc,.slice va lv vc,.slice ca lc cc,.int .u64 laid] 29)).cell? ⟨w.heap.size,2,none⟩=some (.slice ka n kc):=xcw;have hsz:w.heap.size<(w.alloc (.cells #[.int .i64 seg,.slice wa lw wc,.slice ka n kc,.slice va lv vc,.slice ca lc cc,.int .u64 laid] 29)).heap.size:=by simp
 generalize (w.alloc (.cells #[.int .i64 seg,.slice wa lw wc,.slice ka n kc,.slice va lv vc,.slice ca lc cc,.int .u64 laid] 29))=w1 at *;have HBA:=hid hba;clear hba;go_wp2
 go_loopg [6,7] n (fun gk fv tv wr=>∃i j:Nat,i+gk=j∧j≤n∧fv= .int .i64 i∧tv= .int .i64 j∧Hid (Below w.heap.size w wr)∧wr.cell? ⟨w.heap.size,1,none⟩=some (.slice wa lw wc)∧wr.cell? ⟨w.heap.size,2,none⟩=some (.slice ka n kc)∧w.heap.size<wr.heap.size∧Hid (∀q,q<i→bitW ws q=true→ks.getD q 0<key)∧Hid (∀q,j≤q→q<n→bitW ws q=true→key≤ks.getD q 0))
 case atStart=>exact ⟨0,n,by omega,Nat.le_refl _,rfl,rfl,HBA,d1,d2,hsz,hid (fun q h=>by omega),hid (fun q h1 h2=>by omega)⟩
 case round=>
  obtain ⟨i,j,hij,hjn,rfl,rfl,HB,e1,e2,hz,HA,HC⟩:=hrel;by_cases hlt:i<j
  · obtain ⟨m,hm⟩:∃m,(i+j)/2=m:=⟨_,rfl⟩
    have hmi:i≤m:=xo;have hmj:m<j:=xo;have hmn:m≤n:=xo;have q1:((i:Int)+(j:Int))/2=(m:Int):=xo;have q2:((i:Int)+(j:Int)).tdiv 2=(m:Int):=by rw [Int.tdiv_eq_ediv_of_nonneg xo];omega
    have HIJ:=hid (And.intro hij hjn);have HM:=hid (And.intro hmi (And.intro hmj hmn));clear hij hm;cases hox:nx ws m n with
    | none=>
     have N1:=hid (HN.out m hmn hox wr HB.out);have FC:Hid (∀q,m≤q→q<n→bitW ws q=true→key≤ks.getD q 0):=hid fun q h1 h2 h3=>by
      have:=nx_none.1 hox q h1 h2;rw [h3] at this;cases this
     clear hmi hmj hjn hox;go_wp2_with fail
     refine N1.out.mono ?_;rintro e w2 ⟨rfl,hb2⟩;have hz2:=hb2.size;replace e1:=(hb2.cell (p:=⟨w.heap.size,1,none⟩) hz).trans e1;replace e2:=(hb2.cell (p:=⟨w.heap.size,2,none⟩) hz).trans e2;have HB2:=hid (below_via hb2 HB.out xo);clear hb2;go_wp2
     go_roundg (m-i)
     case measure=>have:=HIJ.out;have:=HM.out;omega
     case rel=>exact ⟨i,m,by have:=HM.out;omega,hmn,rfl,rfl,HB2,e1,e2,by omega,HA,FC⟩
    | some at_=>
     obtain ⟨x1,x2,x3,x4⟩:=nx_some.1 hox;have N1:=hid (HS.out m hmn at_ hox wr HB.out);by_cases hge:j≤at_
     · have FC:Hid (∀q,m≤q→q<n→bitW ws q=true→key≤ks.getD q 0):=hid fun q h1 h2 h3=>by
         refine HC.out q ?_ h2 h3;apply Nat.le_trans hge;apply Nat.le_of_not_lt;intro hl;have:=x4 q h1 hl;rw [h3] at this;cases this
       clear hmi hmj hjn hox x3 x4;go_wp2_with fail
       refine N1.out.mono ?_;rintro e w2 ⟨rfl,hb2⟩;have hz2:=hb2.size;replace e1:=(hb2.cell (p:=⟨w.heap.size,1,none⟩) hz).trans e1;replace e2:=(hb2.cell (p:=⟨w.heap.size,2,none⟩) hz).trans e2;have HB2:=hid (below_via hb2 HB.out xo);clear hb2;go_wp2
       go_roundg (m-i)
       case measure=>have:=HIJ.out;have:=HM.out;omega
       case rel=>exact ⟨i,m,by have:=HM.out;omega,hmn,rfl,rfl,HB2,e1,e2,by omega,HA,FC⟩
     · obtain ⟨bk,ok,kx,rfl,hkx,ck,hkl⟩:=HK.out.get (i:=at_) (by have:=HKL.out;omega);have HMX:Hid (∀q,q<n→bitW ws q=true→(q<at_→ks.getD q 0<kx)∧(at_<q→kx<ks.getD q 0)):=hid fun q h1 h2=>⟨fun h=>by rw [←hkx.out];exact HMO.out q at_ h x2 h2 x3,fun h=>by rw [←hkx.out];exact HMO.out at_ q h h1 x3 h2⟩
       have hat:at_<j:=xo;have hbelow:∀q,m≤q→q<at_→bitW ws q=false:=x4;have HBW:=hid hbelow;have HKX:=hkx;clear hmi hmj hjn hox x3 x4 hge hkx hbelow;have F1:=fun W (hb:Below w.heap.size w W)=>hid (from1_ok kx key b W ((hb.cell (World.block_lt_of_cell? _ _ (by assumption))).trans (by assumption)))
       by_cases hle:key≤kx
       · have FC:Hid (∀q,m≤q→q<n→bitW ws q=true→key≤ks.getD q 0):=hid fun q h1 h2 h3=>by
           rcases Nat.lt_trichotomy q at_ with h|h|h
           · have:=HBW.out q h1 h;rw [h3] at this;cases this
           · rw [h,HKX.out];exact hle
           · have:=(HMX.out q h2 h3).2 h;omega
         have hd:decide (key≤kx)=true:=decide_eq_true hle;have F2:Hid (∀W,Below w.heap.size w W→Calls Tryd.prog 63 #[.int .i64 kx,.pointer (some ⟨b,0,none⟩)] W fun e w'=>e= .returned (.bool true)∧W=w'):=hid fun W hb=>by
          have:=(F1 W hb).out;rw [hd] at this;exact this
         clear F1 hle hd HBW HMX;go_wp2_with fail
         refine N1.out.mono ?_;rintro e w2 ⟨rfl,hb2⟩;have hz2:=hb2.size;replace e1:=(hb2.cell (p:=⟨w.heap.size,1,none⟩) hz).trans e1;replace e2:=(hb2.cell (p:=⟨w.heap.size,2,none⟩) hz).trans e2;have HB2:=hid (below_via hb2 HB.out xo);have ck2:=(HB2.out.cell (World.block_lt_of_cell? _ _ ck)).trans ck;clear hb2;go_wp2_with fail
         refine (F2.out _ HB2.out).mono ?_;rintro e w' ⟨rfl,rfl⟩;go_wp2
         go_roundg (m-i)
         case measure=>have:=HIJ.out;have:=HM.out;omega
         case rel=>exact ⟨i,m,by have:=HM.out;omega,hmn,rfl,rfl,HB2,e1,e2,by omega,HA,FC⟩
       · have FA:Hid (∀q,q<at_+1→bitW ws q=true→ks.getD q 0<key):=hid fun q h1 h3=>by
           rcases Nat.lt_trichotomy q at_ with h|h|h
           · have:=(HMX.out q xo h3).1 h;omega
           · rw [h,HKX.out];omega
           · omega
         have hd:decide (key≤kx)=false:=decide_eq_false hle;have F2:Hid (∀W,Below w.heap.size w W→Calls Tryd.prog 63 #[.int .i64 kx,.pointer (some ⟨b,0,none⟩)] W fun e w'=>e= .returned (.bool false)∧W=w'):=hid fun W hb=>by
          have:=(F1 W hb).out;rw [hd] at this;exact this
         clear F1 hle hd HBW HMX;go_wp2_with fail
         refine N1.out.mono ?_;rintro e w2 ⟨rfl,hb2⟩;have hz2:=hb2.size;replace e1:=(hb2.cell (p:=⟨w.heap.size,1,none⟩) hz).trans e1;replace e2:=(hb2.cell (p:=⟨w.heap.size,2,none⟩) hz).trans e2;have HB2:=hid (below_via hb2 HB.out xo);have ck2:=(HB2.out.cell (World.block_lt_of_cell? _ _ ck)).trans ck;clear hb2;go_wp2_with fail
         refine (F2.out _ HB2.out).mono ?_;rintro e w' ⟨rfl,rfl⟩;go_wp2
         go_roundg (j-(at_+1))
         case measure=>have:=HIJ.out;have:=HM.out;omega
         case rel=>exact ⟨at_+1,j,by omega,HIJ.out.2,by go_num,rfl,HB2,e1,e2,by omega,FA,HC⟩
  · have hij2:i=j:=xo;subst hij2;have HJN:=hid hjn;cases hox:nx ws i n with
    | none=>
     have N1:=hid (HN.out i hjn hox wr HB.out);have HR:=hid (FR.out n ⟨Nat.le_refl _,fun q h1 h2=>HA.out q (by
      apply Nat.lt_of_not_le;intro h;have:=nx_none.1 hox q h h1;rw [h2] at this;cases this) h2,fun h=>absurd h (Nat.lt_irrefl _)⟩)
     clear hox;go_wp2_with fail
     refine N1.out.mono ?_;rintro e w2 ⟨rfl,hb2⟩;have HB2:=hid (below_via hb2 HB.out xo);clear hb2;go_wp2
     simp only [Exit.jump];go_ret
     rw [HR.out];exact ⟨rfl,HB2.out⟩
    | some at_=>
     obtain ⟨x1,x2,x3,x4⟩:=nx_some.1 hox;have N1:=hid (HS.out i hjn at_ hox wr HB.out);have HR:=hid (FR.out at_ ⟨by omega,fun q h1 h2=>HA.out q (by
      apply Nat.lt_of_not_le;intro h;have:=x4 q h h1;rw [h2] at this;cases this) h2,fun h=>⟨x3,HC.out at_ x1 h x3⟩⟩)
     clear hox x3 x4;go_wp2_with fail
     refine N1.out.mono ?_;rintro e w2 ⟨rfl,hb2⟩;have HB2:=hid (below_via hb2 HB.out xo);clear hb2;go_wp2
     simp only [Exit.jump];go_ret
     rw [HR.out];exact ⟨rfl,HB2.out⟩
end
end Go.Proofs.YtmnlagmmbfjbeaaDoor

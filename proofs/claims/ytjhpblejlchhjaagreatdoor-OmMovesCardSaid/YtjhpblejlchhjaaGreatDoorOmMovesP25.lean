/- Merged: OmMvPl, OmCame, OmOrWalk, OmMvP2, OmMvP3, OmCompares, OmCpWalk, OmMvWalk, Open, OpenIx, OpenSl, OpenCf, OpenSlc, OpenTab, OpenOr. -/
import Derived.Test.YtjhpblejlchhjaaGreatDoorOmMovesP19
import Derived.Test.YtjhpblejlchhjaaGreatDoorOmMovesP18
import Derived.Test.YtjhpblejlchhjaaGreatDoorOmMovesP11
import Derived.Test.YtjhpblejlchhjaaGreatDoorOmMovesP23
import Derived.Test.YtjhpblejlchhjaaGreatDoorOmMovesP14
import Derived.Test.YtjhpblejlchhjaaGreatDoorOmMovesP6
import Derived.Lib.QuietBelow
import Derived.Test.YtjhpblejlchhjaaGreatDoorOmMovesP24
import Derived.Test.YtjhpblejlchhjaaGreatDoorOmMovesP1
import Derived.ProofKit
import Derived.OpenShut
import Derived.ShutString
import Derived.ChangeOld
import Derived.Below
import Derived.Lib.SmallJoins
import Derived.Test.YtjhpblejlchhjaaGreatDoorOmMovesP2
import Derived.Test.YtjhpblejlchhjaaGreatDoorOmMovesP5
import Derived.Deep.SlicePairs
import Derived.Test.YtjhpblejlchhjaaGreatDoorOmMovesP10
namespace Go.Proofs.YtjhpblejlchhjaaGreatDoor
set_option maxRecDepth 100000
set_option maxHeartbeats 40000000
set_option linter.unusedVariables false
set_option linter.unusedSimpArgs false
section
open Go.RowKit
theorem wr64 (y:Int):IntKind.u64.wrap y=y%18446744073709551616:=rfl
def sumB (f:Nat→Bool):Nat→Nat
  | 0=>0
  | n+1=>sumB f n+(if f n=true then 1 else 0)
theorem sumB_le (f:Nat→Bool):∀n,sumB f n≤n
  | 0=>Nat.le_refl _
  | n+1=>by have:=sumB_le f n;rw [sumB];split<;>omega
theorem sumB_congr {f g:Nat→Bool}:∀n,(∀i,i<n→f i=g i)→sumB f n=sumB g n
  | 0,_=>rfl
  | n+1,h=>by rw [sumB,sumB,sumB_congr n fun i hi=>h i xo,h n xo]
def shI (k i:Nat):Nat:=if i<k then i else i+1
theorem sumB_sh (f:Nat→Bool) (k:Nat):∀n,k≤n→sumB f (n+1)=sumB (fun i=>f (shI k i)) n+(if f k=true then 1 else 0)
  | 0, h => by obtain rfl:k=0:=xo
               rfl
  | n+1,h=>by
   rcases Nat.lt_or_ge n k with q|q
   · obtain rfl:k=n+1:=xo;rw [sumB];congr 1
     exact sumB_congr _ fun i hi=>by rw [shI,if_pos hi]
   · rw [sumB,sumB_sh f k n q,sumB];have:shI k n=n+1:=if_neg xo;rw [this];omega
theorem sumB_in {f:Nat→Bool} {c0 cw:Nat}:∀n,(∀i,i<n→f i=true→c0≤i∧i<c0+cw)→sumB f n≤cw∧sumB f n≤n-c0
  | 0,_=>⟨Nat.zero_le _,Nat.zero_le _⟩
  | n+1,h=>by
   have ih:=sumB_in n fun i hi hf=>h i xo hf
   rw [sumB];split
   · rename_i hf
     have:=h n xo hf;omega
   · omega
theorem countP_sumB (p:Nat→Bool):∀l:List Nat,l.countP p=sumB (fun i=>p (l.getD i 0)) l.length
  | []=>rfl
  | x::l=>by
   rw [List.countP_cons,countP_sumB p l,List.length_cons,sumB_sh _ 0 _ (Nat.zero_le _)];congr 1
def trnB (but:Int) (s:SlC) (xs:List Int) (j:Nat):Bool:= !decide (xs.getD (keyN s j) 0=(j:Int))&& !decide (s.ks.getD j 0=but)
theorem stl_cnt (but:Int) (s:SlC):∀(L:List Nat) (x:List Int×Int),L.Pairwise (fun a b=>keyN s a≠keyN s b)→0≤x.2→x.2<18446744073709551616→(stlL but s x L).2=IntKind.u64.wrap (x.2+(L.countP (trnB but s x.1):Nat))
  | [],x,_,h0,h1=>by
   rw [stlL_nil,List.countP_nil,wr64];omega
  | i ::L,x,hp,h0,h1=>by
   obtain ⟨p1,p2⟩:=List.pairwise_cons.1 hp
   have e2:(stl1 but s x i).2=IntKind.u64.wrap (x.2+(if trnB but s x.1 i=true then 1 else 0)):=by
    by_cases q:x.1.getD (keyN s i) 0=(i:Int)∨s.ks.getD i 0=but
    · have t:trnB but s x.1 i=false:=by
        rw [trnB,Bool.and_eq_false_iff];rcases q with q|q
        · exact .inl (by rw [decide_eq_true q];rfl)
        · exact .inr (by rw [decide_eq_true q];rfl)
      rw [t,if_neg xdd,wr64];show (if x.1.getD (keyN s i) 0=(i:Int)∨s.ks.getD i 0=but then x.2 else _)=_;rw [if_pos q];omega
    · have t:trnB but s x.1 i=true:=by
        rw [trnB,Bool.and_eq_true];exact ⟨by simpa using fun h=>q (.inl h),by simpa using fun h=>q (.inr h)⟩
      rw [t,if_pos rfl];show (if x.1.getD (keyN s i) 0=(i:Int)∨s.ks.getD i 0=but then x.2 else IntKind.u64.wrap (x.2+1))=_;rw [if_neg q]
   have r2:0≤(stl1 but s x i).2∧(stl1 but s x i).2<18446744073709551616:=by rw [e2,wr64];omega
   have ih:=stl_cnt but s L (stl1 but s x i) p2 r2.1 r2.2;have ec:L.countP (trnB but s (stl1 but s x i).1)=L.countP (trnB but s x.1):=by
    refine List.countP_congr fun j hj=> ?_
    have hne:=p1 j hj;have:(stl1 but s x i).1.getD (keyN s j) 0=x.1.getD (keyN s j) 0:=by
     show (x.1.set (keyN s i) (i:Int)).getD (keyN s j) 0=_;rw [List.getD_eq_getElem?_getD,List.getElem?_set_ne hne,←List.getD_eq_getElem?_getD]
    rw [trnB,trnB,this]
   show (stlL but s (stl1 but s x i) L).2=_;rw [ih,ec,e2,List.countP_cons,wr64,wr64,wr64];split<;>push_cast<;>omega
theorem sp_slots {c:SlC} {S lw n lc lo hi:Nat} (h:SlGd c S lw n lc) (hlo:lo≤hi) (hh:hi≤n) {L:List (Int×Int)} (hL:L.length≤hi-lo) {x y:Nat} (hd:y≤lo∨hi≤x):plsW (spC c lo hi L).ws x y=plsW c.ws x y:=by
 have hn:=h.n1;unfold plsW;refine List.filter_congr fun i hi'=> ?_
 rw [List.mem_range'_1] at hi';have hne:∀j,j<L.length→(plR L.length lo hi).getD j 0≠i:=by
  intro j hj;rw [plR_get hj];have h3:=plF_lt (lo:=lo) hj hL;have h4:lo≤plF L.length lo hi j:=Nat.le_add_right _ _;omega
 rw [Bool.eq_iff_iff,spC,lys_bit (h.tks (hi-lo) xo) (fun k=>plR_ltn hL hh xo k) L i,tks_bit h i (hi-lo) xo];have:(decide (lo≤i)&&decide (i<lo+(hi-lo)))=false:=by
  rw [Bool.and_eq_false_iff,decide_eq_false_iff_not,decide_eq_false_iff_not];omega
 rw [this];constructor
 · rintro (q | ⟨j,hj,q⟩)
   · simpa using q
   · exact absurd q (hne j hj)
 · intro q;exact .inl (by simpa using q)
theorem sp_all {c:SlC} {S lw n lc lo hi:Nat} (h:SlGd c S lw n lc) (hlo:lo≤hi) (hh:hi≤n) {L:List (Int×Int)} (hL:L.length≤hi-lo):plsW (spC c lo hi L).ws 0 n=plsW c.ws 0 lo++plR L.length lo hi++plsW c.ws hi n:=by
 rw [plsW_app _ (Nat.zero_le lo) (by omega:lo≤n),plsW_app _ hlo hh,sp_pls h hlo hh hL,sp_slots h hlo hh hL (.inl (Nat.le_refl _)),sp_slots h hlo hh hL (.inr (Nat.le_refl _)),List.append_assoc]
theorem getD_app {A B C:List Nat} {i:Nat}:(A++B++C).getD i 0=if i<A.length then A.getD i 0 else if i<A.length+B.length then B.getD (i-A.length) 0 else C.getD (i-(A.length+B.length)) 0:=by
 rw [List.getD_eq_getElem?_getD];split
 · rename_i h
   rw [List.getElem?_append_left (by rw [List.length_append];omega),List.getElem?_append_left h,←List.getD_eq_getElem?_getD]
 · rename_i h
   split
   · rename_i h2
     rw [List.getElem?_append_left (by rw [List.length_append];omega),List.getElem?_append_right xo,←List.getD_eq_getElem?_getD]
   · rename_i h2
     rw [List.getElem?_append_right (by rw [List.length_append];omega),List.length_append,←List.getD_eq_getElem?_getD]
theorem put_loc {c:Cfg} {s:SlC} (hu:U64s s.ws) (h0:0≤s.laid) (h1:s.laid<18446744073709551616) {k:Nat} (p:Int×Int) (h:putE c s k=0):
    ∃c0 cw T:Nat,cw≤T∧T≤100000∧(putC c s k p).laid=IntKind.u64.wrap (s.laid+(T:Int))∧∀i,i<manyC s→(i<c0∨c0+cw≤i)→(plsW s.ws 0 s.ks.length).getD i 0=(plsW (putC c s k p).ws 0 (putC c s k p).ks.length).getD (shI k i) 0:=by
 have hwl:IntKind.u64.wrap s.laid=s.laid:=by rw [wr64];omega
 obtain ⟨g0,k0,k1,k2⟩:=put_zero h;obtain ⟨hc,a,H,kn,hs,hmost,hden⟩:=gap_zero g0;rw [sum_many kn hu] at hmost;have hlt:(manyC s:Int)<c.most:=xo;obtain ⟨g,hlw⟩:=gapN_gd kn hu;obtain ⟨p1,p2,p3,p4,p5,p6⟩:=kn.pows;have hn:k≤manyC s:=xo;have hat:=homeC_lt p5 k;have hmk:=cntW_le s.ws 0 s.ks.length;have hkm:=g.nm;have hkl:s.ks.length≤65536:=hkm;have hmm:manyC s≤65536:=by unfold manyC;omega
 rw [putC,if_pos h,sgL_eq kn.cap.seg,kn.cap.hgt,Int.toNat_natCast];unfold putN;by_cases ht:topI (ovB c s a H (homeC s k)) (H+1)=H
 · rw [if_pos ht];have hLn:(prs s 0 s.ks.length).length=manyC s:=prs_length _ _ _;have hil:(insL (prs s 0 s.ks.length) k p).length=manyC s+1:=by rw [insL_length (by rw [hLn];exact hn),hLn]
   refine ⟨0,manyC s,manyC s+1,by omega,by omega,?_,fun i hi hd=>absurd hi xo⟩;unfold wideC;exact (sp_laid (emptyL (2^a) (capM c (manyC s+1)) s.laid) _ _ _ hwl).trans (by first|(rw [hil];done)|(rw [hil];rfl))
 · rw [if_neg ht];obtain ⟨h',eh,hh,hroom⟩:=put_room kn hu hat ht;have hht:(topI (ovB c s a H (homeC s k)) (H+1)+1).toNat=h':=xo;simp only [hht];have b:=wnd_bd (a:=a) (at_:=homeC s k) hh (by rw [←kn.nk];exact hat);have hhi:(wnd a h' (homeC s k)+1)*2^(a+h')≤s.ks.length:=by rw [kn.nk];exact b.2.2.2
   obtain ⟨q1,q2⟩:=home_in p5 hn b.2.1 b.2.2.1 hhi;have hil:=insL_length q2 p;have hpl:=prs_length s (wnd a h' (homeC s k)*2^(a+h')) ((wnd a h' (homeC s k)+1)*2^(a+h'));have eww:(wnd a h' (homeC s k)+1)*2^(a+h')=wnd a h' (homeC s k)*2^(a+h')+2^(a+h'):=Nat.succ_mul _ _;have hlh:wnd a h' (homeC s k)*2^(a+h')≤(wnd a h' (homeC s k)+1)*2^(a+h'):=xo;generalize wnd a h' (homeC s k)*2^(a+h')=lo at *;generalize (wnd a h' (homeC s k)+1)*2^(a+h')=hi at *;have hL:(insL (prs s lo hi) (k-cntW s.ws 0 lo) p).length≤hi-lo:=by rw [hil,hpl];omega
   have hwc:=cntW_le s.ws lo hi;refine ⟨cntW s.ws 0 lo,cntW s.ws lo hi,cntW s.ws lo hi+1,by omega,by omega,?_,fun i hi' hd=> ?_⟩
   · rw [sp_laid _ _ _ _ hwl,hil,hpl]
   · rw [(g.sp hlh hhi hL).elk,sp_all g hlh hhi hL,plsW_app s.ws (Nat.zero_le lo) (Nat.le_trans hlh hhi),plsW_app s.ws hlh hhi,←List.append_assoc,getD_app,getD_app,plR_length,hil,hpl,plsW_length,plsW_length];rw [hpl] at q2;rcases hd with hd|hd
     · rw [shI,if_pos (show i<k by omega),if_pos hd,if_pos hd]
     · rw [shI,if_neg (show ¬i<k by omega),if_neg xo,if_neg xo,if_neg xo,if_neg xo];congr 1
       omega
end
section
open Go.RowKit Go.Shelf Go.Sort
theorem ins_get (l:List (Int×Int)) {k:Nat} (hk:k≤l.length) (p:Int×Int):(insL l k p).getD k (0,0)=p∧(insL l k p).take k=l.take k∧(insL l k p).drop (k+1)=l.drop k:=by
 have hl:(l.take k).length=k:=by rw [List.length_take];omega
 refine ⟨?_,?_,?_⟩
 · rw [insL,List.getD_eq_getElem?_getD,List.getElem?_append_right xo,hl,Nat.sub_self];rfl
 · rw [insL,List.take_append_of_le_length xo,List.take_of_length_le xo]
 · rw [insL,List.drop_append,hl,List.drop_of_length_le xo];simp
end
section
open Go.RowKit Go.Shelf Go.Sort
theorem inE_two (c:Cfg) (s:SlC) (gs ps:List Int):inE c s gs ps=0∨inE c s gs ps=9:=by
 unfold inE;split
 · exact .inl rfl
 · exact .inr rfl
theorem L_in {r:OmR} (h:r.E=0):r.L=hdl r.s r.gs 0 r.s.ks.length:=if_pos h
theorem in_R {r:OmR} (sz:SzO r) (hE:r.E=0) (hi:inE r.c r.s r.gs r.ps=0) {k:Nat} (hk:k≤manyC r.s) (q:OmR) (hq:q=inR r.c r.s r.gs r.ps r.mv 0 k):
    q.E=0∧q.L=insL r.L k (r.nN 0,r.nK 0):=by
 have hR:q=⟨r.c,inS r.c r.s r.gs r.ps k,makeG r.gs r.ps 0,(inX r.c r.s r.gs r.ps r.mv k).1,(inX r.c r.s r.gs r.ps r.mv k).2⟩:=hq.trans (if_pos rfl);have e:q.E=0:=by rw [hR];exact in_om sz.u hE hi hk r.mv
 refine ⟨e,?_⟩;rw [L_in e,L_in hE];have:=in_hdl sz.u hE hi hk;rw [hR];exact this
theorem idx_fst {l:List (Int×Int)} {n g:Int} (h:∀q ∈ l,q.1≠n):idxL l n g<0:=by
 rw [idxL_none (n:=n) (g:=g) fun i hi e=> ?_]
 · decide
 · rw [List.getD_eq_getElem?_getD,List.getElem?_eq_getElem hi] at e;exact h _ (List.getElem_mem hi) (congrArg Prod.fst e)
theorem ins_del {l:List (Int×Int)} {k:Nat} (hk:k<l.length):insL (delL l k) k (l.getD k (0,0))=l:=by
 have hl:(l.take k).length=k:=by rw [List.length_take];omega
 have e:l.getD k (0,0)=l[k]:=by rw [List.getD_eq_getElem?_getD,List.getElem?_eq_getElem hk];rfl
 rw [insL,delL,List.take_append_of_le_length xo,List.take_of_length_le xo,List.drop_append,hl,Nat.sub_self,List.drop_of_length_le xo,List.nil_append,e,List.drop_zero,←List.drop_eq_getElem_cons hk,List.take_append_drop]
theorem del_map (l:List (Int×Int)) (f:Int×Int→Int×Int) (k:Nat):delL (l.map f) k=(delL l k).map f:=by
 rw [delL,delL,List.map_append,List.map_take,List.map_drop]
theorem out_R {r:OmR} (sz:SzO r) {n g:Int} (hE:r.E=0) (hi:isH r.gs r.ps n g=true):
    (r.dR n g).E=0∧(r.dR n g).L=delL r.L (rnkH r.s r.ps n)∧r.L=insL (delL r.L (rnkH r.s r.ps n)) (rnkH r.s r.ps n) (n,g)∧idxL (delL r.L (rnkH r.s r.ps n)) n g<0∧rnkH r.s r.ps n<r.L.length∧idxL r.L n g=(rnkH r.s r.ps n:Int):=by
 have hd:outE r.c r.s r.gs r.ps n g=0:=by rw [outE,if_pos (show omE _ _ _ _=0 from hE),if_pos hi]
 have hR:r.dR n g=⟨r.c,outS r.c r.s r.ps n,dropG r.gs r.ps n g,(outX r.c r.s r.gs r.ps r.mv n g).1,(outX r.c r.s r.gs r.ps r.mv n g).2⟩:=if_pos hd;have e:(r.dR n g).E=0:=by rw [hR];exact out_om sz.u hE hi r.mv
 obtain ⟨ri,-⟩:=rnk_idx hE hi;have eL:(r.dR n g).L=delL r.L (rnkH r.s r.ps n):=by
  rw [L_in e,L_in hE];have:=out_hdl sz.u hE hi;rw [hR];exact this
 rw [←L_in hE] at ri;rcases idxL_cases r.L n g with ⟨c1,-⟩ | ⟨k,c1,c2,c3⟩
 · rw [ri] at c1;omega
 · obtain rfl:k=rnkH r.s r.ps n:=by rw [ri] at c1;omega
   refine ⟨e,eL,?_,?_,c2,ri⟩
   · rw [←c3];exact (ins_del c2).symm
   · obtain ⟨r1,r2⟩:=rnk_pair hE hi;rw [L_in hE,hdl_prs,del_map];refine idx_fst fun q hq=> ?_
     rw [List.mem_map] at hq;obtain ⟨p,hp,rfl⟩:=hq;have:=Dst.at (om_dst hE) r1 hp;rw [r2] at this;exact this
end
section
open Go.RowKit
theorem prs_at {s:SlC} {a b i:Nat} (h:i<(plsW s.ws a b).length):(prs s a b).getD i (0,0)=(s.ks.getD ((plsW s.ws a b).getD i 0) 0,s.vs.getD ((plsW s.ws a b).getD i 0) 0):=by
 rw [prs,List.getD_eq_getElem?_getD,List.getElem?_map,List.getElem?_eq_getElem h,List.getD_eq_getElem?_getD (l:=plsW _ _ _),List.getElem?_eq_getElem h];rfl
theorem ins_sh {l:List (Int×Int)} {k i:Nat} (hk:k≤l.length) (hi:i<l.length) (p:Int×Int):(insL l k p).getD (shI k i) (0,0)=l.getD i (0,0):=by
 have hl:(l.take k).length=k:=by rw [List.length_take];omega
 rw [List.getD_eq_getElem?_getD,List.getD_eq_getElem?_getD,insL,shI];split
 · rename_i h
   rw [List.getElem?_append_left xo,List.getElem?_take,if_pos h]
 · rename_i h
   rw [List.getElem?_append_right xo,hl,show i+1-k=(i-k)+1 by omega,List.getElem?_cons_succ,List.getElem?_drop,show k+(i-k)=i by omega]
theorem del_sh {l:List (Int×Int)} {k i:Nat} (hk:k<l.length):(delL l k).getD i (0,0)=l.getD (shI k i) (0,0):=by
 have hl:(l.take k).length=k:=by rw [List.length_take];omega
 rw [List.getD_eq_getElem?_getD,List.getD_eq_getElem?_getD,delL,shI];split
 · rename_i h
   rw [List.getElem?_append_left xo,List.getElem?_take,if_pos h]
 · rename_i h
   rw [List.getElem?_append_right xo,hl,List.getElem?_drop,show k+1+(i-k)=i+1 by omega]
def OmR.N (r:OmR):List Nat:=plsW r.s.ws 0 r.s.ks.length
theorem N_len (r:OmR):r.N.length=manyC r.s:=plsW_length _ _ _
theorem L_len2 {r:OmR} (h:r.E=0):r.L.length=manyC r.s:=by rw [L_in h,hdl_length];rfl
theorem N_at {r:OmR} (h:r.E=0) {i:Nat} (hi:i<manyC r.s):0≤r.s.ks.getD (r.N.getD i 0) 0∧r.ps.getD (keyN r.s (r.N.getD i 0)) 0=((r.N.getD i 0:Nat):Int)∧isH r.gs r.ps (r.s.ks.getD (r.N.getD i 0) 0) (r.gs.getD (keyN r.s (r.N.getD i 0)) 0)=true∧(r.s.ks.getD (r.N.getD i 0) 0,r.s.vs.getD (r.N.getD i 0) 0) ∈ prs r.s 0 r.s.ks.length:=by
 have hE:omE r.c r.s r.gs r.ps=0:=h;obtain ⟨hg,hm,hl⟩:=omE_zero hE;have hp:i<(plsW r.s.ws 0 r.s.ks.length).length:=by have:=N_len r;unfold OmR.N at this;omega
 obtain ⟨-,hb,hlt⟩:=pls_rank hp;have la:=lnkAt_facts (lnkTo_at (live_lnk hl).2 hlt hb);have ml:=may_len hm;refine ⟨la.2.1,la.2.2.2,?_,?_⟩
 · simp only [isH,Bool.and_eq_true,decide_eq_true_eq];refine ⟨⟨⟨la.2.1,?_⟩,?_⟩,rfl⟩
   · have:=la.2.2.1;unfold OmR.N;omega
   · have:=la.2.2.2;unfold OmR.N;omega
 · rw [prs,List.mem_map];refine ⟨r.N.getD i 0,?_,rfl⟩;unfold OmR.N;rw [List.getD_eq_getElem?_getD,List.getElem?_eq_getElem hp];exact List.getElem_mem hp
theorem in_moved {r:OmR} (sz:SzO r) (hE:r.E=0) (hi:inE r.c r.s r.gs r.ps=0) (hmv:0≤r.mv∧r.mv<18446744073709551616) {k:Nat} (hk:k≤manyC r.s) (q:OmR) (hq:q=inR r.c r.s r.gs r.ps r.mv 0 k):
    q.mv=IntKind.u64.wrap (r.mv+(sumB (fun i=> !decide (r.N.getD i 0=q.N.getD (shI k i) 0)) (manyC r.s):Nat)):=by
 have hE':omE r.c r.s r.gs r.ps=0:=hE;have hR:q=⟨r.c,inS r.c r.s r.gs r.ps k,makeG r.gs r.ps 0,(inX r.c r.s r.gs r.ps r.mv k).1,(inX r.c r.s r.gs r.ps r.mv k).2⟩:=hq.trans (if_pos rfl);obtain ⟨-,-,hprs⟩:=in_prs sz.u hE' hi hk;have hd:=in_dst sz.u hE' hi hk;have hok:=(in_zero hi).1;obtain ⟨-,-,M⟩:=made_of hok;have h0:∀j,j<(inS r.c r.s r.gs r.ps k).ks.length→bitW (inS r.c r.s r.gs r.ps k).ws j=true→0≤(inS r.c r.s r.gs r.ps k).ks.getD j 0:=fun j hj hb=>(in_keys sz.u hE' hi hk hj hb).1
 have hpw:=dst_keys hd h0;have e1:=stl_cnt (makeN r.gs r.ps 0) (inS r.c r.s r.gs r.ps k) (plsW (inS r.c r.s r.gs r.ps k).ws 0 (inS r.c r.s r.gs r.ps k).ks.length) (makeP r.gs r.ps 0,r.mv) hpw hmv.1 hmv.2;have hlp:(prs r.s 0 r.s.ks.length).length=manyC r.s:=prs_length _ _ _;have hN:(plsW (inS r.c r.s r.gs r.ps k).ws 0 (inS r.c r.s r.gs r.ps k).ks.length).length=manyC r.s+1:=by
  have:=congrArg List.length hprs;rw [insL_length (by rw [hlp];exact hk),hlp,prs_length] at this;rw [plsW_length];exact this
 rw [countP_sumB,hN,sumB_sh _ k _ hk] at e1;have hkey:∀i',i'<manyC r.s+1→(inS r.c r.s r.gs r.ps k).ks.getD ((plsW (inS r.c r.s r.gs r.ps k).ws 0 (inS r.c r.s r.gs r.ps k).ks.length).getD i' 0) 0=((insL (prs r.s 0 r.s.ks.length) k (makeN r.gs r.ps 0,0)).getD i' (0,0)).1:=fun i' h=>by
  rw [←hprs,prs_at (by rw [hN];exact h)]
 have hkk:=hkey k xo;rw [(ins_get _ (by rw [hlp];exact hk) _).1] at hkk;have hfk:trnB (makeN r.gs r.ps 0) (inS r.c r.s r.gs r.ps k) (makeP r.gs r.ps 0) ((plsW (inS r.c r.s r.gs r.ps k).ws 0 (inS r.c r.s r.gs r.ps k).ks.length).getD k 0)=false:=by
  rw [trnB,hkk,decide_eq_true rfl,Bool.not_true,Bool.and_false]
 rw [hfk,if_neg xdd,Nat.add_zero] at e1;have hN':q.N=plsW (inS r.c r.s r.gs r.ps k).ws 0 (inS r.c r.s r.gs r.ps k).ks.length:=by rw [hR];rfl
 have hm':q.mv=(inX r.c r.s r.gs r.ps r.mv k).2:=by rw [hR]
 rw [hm',hN'];refine e1.trans ?_;congr 3
 refine sumB_congr _ fun i hi'=> ?_
 have hs:shI k i<manyC r.s+1:=by unfold shI;split<;>omega
 have hki:=hkey (shI k i) hs;rw [ins_sh (by rw [hlp];exact hk) (by rw [hlp];exact hi'),prs_at (by rw [plsW_length];exact hi')] at hki;obtain ⟨n0,n1,n2,n3⟩:=N_at hE hi';unfold OmR.N at n0 n1 n2 n3;have hne:=make_new hE' hok _ n3;have ho:=(M.oth _ _ fun e=>hne e.1).2 n2;rw [trnB,hki,decide_eq_false hne,Bool.not_false,Bool.and_true];unfold keyN at n1 ⊢;rw [hki,ho,n1];congr 1
 rw [decide_eq_decide];unfold OmR.N;omega
end
section
open Go.RowKit
theorem tk_slots {c:SlC} {S lw n lc at_:Nat} (h:SlGd c S lw n lc) (ha:at_<n) {x y:Nat} (hd:y≤at_∨at_+1≤x):plsW (tkC c at_).ws x y=plsW c.ws x y:=by
 unfold plsW;refine List.filter_congr fun i hi=> ?_
 rw [List.mem_range'_1] at hi;have:=tks_bit h (lo:=at_) i 1 xo;have e:Go.Proofs.YtjhpblejlchhjaaGreatDoor.tks c at_ 1=tkC c at_:=rfl;rw [e] at this;rw [this,show (decide (at_≤i)&&decide (i<at_+1))=false by rw [Bool.and_eq_false_iff,decide_eq_false_iff_not,decide_eq_false_iff_not];omega];simp
theorem tk_none {c:SlC} {S lw n lc at_:Nat} (h:SlGd c S lw n lc) (ha:at_<n):plsW (tkC c at_).ws at_ (at_+1)=[]:=by
 have:=tks_bit h (lo:=at_) at_ 1 xo;have e:Go.Proofs.YtjhpblejlchhjaaGreatDoor.tks c at_ 1=tkC c at_:=rfl;rw [e,show (decide (at_≤at_)&&decide (at_<at_+1))=true by simp] at this;rw [plsW_succ (Nat.le_refl _),plsW_nil,this];simp
theorem tk_all {c:SlC} {S lw n lc at_ k:Nat} (h:SlGd c S lw n lc) (ha:at_<n) (hb:bitW c.ws at_=true) (hk:cntW c.ws 0 at_=k) (i:Nat):(plsW (tkC c at_).ws 0 n).getD i 0=(plsW c.ws 0 n).getD (shI k i) 0:=by
 have e1:plsW c.ws at_ (at_+1)=[at_]:=by rw [plsW_succ (Nat.le_refl _),plsW_nil,hb];rfl
 rw [plsW_app (tkC c at_).ws (Nat.zero_le at_) (by omega:at_≤n),plsW_app (tkC c at_).ws (Nat.le_succ at_) (by omega:at_+1≤n),tk_none h ha,tk_slots h ha (.inl (Nat.le_refl _)),tk_slots h ha (.inr (Nat.le_refl _)),List.nil_append,
   plsW_app c.ws (Nat.zero_le at_) (by omega:at_≤n),plsW_app c.ws (Nat.le_succ at_) (by omega:at_+1≤n),e1,←List.append_assoc]
 have hl:(plsW c.ws 0 at_).length=k:=by rw [plsW_length,hk]
 have e2:plsW c.ws 0 at_++plsW c.ws (at_+1) n=plsW c.ws 0 at_++[]++plsW c.ws (at_+1) n:=by rw [List.append_nil]
 rw [e2,getD_app,getD_app,hl,List.length_nil,List.length_singleton,shI];by_cases q:i<k
 · rw [if_pos q,if_pos q,if_pos q]
 · rw [if_neg q,if_neg xo,if_neg q,if_neg xo,if_neg xo];congr 1
   omega
theorem take_loc {c:Cfg} {s:SlC} (hu:U64s s.ws) (h0:0≤s.laid) (h1:s.laid<18446744073709551616) {k:Nat} (h:takE c s k=0):
    ∃c0 cw T:Nat,cw≤T∧T≤100000∧(takC c s k).laid=IntKind.u64.wrap (s.laid+(T:Int))∧∀i,i+1<manyC s→(i<c0∨c0+cw≤i)→(plsW s.ws 0 s.ks.length).getD (shI k i) 0=(plsW (takC c s k).ws 0 (takC c s k).ks.length).getD i 0:=by
 have hwl:IntKind.u64.wrap s.laid=s.laid:=by rw [wr64];omega
 obtain ⟨g0,k0,k1⟩:=take_zero h;obtain ⟨hc,a,H,kn,hs,hmost,hden⟩:=gap_zero g0;rw [sum_many kn hu] at hmost;obtain ⟨g,hlw⟩:=gapN_gd kn hu;obtain ⟨p1,p2,p3,p4,p5,p6⟩:=kn.pows;have hkm:=g.nm;have hn:k<(plsW s.ws 0 s.ks.length).length:=by rw [plsW_length];unfold manyC at k1;omega
 obtain ⟨hr,hbit,hat⟩:=pls_rank hn;rw [takC,if_pos h,sgL_eq kn.cap.seg,kn.cap.hgt,Int.toNat_natCast];unfold takN;generalize (plsW s.ws 0 s.ks.length).getD k 0=at_ at *;obtain ⟨kz,gz,zl,t1,t2,hzm⟩:=take_in kn hu hat hbit;have TK:=fun i=>tk_all g hat hbit hr i
 have hzl:(tkC s at_).laid=s.laid:=tks_laid s at_ 1;dsimp only;generalize tkC s at_=z at *;obtain ⟨z1,z2,z3,z4,z5,z6⟩:=kz.pows;rw [←zl] at gz TK;have hzm2:=cntW_le z.ws 0 z.ks.length;rw [←hzl] at hwl ⊢;rw [←zl];by_cases ht1:topI (unfB c z a H at_) (H+1)= -1
 · rw [if_pos ht1];refine ⟨0,0,0,Nat.le_refl _,by omega,?_,fun i hi _=>(TK i).symm⟩;rw [show z.laid+((0:Nat):Int)=z.laid by omega,hwl]
 · rw [if_neg ht1];by_cases ht:topI (unfB c z a H at_) (H+1)=H
   · rw [if_pos ht];have hLn:(prs z 0 z.ks.length).length=manyC z:=prs_length _ _ _;refine ⟨0,manyC z,manyC z,Nat.le_refl _,by unfold manyC;omega,?_,fun i hi hd=>absurd hi xo⟩;exact (sp_laid (emptyL (2^a) ((narF c (manyC z) 20 z.ks.length).toNat/2^a) z.laid) _ _ _ hwl).trans (by first|(rw [hLn];done)|(rw [hLn];rfl))
   · rw [if_neg ht];obtain ⟨h',eh,hh⟩:∃h':Nat,topI (unfB c z a H at_) (H+1)+1=h'∧h'≤H:=by
      have:=topI_bd (unfB c z a H at_) (H+1);exact ⟨(topI (unfB c z a H at_) (H+1)+1).toNat,by omega,by omega⟩
     have hht:(topI (unfB c z a H at_) (H+1)+1).toNat=h':=xo;simp only [hht];have b:=wnd_bd (a:=a) (at_:=at_) hh (by rw [←kz.nk];omega);have hhi:(wnd a h' at_+1)*2^(a+h')≤z.ks.length:=by rw [kz.nk];exact b.2.2.2
     have eww:(wnd a h' at_+1)*2^(a+h')=wnd a h' at_*2^(a+h')+2^(a+h'):=Nat.succ_mul _ _;have hlh:wnd a h' at_*2^(a+h')≤(wnd a h' at_+1)*2^(a+h'):=xo;have hpl:=prs_length z (wnd a h' at_*2^(a+h')) ((wnd a h' at_+1)*2^(a+h'));have hc2:=cntW_le z.ws (wnd a h' at_*2^(a+h')) ((wnd a h' at_+1)*2^(a+h'));generalize wnd a h' at_*2^(a+h')=lo at *;generalize (wnd a h' at_+1)*2^(a+h')=hi at *;have hL:(prs z lo hi).length≤hi-lo:=by rw [hpl];exact hc2
     refine ⟨cntW z.ws 0 lo,cntW z.ws lo hi,cntW z.ws lo hi,Nat.le_refl _,by omega,?_,fun i hi' hd=> ?_⟩
     · rw [sp_laid _ _ _ _ hwl,hpl]
     · rw [←TK i,(gz.sp hlh hhi hL).elk,sp_all gz hlh hhi hL,plsW_app z.ws (Nat.zero_le lo) (Nat.le_trans hlh hhi),plsW_app z.ws hlh hhi,←List.append_assoc,getD_app,getD_app,plR_length,hpl,plsW_length,plsW_length];rcases hd with hd|hd
       · rw [if_pos hd,if_pos hd]
       · rw [if_neg xo,if_neg xo,if_neg xo,if_neg xo]
theorem out_moved {r:OmR} (sz:SzO r) {n g:Int} (hE:r.E=0) (hi:isH r.gs r.ps n g=true) (hmv:0≤r.mv∧r.mv<18446744073709551616):
    (r.dR n g).mv=IntKind.u64.wrap (r.mv+(sumB (fun i=> !decide (r.N.getD (shI (rnkH r.s r.ps n) i) 0=(r.dR n g).N.getD i 0)) (manyC r.s-1):Nat)):=by
 have hE':omE r.c r.s r.gs r.ps=0:=hE;have hd:outE r.c r.s r.gs r.ps n g=0:=by rw [outE,if_pos hE',if_pos hi]
 have hR:r.dR n g=⟨r.c,outS r.c r.s r.ps n,dropG r.gs r.ps n g,(outX r.c r.s r.gs r.ps r.mv n g).1,(outX r.c r.s r.gs r.ps r.mv n g).2⟩:=if_pos hd;obtain ⟨-,-,hprs⟩:=out_prs sz.u hE' hi;have hdst:=out_dst sz.u hE' hi;have hm:=(omE_zero hE').2.1;obtain ⟨r1,r2⟩:=rnk_pair hE' hi;have h0:∀j,j<(outS r.c r.s r.ps n).ks.length→bitW (outS r.c r.s r.ps n).ws j=true→0≤(outS r.c r.s r.ps n).ks.getD j 0:=fun j hj hb=>(out_keys sz.u hE' hi hj hb).1
 have hpw:=dst_keys hdst h0;have e1:=stl_cnt (-1) (outS r.c r.s r.ps n) (plsW (outS r.c r.s r.ps n).ws 0 (outS r.c r.s r.ps n).ks.length) (dropP r.gs r.ps n g,r.mv) hpw hmv.1 hmv.2;have hlp:(prs r.s 0 r.s.ks.length).length=manyC r.s:=prs_length _ _ _;rw [hlp] at r1;have hN:(plsW (outS r.c r.s r.ps n).ws 0 (outS r.c r.s r.ps n).ks.length).length=manyC r.s-1:=by
  have:=congrArg List.length hprs;have h2:=delL_len (l:=prs r.s 0 r.s.ks.length) (k:=rnkH r.s r.ps n) (by rw [hlp];exact r1);rw [prs_length] at this;rw [plsW_length];omega
 rw [countP_sumB,hN] at e1;have hN':(r.dR n g).N=plsW (outS r.c r.s r.ps n).ws 0 (outS r.c r.s r.ps n).ks.length:=by rw [hR];rfl
 have hm':(r.dR n g).mv=(outX r.c r.s r.gs r.ps r.mv n g).2:=by rw [hR]
 rw [hm',hN'];refine e1.trans ?_;congr 3
 refine sumB_congr _ fun i hi'=> ?_
 have hs:shI (rnkH r.s r.ps n) i<manyC r.s:=by unfold shI;split<;>omega
 have hki:(outS r.c r.s r.ps n).ks.getD ((plsW (outS r.c r.s r.ps n).ws 0 (outS r.c r.s r.ps n).ks.length).getD i 0) 0=r.s.ks.getD (r.N.getD (shI (rnkH r.s r.ps n) i) 0) 0:=by
  have:=prs_at (s:=outS r.c r.s r.ps n) (a:=0) (b:=(outS r.c r.s r.ps n).ks.length) (i:=i) (by rw [hN];exact hi');rw [hprs,del_sh (by rw [hlp];exact r1),prs_at (by rw [plsW_length];exact hs)] at this;exact (congrArg Prod.fst this).symm
 obtain ⟨n0,n1,n2,n3⟩:=N_at hE hs;have hq:((delL (prs r.s 0 r.s.ks.length) (rnkH r.s r.ps n)).getD i (0,0)) ∈ delL (prs r.s 0 r.s.ks.length) (rnkH r.s r.ps n):=by
  have h2:=delL_len (l:=prs r.s 0 r.s.ks.length) (k:=rnkH r.s r.ps n) (by rw [hlp];exact r1);have h3:i<(delL (prs r.s 0 r.s.ks.length) (rnkH r.s r.ps n)).length:=xo;rw [List.getD_eq_getElem?_getD,List.getElem?_eq_getElem h3];exact List.getElem_mem h3
 have hne:=Dst.at (om_dst hE') (by rw [hlp];exact r1) hq;rw [r2,del_sh (by rw [hlp];exact r1),prs_at (by rw [plsW_length];exact hs)] at hne;have ih:=isH_facts hi;have hm1:r.s.ks.getD (r.N.getD (shI (rnkH r.s r.ps n) i) 0) 0≠ -1:=xo;have hne2:n.toNat≠keyN r.s (r.N.getD (shI (rnkH r.s r.ps n) i) 0):=by
  unfold keyN;intro e;apply hne;show r.s.ks.getD (r.N.getD (shI (rnkH r.s r.ps n) i) 0) 0=n;omega
 rw [trnB,hki,decide_eq_false hm1,Bool.not_false,Bool.and_true];have hdp:(dropP r.gs r.ps n g).getD (keyN (outS r.c r.s r.ps n) ((plsW (outS r.c r.s r.ps n).ws 0 (outS r.c r.s r.ps n).ks.length).getD i 0)) 0=r.ps.getD (keyN r.s (r.N.getD (shI (rnkH r.s r.ps n) i) 0)) 0:=by
  have ek:keyN (outS r.c r.s r.ps n) ((plsW (outS r.c r.s r.ps n).ws 0 (outS r.c r.s r.ps n).ks.length).getD i 0)=keyN r.s (r.N.getD (shI (rnkH r.s r.ps n) i) 0):=by unfold keyN;rw [hki]
  rw [ek,dropP,if_pos ⟨hm,hi⟩,List.getD_eq_getElem?_getD,List.getElem?_set_ne hne2,←List.getD_eq_getElem?_getD]
 rw [hdp,n1];congr 1
 rw [decide_eq_decide];omega
end
section
open Go.RowKit Go.Shelf Go.Sort
end
section
open Go.RowKit Go.Shelf Go.Sort
theorem L_at {r:OmR} (h:r.E=0) {i:Nat} (hi:i<r.L.length):isH r.gs r.ps (r.L.getD i (0,0)).1 (r.L.getD i (0,0)).2=true∧r.lE (r.L.getD i (0,0)).1 (r.L.getD i (0,0)).2=0∧r.lV (r.L.getD i (0,0)).1 (r.L.getD i (0,0)).2=(((plsW r.s.ws 0 r.s.ks.length).getD i 0:Nat):Int)∧i<(plsW r.s.ws 0 r.s.ks.length).length:=by
 have hE:omE r.c r.s r.gs r.ps=0:=h;obtain ⟨hg,hm,hl⟩:=omE_zero hE;have eL:r.L=hdl r.s r.gs 0 r.s.ks.length:=if_pos hE;rw [eL] at hi ⊢;have hp:i<(plsW r.s.ws 0 r.s.ks.length).length:=by rw [hdl,List.length_map] at hi;exact hi
 have ea:(hdl r.s r.gs 0 r.s.ks.length).getD i (0,0)=(r.s.ks.getD ((plsW r.s.ws 0 r.s.ks.length).getD i 0) 0,r.gs.getD (r.s.ks.getD ((plsW r.s.ws 0 r.s.ks.length).getD i 0) 0).toNat 0):=by
  rw [hdl,List.getD_eq_getElem?_getD,List.getElem?_map,List.getElem?_eq_getElem hp,List.getD_eq_getElem?_getD (l:=plsW _ _ _),List.getElem?_eq_getElem hp];rfl
 obtain ⟨-,hb,hlt⟩:=pls_rank hp;have la:=lnkAt_facts (lnkTo_at (live_lnk hl).2 hlt hb);have ml:=may_len hm;have hi':isH r.gs r.ps ((hdl r.s r.gs 0 r.s.ks.length).getD i (0,0)).1 ((hdl r.s r.gs 0 r.s.ks.length).getD i (0,0)).2=true:=by
  rw [ea];simp only [isH,Bool.and_eq_true,decide_eq_true_eq];exact ⟨⟨⟨la.2.1,by omega⟩,by rw [la.2.2.2];omega⟩,trivial⟩
 refine ⟨hi',?_,?_,hp⟩
 · unfold OmR.lE labE;rw [if_pos hE,if_pos hi']
 · unfold OmR.lV labV;rw [if_pos ⟨hE,hi'⟩,ea];exact la.2.2.2
end
section
open Go.RowKit Go.Shelf Go.Sort
theorem wr_sub (x:Int) (k:Nat) (h:k≤1000000):IntKind.u64.wrap (IntKind.u64.wrap (x+(k:Int))-x)=(k:Int):=by
 rw [wr64,wr64];omega
theorem sumB_step (f:Nat→Bool) (P:Nat→Prop) [DecidablePred P] (h:∀i,f i= !decide (P i)) (i:Nat):sumB f (i+1)=if P i then sumB f i else sumB f i+1:=by
 rw [sumB,h i];by_cases q:P i
 · rw [if_pos q,decide_eq_true q];rfl
 · rw [if_neg q,decide_eq_false q];rfl
theorem nilR_E:nilR.E=50:=by decide +kernel
theorem nil_lab (n g:Int):nilR.lE n g=50∧nilR.lV n g=0:=by
 have h:¬omE nilR.c nilR.s nilR.gs nilR.ps=0:=by have:=nilR_E;unfold OmR.E at this;omega
 have h2:=nilR_E;unfold OmR.E at h2;refine ⟨?_,?_⟩
 · unfold OmR.lE labE;rw [if_neg h,h2]
 · unfold OmR.lV labV;rw [if_neg fun e=>h e.1]
theorem out_lab {r:OmR} (sz:SzO r) {n g:Int} (hE:r.E=0) (hi:isH r.gs r.ps n g=true) {i:Nat} (hl:i+1<r.L.length):
    ¬((r.L.getD (shI (rnkH r.s r.ps n) i) (0,0)).1=n∧(r.L.getD (shI (rnkH r.s r.ps n) i) (0,0)).2=g)∧
    (r.dR n g).lE (r.L.getD (shI (rnkH r.s r.ps n) i) (0,0)).1 (r.L.getD (shI (rnkH r.s r.ps n) i) (0,0)).2=0∧
    (r.dR n g).lV (r.L.getD (shI (rnkH r.s r.ps n) i) (0,0)).1 (r.L.getD (shI (rnkH r.s r.ps n) i) (0,0)).2=(((r.dR n g).N.getD i 0:Nat):Int):=by
 obtain ⟨o1,o2,o3,o4,o5,o6⟩:=out_R sz hE hi;have hdl:=delL_len o5;have hid:i<(r.dR n g).L.length:=by rw [o2];omega
 obtain ⟨a1,a2,a3,a4⟩:=L_at o1 hid;rw [o2,del_sh o5] at a2 a3;refine ⟨fun e=> ?_,a2,a3⟩;rcases idxL_cases (delL r.L (rnkH r.s r.ps n)) n g with ⟨-,c2⟩ | ⟨k,c1,-,-⟩
 · exact c2 i xo (by rw [del_sh o5];exact Prod.ext e.1 e.2)
 · omega
theorem OmMoves_walk (w:World) (r:OmR) (A:OmA) (h:RawO w r A) (n g:Int) (hT:TabAt w):Calls Tryz.prog 6 #[ordV r A,hdV n g] w (AnsB w (.bool true)):=by
 have AL:=hid (fun W (hb:Below w.heap.size w W)=>alive15_ok W (hT.below hb));have GR:=hid (fun W=>oGreat r A W);cases hg:r.gr with
 | true=>
  rw [hg] at GR;exact MV_great r r r A n g 0 0 w AL GR
 | false =>
  rw [hg] at GR;have hI:=h.inO hg;have hlen:=L_len hI.sz;have LS:=fun W (hb:Below w.heap.size w W)=>oListL r A W (hI.below hb)
  have KA:=fun W (hb:Below w.heap.size w W)=>oAfter r A n g W (hI.below hb) (hT.below hb)
  have KD:=fun W (hb:Below w.heap.size w W)=>oDelete r A n g W (hI.below hb) (hT.below hb)
  by_cases hE:r.E=0
  · have hE':omE r.c r.s r.gs r.ps=0:=hE;have hLm:=L_len2 hE;rw [hE] at LS;by_cases hi:isH r.gs r.ps n g=true
    · have b1:r.bE n g=inE r.c r.s r.gs r.ps:=by unfold OmR.bE bsdE;rw [if_pos hE',if_pos hi]
      have d1:r.dE n g=0:=by unfold OmR.dE outE;rw [if_pos hE',if_pos hi]
      obtain ⟨o1,o2,o3,o4,o5,o6⟩:=out_R hI.sz hE hi;rw [d1] at KD;have LA:∀i:Nat,i<r.L.length→∀W,Below w.heap.size w W→Calls Tryz.prog 26 #[ordV r A,hdV (r.L.getD i (0,0)).1 (r.L.getD i (0,0)).2] W (AnsB W (.tuple #[.int .i64 ((r.N.getD i 0:Nat):Int),.int .i64 0])):=fun i hl W hb=>by
       obtain ⟨a1,a2,a3,a4⟩:=L_at hE hl;have:=oLabel r A (r.L.getD i (0,0)).1 (r.L.getD i (0,0)).2 W (hI.below hb);rw [a2,a3] at this;exact this
      have LQ:∀i:Nat,i<r.L.length→∀(W:World) (A2:OmA),Below w.heap.size w W→InO W (r.dR n g) A2→Calls Tryz.prog 26 #[ordV (r.dR n g) A2,hdV (r.L.getD i (0,0)).1 (r.L.getD i (0,0)).2] W (AnsB W (.tuple #[.int .i64 ((r.dR n g).lV (r.L.getD i (0,0)).1 (r.L.getD i (0,0)).2),.int .i64 ((r.dR n g).lE (r.L.getD i (0,0)).1 (r.L.getD i (0,0)).2)])):=fun i hl W A2 hb h2=>oLabel (r.dR n g) A2 _ _ W h2
      have hk:rnkH r.s r.ps n<r.L.length:=o5;have HQ:∀i:Nat,i<r.L.length→¬((r.L.getD i (0,0)).1=n∧(r.L.getD i (0,0)).2=g)→(r.dR n g).lE (r.L.getD i (0,0)).1 (r.L.getD i (0,0)).2=0:=fun i hl hne=>by
       rcases Nat.lt_trichotomy i (rnkH r.s r.ps n) with q|q|q
       · have:=(out_lab hI.sz hE hi (i:=i) xo).2.1;rwa [shI,if_pos q] at this
       · exfalso
         apply hne;have:(insL (delL r.L (rnkH r.s r.ps n)) (rnkH r.s r.ps n) (n,g)).getD (rnkH r.s r.ps n) (0,0)=(n,g):=(ins_get _ (by have:=delL_len o5;omega) _).1;rw [←o3] at this;rw [q,this];exact ⟨rfl,rfl⟩
       · have:=(out_lab hI.sz hE hi (i:=i-1) xo).2.1;rwa [shI,if_neg xo,show i-1+1=i by omega] at this
      have hkn:(r.L.getD (rnkH r.s r.ps n) (0,0)).1=n∧(r.L.getD (rnkH r.s r.ps n) (0,0)).2=g:=by
       have:(insL (delL r.L (rnkH r.s r.ps n)) (rnkH r.s r.ps n) (n,g)).getD (rnkH r.s r.ps n) (0,0)=(n,g):=(ins_get _ (by have:=delL_len o5;omega) _).1;rw [←o3] at this;rw [this];exact ⟨rfl,rfl⟩
      obtain ⟨fb,hfb⟩:∃fb:Nat→Bool,fb=fun i=> !decide (((r.L.getD i (0,0)).1=n∧(r.L.getD i (0,0)).2=g)∨((r.N.getD i 0:Nat):Int)=(r.dR n g).lV (r.L.getD i (0,0)).1 (r.L.getD i (0,0)).2):=⟨_,rfl⟩
      have HB:∀i:Nat,i<r.L.length→sumB fb (i+1)=if ((r.L.getD i (0,0)).1=n∧(r.L.getD i (0,0)).2=g)∨((r.N.getD i 0:Nat):Int)=(r.dR n g).lV (r.L.getD i (0,0)).1 (r.L.getD i (0,0)).2 then sumB fb i else sumB fb i+1:=fun i _=>sumB_step fb (fun i=>((r.L.getD i (0,0)).1=n∧(r.L.getD i (0,0)).2=g)∨((r.N.getD i 0:Nat):Int)=(r.dR n g).lV (r.L.getD i (0,0)).1 (r.L.getD i (0,0)).2) (fun i=>by rw [hfb]) i
      have ecb:sumB fb r.L.length=sumB (fun i=> !decide (r.N.getD (shI (rnkH r.s r.ps n) i) 0=(r.dR n g).N.getD i 0)) (manyC r.s-1):=by
       have e0:r.L.length=(manyC r.s-1)+1:=xo;rw [e0,sumB_sh fb (rnkH r.s r.ps n) _ xo];have ek:fb (rnkH r.s r.ps n)=false:=by rw [hfb];dsimp only;rw [decide_eq_true (.inl hkn)];rfl
       rw [ek,if_neg xdd,Nat.add_zero];refine sumB_congr _ fun i hi'=> ?_
       obtain ⟨l1,l2,l3⟩:=out_lab hI.sz hE hi (i:=i) xo;rw [hfb];dsimp only;rw [l3];congr 1
       rw [decide_eq_decide];constructor
       · rintro (e|e)
         · exact absurd e l1
         · omega
       · intro e;exact .inr (by rw [e])
      have hm2:=out_moved hI.sz hE hi h.mw;obtain ⟨c0,cw,T,t1,t2,t3,t4⟩:=take_loc hI.sl.u h.lw.1 h.lw.2 (out_prs hI.sl.u hE' hi).1;have hdR:r.dR n g=⟨r.c,outS r.c r.s r.ps n,dropG r.gs r.ps n g,(outX r.c r.s r.gs r.ps r.mv n g).1,(outX r.c r.s r.gs r.ps r.mv n g).2⟩:=if_pos d1;have hlb:sumB fb r.L.length≤T:=by
       rw [ecb];refine Nat.le_trans (sumB_in (c0:=c0) (cw:=cw) _ fun i hi' hf=> ?_).1 t1;by_cases q:i<c0∨c0+cw≤i
       · have:=t4 i xo q;have eN:(r.dR n g).N=plsW (takC r.c r.s (rnkH r.s r.ps n)).ws 0 (takC r.c r.s (rnkH r.s r.ps n)).ks.length:=by rw [hdR];rfl
         rw [eN] at hf;unfold OmR.N at hf;rw [this,decide_eq_true rfl] at hf;cases hf
       · omega
      have hsb:=sumB_le fb r.L.length;have HF2:IntKind.u64.wrap ((r.dR n g).mv-r.mv)=(sumB fb r.L.length:Int)∧IntKind.u64.wrap ((r.dR n g).s.laid-r.s.laid)=(T:Int)∧decide ((sumB fb r.L.length:Int)≤(T:Int))=true:=by
       refine ⟨?_,?_,decide_eq_true xo⟩
       · rw [hm2,←ecb];exact wr_sub _ _ xo
       · have e:(r.dR n g).s.laid=(takC r.c r.s (rnkH r.s r.ps n)).laid:=by rw [hdR];rfl
         rw [e,t3];exact wr_sub _ _ xo
      rcases inE_two r.c r.s r.gs r.ps with hi0|hi9
      · rw [b1,hi0] at KA;have haR:r.aR n g=inR r.c r.s r.gs r.ps r.mv 0 (rnkH r.s r.ps n+1):=by unfold OmR.aR;rw [b1,hi0]
        have hk1:rnkH r.s r.ps n+1≤manyC r.s:=xo;obtain ⟨q3,q4⟩:=in_R hI.sz hE hi0 hk1 (r.aR n g) haR;have LP:∀i:Nat,i<r.L.length→∀(W:World) (A2:OmA),Below w.heap.size w W→InO W (r.aR n g) A2→Calls Tryz.prog 26 #[ordV (r.aR n g) A2,hdV (r.L.getD i (0,0)).1 (r.L.getD i (0,0)).2] W (AnsB W (.tuple #[.int .i64 (((r.aR n g).N.getD (shI (rnkH r.s r.ps n+1) i) 0:Nat):Int),.int .i64 0])):=fun i hl W A2 hb h2=>by
         have hs:shI (rnkH r.s r.ps n+1) i<(r.aR n g).L.length:=by
          rw [q4,insL_length xo];unfold shI;split<;>omega
         obtain ⟨a1,a2,a3,a4⟩:=L_at q3 hs;rw [q4,ins_sh xo hl] at a2 a3;have:=oLabel (r.aR n g) A2 (r.L.getD i (0,0)).1 (r.L.getD i (0,0)).2 W h2;rw [a2,a3] at this;exact this
        obtain ⟨fa,hfa⟩:∃fa:Nat→Bool,fa=fun i=> !decide (((r.N.getD i 0:Nat):Int)=(((r.aR n g).N.getD (shI (rnkH r.s r.ps n+1) i) 0:Nat):Int)):=⟨_,rfl⟩
        have HA:∀i:Nat,i<r.L.length→sumB fa (i+1)=if ((r.N.getD i 0:Nat):Int)=(((r.aR n g).N.getD (shI (rnkH r.s r.ps n+1) i) 0:Nat):Int) then sumB fa i else sumB fa i+1:=fun i _=>sumB_step fa (fun i=>((r.N.getD i 0:Nat):Int)=(((r.aR n g).N.getD (shI (rnkH r.s r.ps n+1) i) 0:Nat):Int)) (fun i=>by rw [hfa]) i
        have eca:sumB fa r.L.length=sumB (fun i=> !decide (r.N.getD i 0=(r.aR n g).N.getD (shI (rnkH r.s r.ps n+1) i) 0)) (manyC r.s):=by
         rw [hLm];refine sumB_congr _ fun i _=> ?_
         rw [hfa];dsimp only;congr 1
         rw [decide_eq_decide];omega
        have hm1:=in_moved hI.sz hE hi0 h.mw hk1 (r.aR n g) haR;obtain ⟨x0,xw,X,y1,y2,y3,y4⟩:=put_loc hI.sl.u h.lw.1 h.lw.2 (makeN r.gs r.ps 0,0) (in_prs hI.sl.u hE' hi0 hk1).1;have haS:r.aR n g=⟨r.c,inS r.c r.s r.gs r.ps (rnkH r.s r.ps n+1),makeG r.gs r.ps 0,(inX r.c r.s r.gs r.ps r.mv (rnkH r.s r.ps n+1)).1,(inX r.c r.s r.gs r.ps r.mv (rnkH r.s r.ps n+1)).2⟩:=haR.trans (if_pos rfl);have hla:sumB fa r.L.length≤X:=by
         rw [eca];refine Nat.le_trans (sumB_in (c0:=x0) (cw:=xw) _ fun i hi' hf=> ?_).1 y1;by_cases q:i<x0∨x0+xw≤i
         · have:=y4 i hi' q;have eN:(r.aR n g).N=plsW (putC r.c r.s ((rnkH r.s r.ps n+1:Nat):Int) (makeN r.gs r.ps 0,0)).ws 0 (putC r.c r.s ((rnkH r.s r.ps n+1:Nat):Int) (makeN r.gs r.ps 0,0)).ks.length:=by rw [haS];rfl
           rw [eN] at hf;unfold OmR.N at hf;rw [this,decide_eq_true rfl] at hf;cases hf
         · omega
        have hsa:=sumB_le fa r.L.length;refine MV_in r (r.aR n g) (r.dR n g) A n g _ _ _ _ _ _ (sumB fa) (sumB fb) (X:Int) (T:Int) w AL GR (hid LS) (hid KA) (hid KD) (hid LA) (hid LP) (hid LQ) (hid HQ) (hid ⟨rfl,rfl⟩) (hid hlen)
          (hid fun i hl=>⟨by have:=sumB_le fa i;omega,by have:=sumB_le fb i;omega⟩) (hid HA) (hid HB) (hid ⟨?_,?_,decide_eq_true xo⟩) (hid HF2)
        · rw [hm1,←eca];exact wr_sub _ _ xo
        · have e:(r.aR n g).s.laid=(putC r.c r.s ((rnkH r.s r.ps n+1:Nat):Int) (makeN r.gs r.ps 0,0)).laid:=by rw [haS];rfl
          rw [e,y3];exact wr_sub _ _ xo
      · rw [b1,hi9] at KA;have haR:r.aR n g=nilR:=by unfold OmR.aR;rw [b1,hi9];exact if_neg xdd
        rw [haR] at KA;refine MV_in9 r nilR (r.dR n g) A n g _ _ 9 50 xdd xdd _ (fun _=>0) _ _ (fun _=>0) (sumB fb) 0 (T:Int) w AL GR (hid LS) (hid KA) (hid KD) (hid LA) (hid fun i hl W A2 hb h2=> ?_) (hid LQ) (hid HQ) (hid ⟨rfl,rfl⟩) (hid hlen)
          (hid fun i hl=>⟨by decide,by have:=sumB_le fb i;omega⟩) (hid fun _ _=>rfl) (hid HB) (hid HF2)
        have:=oLabel nilR A2 (r.L.getD i (0,0)).1 (r.L.getD i (0,0)).2 W h2;rw [(nil_lab _ _).1,(nil_lab _ _).2] at this;exact this
    · have b1:r.bE n g=140:=by unfold OmR.bE bsdE;rw [if_pos hE',if_neg hi]
      have d1:r.dE n g=140:=by unfold OmR.dE outE;rw [if_pos hE',if_neg hi]
      exact MV_none r (r.aR n g) (r.dR n g) A n g _ _ (r.bE n g) (r.dE n g) xo xo w AL GR (hid LS) (hid KA) (hid KD)
  · exact MV_err r (r.aR n g) (r.dR n g) A n g _ _ r.E (r.bE n g) (r.dE n g) hE w AL GR (hid LS) (hid KA) (hid KD)
end
section
open Go.ChangeShapes Go.WideShapes Go.ChangeAt Go.RowKit Go.Joins
end
section
open Go.ChangeShapes Go.WideShapes Go.ChangeAt Go.RowKit Go.Joins
theorem open_rowK {H:Type} {enc:TypeId×Value→H} {w:World} {fuel:Nat} {base:Nat} {spare:Nat→Bool} {held:Bool} {t e:TypeId} {k:IntKind} {cs:List Value} {x:DataW H×List MemPlace}
    (ht:Tryz.prog.underlying t=some (.slice e)) (he:Tryz.prog.underlying e=some (.int k)) (hc:Tryz.prog.cellsOf e=1) (h:DataW.trod enc Tryz.prog w base spare held fuel t cs=some x):
    ∃(ao:Option Addr) (xs:List Int) (cap:Nat),cs=[.slice ao xs.length cap]∧IsRow k w ao xs∧(ao=none→cap=0)∧xs.length≤maxLen∧(∀n ∈ xs,(Lit.int k n).wf=true):=by
 rcases open_ints ht he hc h with ⟨rfl,rfl⟩ | ⟨a,len,cap,zs,rfl,hb,hl,hm,hz,rfl,hc,hw⟩
 · exact ⟨none,[],0,rfl,fun i hi=>by simp at hi,fun _=>rfl,by simp,by simp⟩
 · have hlen:len≤zs.length:=by rw [hz];split<;>omega
   refine ⟨some a,zs.take len,cap,by simp [hlen],?_,fun h=>(by cases h),by simp;omega,fun n hn=>hw n (List.mem_of_mem_take hn)⟩;intro i hi;have hi':i<len:=by simp at hi;omega
   obtain ⟨b,off,sp⟩:=a;have h0:=hc 0 xo;obtain rfl:sp=none:=by simpa [Addr.add] using World.cell?_spot h0
   refine ⟨b,off,rfl,?_,fun j hj=> ?_⟩
   · have:=World.block_lt_of_cell? w _ h0;simpa [Addr.add] using this
   · have hj':j<len:=by simp at hj;omega
     have:=hc j xo;rw [Addr.add_lit] at this;rw [this];simp [List.getD_eq_getElem?_getD,List.getElem?_take,hj']
end
section
open Go.ChangeShapes Go.WideShapes Go.ChangeAt Go.RowKit Go.Joins Go.Deep Go.WideElems
theorem trod_struct_six {P:Program} {H:Type} {enc:TypeId×Value→H} {w:World} {base:Nat} {spare:Nat→Bool} {held:Bool} {t:TypeId} {f0 f1 f2 f3 f4 f5:Field} {fuel:Nat} {cs:List Value} {x:DataW H×List MemPlace} (ht:P.underlying t=some (.struct #[f0,f1,f2,f3,f4,f5])) (h:DataW.trod enc P w base spare held fuel t cs=some x):
    ∃ y0 y1 y2 y3 y4 y5 n,DataW.trod enc P w base spare held n f0.type ((cs.drop f0.offset).take (P.cellsOf f0.type))=some y0∧DataW.trod enc P w base spare held n f1.type ((cs.drop f1.offset).take (P.cellsOf f1.type))=some y1∧DataW.trod enc P w base spare held n f2.type ((cs.drop f2.offset).take (P.cellsOf f2.type))=some y2∧
      DataW.trod enc P w base spare held n f3.type ((cs.drop f3.offset).take (P.cellsOf f3.type))=some y3∧DataW.trod enc P w base spare held n f4.type ((cs.drop f4.offset).take (P.cellsOf f4.type))=some y4∧DataW.trod enc P w base spare held n f5.type ((cs.drop f5.offset).take (P.cellsOf f5.type))=some y5:=by
 obtain ⟨xs,n,_,rfl,hl,hlen,hf⟩:=DataW.trod_struct ht h;match xs,hlen with
 | [y0,y1,y2,y3,y4,y5],_=>exact ⟨y0,y1,y2,y3,y4,y5,n,by simpa using hf 0 f0 rfl,by simpa using hf 1 f1 rfl,by simpa using hf 2 f2 rfl,by simpa using hf 3 f3 rfl,by simpa using hf 4 f4 rfl,by simpa using hf 5 f5 rfl⟩
theorem u64_wf {n:Int} (h:(Lit.int .u64 n).wf=true):0≤n∧n<18446744073709551616:=by
 simp [Lit.wf,IntKind.min,IntKind.max,IntKind.signed,IntKind.bits] at h;omega
end
section
open Go.ChangeShapes Go.WideShapes Go.ChangeAt Go.RowKit Go.Joins Go.Deep Go.WideElems
theorem trod_struct_nine {P:Program} {H:Type} {enc:TypeId×Value→H} {w:World} {base:Nat} {spare:Nat→Bool} {held:Bool} {t:TypeId} {f0 f1 f2 f3 f4 f5 f6 f7 f8:Field} {fuel:Nat} {cs:List Value} {x:DataW H×List MemPlace} (ht:P.underlying t=some (.struct #[f0,f1,f2,f3,f4,f5,f6,f7,f8])) (h:DataW.trod enc P w base spare held fuel t cs=some x):
    ∃y0 y1 y2 y3 y4 y5 y6 y7 y8 n,DataW.trod enc P w base spare held n f0.type ((cs.drop f0.offset).take (P.cellsOf f0.type))=some y0∧DataW.trod enc P w base spare held n f1.type ((cs.drop f1.offset).take (P.cellsOf f1.type))=some y1∧DataW.trod enc P w base spare held n f2.type ((cs.drop f2.offset).take (P.cellsOf f2.type))=some y2∧DataW.trod enc P w base spare held n f3.type ((cs.drop f3.offset).take (P.cellsOf f3.type))=some y3∧DataW.trod enc P w base spare held n f4.type ((cs.drop f4.offset).take (P.cellsOf f4.type))=some y4∧DataW.trod enc P w base spare held n f5.type ((cs.drop f5.offset).take (P.cellsOf f5.type))=some y5∧DataW.trod enc P w base spare held n f6.type ((cs.drop f6.offset).take (P.cellsOf f6.type))=some y6∧DataW.trod enc P w base spare held n f7.type ((cs.drop f7.offset).take (P.cellsOf f7.type))=some y7∧DataW.trod enc P w base spare held n f8.type ((cs.drop f8.offset).take (P.cellsOf f8.type))=some y8:=by
 obtain ⟨xs,n,_,rfl,hl,hlen,hf⟩:=DataW.trod_struct ht h;match xs,hlen with
 | [y0,y1,y2,y3,y4,y5,y6,y7,y8],_=>exact ⟨y0,y1,y2,y3,y4,y5,y6,y7,y8,n,by simpa using hf 0 f0 rfl,by simpa using hf 1 f1 rfl,by simpa using hf 2 f2 rfl,by simpa using hf 3 f3 rfl,by simpa using hf 4 f4 rfl,by simpa using hf 5 f5 rfl,by simpa using hf 6 f6 rfl,by simpa using hf 7 f7 rfl,by simpa using hf 8 f8 rfl⟩
end
section
open Go.ChangeShapes Go.WideShapes Go.ChangeAt Go.RowKit Go.Joins Go.Deep Go.WideElems
theorem open_rowC {H:Type} {enc:TypeId×Value→H} {w:World} {fuel:Nat} {base:Nat} {spare:Nat→Bool} {held:Bool} {t e:TypeId} {k:IntKind} {cs:List Value} {x:DataW H×List MemPlace} {ao:Option Addr} {n cap:Nat}
    (ht:Tryz.prog.underlying t=some (.slice e)) (he:Tryz.prog.underlying e=some (.int k)) (hc:Tryz.prog.cellsOf e=1) (h:DataW.trod enc Tryz.prog w base spare held fuel t cs=some x) (hcs:cs=[.slice ao n cap]):n≤cap:=by
 rcases open_ints ht he hc h with ⟨rfl,rfl⟩ | ⟨a,len,cap,zs,rfl,hb,hl,hm,hz,rfl,hc,hw⟩
 · cases hcs;exact Nat.le_refl _
 · cases hcs;exact hl
end
section
open Go.ChangeShapes Go.WideShapes Go.ChangeAt Go.RowKit Go.Joins
theorem open_hand {H:Type} {enc:TypeId×Value→H} {w:World} {base:Nat} {spare:Nat→Bool} {held:Bool} {r:Reach} {b0:Nat} {v:Value} {d:DataW H} {p:List MemPlace}
    (hv:Value.okWide Tryz.prog w r b0 35 v) (h:DataW.Trod enc Tryz.prog w base spare held 35 v d p):
    ∃(n g:Int),v= .agg #[.int .i64 n,.int .i64 g]∧(Lit.int .i64 n).wf=true∧(Lit.int .i64 g).wf=true:=by
 obtain ⟨v0,v1,y0,y1,k,rfl,rfl,rfl,t0,t1⟩:=open_agg2 Tryz.underlying35 xk xk hv h;obtain ⟨n,e0,-,h0⟩:=DataW.trod_int Tryz.underlying3 t0;obtain ⟨g,e1,-,h1⟩:=DataW.trod_int Tryz.underlying3 t1;simp only [List.cons.injEq,and_true] at e0 e1;subst e0 e1;exact ⟨n,g,rfl,h0,h1⟩
end
section
open Go.ChangeShapes Go.WideShapes Go.ChangeAt Go.RowKit Go.Joins Go.Deep Go.WideElems
theorem array_eighteen {α : Type} {cs:Array α} (h:cs.size=18):∃c0 c1 c2 c3 c4 c5 c6 c7 c8 c9 c10 c11 c12 c13 c14 c15 c16 c17,cs= #[c0,c1,c2,c3,c4,c5,c6,c7,c8,c9,c10,c11,c12,c13,c14,c15,c16,c17]:=by
 obtain ⟨l⟩:=cs;match l,h with
 | [c0,c1,c2,c3,c4,c5,c6,c7,c8,c9,c10,c11,c12,c13,c14,c15,c16,c17],_=>exact ⟨c0,c1,c2,c3,c4,c5,c6,c7,c8,c9,c10,c11,c12,c13,c14,c15,c16,c17,rfl⟩
theorem trod_struct_four {P:Program} {H:Type} {enc:TypeId×Value→H} {w:World} {base:Nat} {spare:Nat→Bool} {held:Bool} {t:TypeId} {f0 f1 f2 f3:Field} {fuel:Nat} {cs:List Value} {x:DataW H×List MemPlace} (ht:P.underlying t=some (.struct #[f0,f1,f2,f3])) (h:DataW.trod enc P w base spare held fuel t cs=some x):
    ∃y0 y1 y2 y3 n,DataW.trod enc P w base spare held n f0.type ((cs.drop f0.offset).take (P.cellsOf f0.type))=some y0∧DataW.trod enc P w base spare held n f1.type ((cs.drop f1.offset).take (P.cellsOf f1.type))=some y1∧DataW.trod enc P w base spare held n f2.type ((cs.drop f2.offset).take (P.cellsOf f2.type))=some y2∧DataW.trod enc P w base spare held n f3.type ((cs.drop f3.offset).take (P.cellsOf f3.type))=some y3:=by
 obtain ⟨xs,n,_,rfl,hl,hlen,hf⟩:=DataW.trod_struct ht h;match xs,hlen with
 | [y0,y1,y2,y3],_=>exact ⟨y0,y1,y2,y3,n,by simpa using hf 0 f0 rfl,by simpa using hf 1 f1 rfl,by simpa using hf 2 f2 rfl,by simpa using hf 3 f3 rfl⟩
theorem trod_struct_twoP {P:Program} {H:Type} {enc:TypeId×Value→H} {w:World} {base:Nat} {spare:Nat→Bool} {held:Bool} {t:TypeId} {f0 f1:Field} {fuel:Nat} {cs:List Value} {x:DataW H×List MemPlace} (ht:P.underlying t=some (.struct #[f0,f1])) (h:DataW.trod enc P w base spare held fuel t cs=some x):
    ∃y0 y1 n,DataW.trod enc P w base spare held n f0.type ((cs.drop f0.offset).take (P.cellsOf f0.type))=some y0∧DataW.trod enc P w base spare held n f1.type ((cs.drop f1.offset).take (P.cellsOf f1.type))=some y1:=by
 obtain ⟨xs,n,_,rfl,hl,hlen,hf⟩:=DataW.trod_struct ht h;match xs,hlen with
 | [y0,y1],_=>exact ⟨y0,y1,n,by simpa using hf 0 f0 rfl,by simpa using hf 1 f1 rfl⟩
theorem nine_ofP {P:Program} {H:Type} {enc:TypeId×Value→H} {w:World} {base:Nat} {spare:Nat→Bool} {held:Bool} {t:TypeId} {f0 f1 f2 f3 f4 f5 f6 f7 f8:Field} {fuel:Nat} {c0 c1 c2 c3 c4 c5 c6 c7 c8:Value} {x:DataW H×List MemPlace} (hs:P.underlying t=some (.struct #[f0,f1,f2,f3,f4,f5,f6,f7,f8])) (hone:oneCellFields P #[f0,f1,f2,f3,f4,f5,f6,f7,f8]=true) (h:DataW.trod enc P w base spare held fuel t [c0,c1,c2,c3,c4,c5,c6,c7,c8]=some x):
    ∃(y0 y1 y2 y3 y4 y5 y6 y7 y8:DataW H×List MemPlace) (n:Nat),DataW.trod enc P w base spare held n f0.type [c0]=some y0∧DataW.trod enc P w base spare held n f1.type [c1]=some y1∧DataW.trod enc P w base spare held n f2.type [c2]=some y2∧DataW.trod enc P w base spare held n f3.type [c3]=some y3∧DataW.trod enc P w base spare held n f4.type [c4]=some y4∧DataW.trod enc P w base spare held n f5.type [c5]=some y5∧DataW.trod enc P w base spare held n f6.type [c6]=some y6∧DataW.trod enc P w base spare held n f7.type [c7]=some y7∧DataW.trod enc P w base spare held n f8.type [c8]=some y8:=by
 obtain ⟨y0,y1,y2,y3,y4,y5,y6,y7,y8,n,h0,h1,h2,h3,h4,h5,h6,h7,h8⟩:=trod_struct_nine hs h;obtain ⟨o0,k0⟩:=hone_of hone 0 f0 rfl;obtain ⟨o1,k1⟩:=hone_of hone 1 f1 rfl;obtain ⟨o2,k2⟩:=hone_of hone 2 f2 rfl;obtain ⟨o3,k3⟩:=hone_of hone 3 f3 rfl;obtain ⟨o4,k4⟩:=hone_of hone 4 f4 rfl;obtain ⟨o5,k5⟩:=hone_of hone 5 f5 rfl;obtain ⟨o6,k6⟩:=hone_of hone 6 f6 rfl;obtain ⟨o7,k7⟩:=hone_of hone 7 f7 rfl;obtain ⟨o8,k8⟩:=hone_of hone 8 f8 rfl;exact ⟨y0,y1,y2,y3,y4,y5,y6,y7,y8,n,by simpa [o0,k0] using h0,by simpa [o1,k1] using h1,by simpa [o2,k2] using h2,by simpa [o3,k3] using h3,by simpa [o4,k4] using h4,by simpa [o5,k5] using h5,by simpa [o6,k6] using h6,by simpa [o7,k7] using h7,by simpa [o8,k8] using h8⟩
theorem six_ofP {P:Program} {H:Type} {enc:TypeId×Value→H} {w:World} {base:Nat} {spare:Nat→Bool} {held:Bool} {t:TypeId} {f0 f1 f2 f3 f4 f5:Field} {fuel:Nat} {c0 c1 c2 c3 c4 c5:Value} {x:DataW H×List MemPlace} (hs:P.underlying t=some (.struct #[f0,f1,f2,f3,f4,f5])) (hone:oneCellFields P #[f0,f1,f2,f3,f4,f5]=true) (h:DataW.trod enc P w base spare held fuel t [c0,c1,c2,c3,c4,c5]=some x):
    ∃(y0 y1 y2 y3 y4 y5:DataW H×List MemPlace) (n:Nat),DataW.trod enc P w base spare held n f0.type [c0]=some y0∧DataW.trod enc P w base spare held n f1.type [c1]=some y1∧DataW.trod enc P w base spare held n f2.type [c2]=some y2∧DataW.trod enc P w base spare held n f3.type [c3]=some y3∧DataW.trod enc P w base spare held n f4.type [c4]=some y4∧DataW.trod enc P w base spare held n f5.type [c5]=some y5:=by
 obtain ⟨y0,y1,y2,y3,y4,y5,n,h0,h1,h2,h3,h4,h5⟩:=trod_struct_six hs h;obtain ⟨o0,k0⟩:=hone_of hone 0 f0 rfl;obtain ⟨o1,k1⟩:=hone_of hone 1 f1 rfl;obtain ⟨o2,k2⟩:=hone_of hone 2 f2 rfl;obtain ⟨o3,k3⟩:=hone_of hone 3 f3 rfl;obtain ⟨o4,k4⟩:=hone_of hone 4 f4 rfl;obtain ⟨o5,k5⟩:=hone_of hone 5 f5 rfl;exact ⟨y0,y1,y2,y3,y4,y5,n,by simpa [o0,k0] using h0,by simpa [o1,k1] using h1,by simpa [o2,k2] using h2,by simpa [o3,k3] using h3,by simpa [o4,k4] using h4,by simpa [o5,k5] using h5⟩
theorem open_or {H:Type} {enc:TypeId×Value→H} {w:World} {base:Nat} {spare:Nat→Bool} {held:Bool} {r:Reach} {b0:Nat} {v:Value} {d:DataW H} {p:List MemPlace}
    (hv:Value.okWide Tryz.prog w r b0 33 v) (h:DataW.Trod enc Tryz.prog w base spare held 33 v d p):
    ∃(r:OmR) (A:OmA),v=ordV r A∧RawO w r A:=by
 obtain ⟨cs,rfl,hsz⟩:=okWide_struct Tryz.underlying33 hv;obtain ⟨c0,c1,c2,c3,c4,c5,c6,c7,c8,c9,c10,c11,c12,c13,c14,c15,c16,c17,rfl⟩:=array_eighteen (hsz.trans xk);obtain ⟨fuel,hf⟩:=h;obtain ⟨y0,y1,y2,y3,n,h0,h1,h2,h3⟩:=trod_struct_four Tryz.underlying33 hf;replace h0:DataW.trod enc Tryz.prog w base spare held n 23 [c0,c1,c2,c3,c4,c5,c6,c7,c8]=some y0:=h0;replace h1:DataW.trod enc Tryz.prog w base spare held n 29 [c9,c10,c11,c12,c13,c14]=some y1:=h1;replace h2:DataW.trod enc Tryz.prog w base spare held n 31 [c15,c16]=some y2:=h2;replace h3:DataW.trod enc Tryz.prog w base spare held n 27 [c17]=some y3:=h3;obtain ⟨u0,u1,u2,u3,u4,u5,u6,u7,u8,n2,t0,t1,t2,t3,t4,t5,t6,t7,t8⟩:=nine_ofP Tryz.underlying23 xk h0;obtain ⟨z0,e0,-,-⟩:=DataW.trod_int Tryz.underlying5 t0;obtain ⟨z1,e1,-,-⟩:=DataW.trod_int Tryz.underlying3 t1;obtain ⟨z2,e2,-,-⟩:=DataW.trod_int Tryz.underlying3 t2;obtain ⟨z3,e3,-,-⟩:=DataW.trod_int Tryz.underlying3 t3;obtain ⟨z4,e4,-,-⟩:=DataW.trod_int Tryz.underlying3 t4;obtain ⟨z5,e5,-,-⟩:=DataW.trod_int Tryz.underlying3 t5;obtain ⟨z6,e6,-,-⟩:=DataW.trod_int Tryz.underlying3 t6;obtain ⟨z7,e7,-,-⟩:=DataW.trod_int Tryz.underlying3 t7;obtain ⟨z8,e8,-,-⟩:=DataW.trod_int Tryz.underlying3 t8;simp only [List.cons.injEq,and_true] at e0 e1 e2 e3 e4 e5 e6 e7 e8;subst e0 e1 e2 e3 e4 e5 e6 e7 e8;clear t0 t1 t2 t3 t4 t5 t6 t7 t8;obtain ⟨s0,s1,s2,s3,s4,s5,n3,t0,t1,t2,t3,t4,t5⟩:=six_ofP Tryz.underlying29 xk h1;obtain ⟨l,e0,-,-⟩:=DataW.trod_int Tryz.underlying3 t0;obtain ⟨wa,ws,wc,e1,w1,w2,w3,w4⟩:=open_rowK Tryz.underlying24 Tryz.underlying27 xk t1;obtain ⟨ka,ks,kc,e2,k1,k2,k3,_⟩:=open_rowK Tryz.underlying25 Tryz.underlying2 xk t2;obtain ⟨va,vs,vc,e3,l1,l2,l3,_⟩:=open_rowK Tryz.underlying25 Tryz.underlying2 xk t3;obtain ⟨ca,cs,cc,e4,m1,m2,m3,_⟩:=open_rowK Tryz.underlying26 Tryz.underlying3 xk t4;obtain ⟨o,e5,-,ow⟩:=DataW.trod_int Tryz.underlying27 t5;have r1:=open_rowC Tryz.underlying26 Tryz.underlying3 xk t4 e4;simp only [List.cons.injEq,and_true] at e0 e1 e2 e3 e4 e5;subst e0 e1 e2 e3 e4 e5;clear t0 t1 t2 t3 t4 t5;obtain ⟨x0,x1,n4,t0,t1⟩:=trod_struct_twoP Tryz.underlying31 h2;replace t0:DataW.trod enc Tryz.prog w base spare held n4 26 [c15]=some x0:=t0;replace t1:DataW.trod enc Tryz.prog w base spare held n4 26 [c16]=some x1:=t1;obtain ⟨ga,gs,gc,e0,g1,g2,g3,_⟩:=open_rowK Tryz.underlying26 Tryz.underlying3 xk t0;obtain ⟨pa,ps,pc,e1,p1,p2,p3,_⟩:=open_rowK Tryz.underlying26 Tryz.underlying3 xk t1;obtain ⟨mv,e2,-,mw⟩:=DataW.trod_int Tryz.underlying27 h3;simp only [List.cons.injEq,and_true] at e0 e1 e2;subst e0 e1 e2;exact ⟨⟨⟨z0,z1,z2,z3,z4,z5,z6,z7,z8⟩,⟨l,ws,ks,vs,cs,o⟩,gs,ps,mv⟩,⟨⟨wa,ka,va,ca,wc,kc,vc,cc⟩,ga,pa,gc,pc⟩,rfl,⟨w1,k1,l1,m1,fun x hx=>u64_wf (w4 x hx)⟩,r1,g1,p1,⟨w2,k2,l2,m2⟩,g2,p2,u64_wf mw,u64_wf ow⟩
end
end Go.Proofs.YtjhpblejlchhjaaGreatDoor

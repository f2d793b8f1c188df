/- Merged: Prs, WinW, QuietT, Ref02. -/
import Derived.Test.YtookgoidlnlckaaGreatDoorGapTellsP8
import Derived.Test.YtookgoidlnlckaaGreatDoorGapTellsP2
import Derived.Test.YtookgoidlnlckaaGreatDoorGapTellsP6
import Derived.Laws.BitsAllLaws
import Derived.Test.YtookgoidlnlckaaGreatDoorGapTellsP1
import Derived.Lib.QuietBelow
import Derived.Test.YtookgoidlnlckaaGreatDoorGapTellsP4
import Derived.Test.YtookgoidlnlckaaGreatDoorGapTellsP3
import Derived.Test.YtookgoidlnlckaaGreatDoorGapTellsP5
namespace Go.Proofs.YtookgoidlnlckaaGreatDoor
set_option maxRecDepth 100000
set_option maxHeartbeats 40000000
set_option linter.unusedVariables false
set_option linter.unusedSimpArgs false
section
open Go.RowKit Go.Shelf
attribute [local go_sem] Oper.semAt_some
theorem info_Pair:(Tryz.prog.info? 31).map (fun i=>(i.zero,i.size,i.bytes))=some (some (.agg #[.int .i64 0,.int .i64 0]),2,16):=by kernel_rfl
def prI (l:List (Int×Int)):List Int:=l.flatMap fun p=>[p.1,p.2]
theorem prI_append (a b:List (Int×Int)):prI (a++b)=prI a++prI b:=by simp [prI]
theorem prI_length (l:List (Int×Int)):(prI l).length=l.length*2:=by
 induction l with
 | nil=>rfl
 | cons p r ih=>rw [show prI (p::r)=[p.1,p.2]++prI r from rfl,List.length_append,ih];simp;omega
theorem prI_get {l:List (Int×Int)} {i:Nat} (h:i<l.length):(prI l).getD (i*2) 0=(l.getD i (0,0)).1∧(prI l).getD (i*2+1) 0=(l.getD i (0,0)).2:=by
 induction l generalizing i with
 | nil=>simp at h
 | cons p r ih=>
  rw [show prI (p::r)=p.1::p.2::prI r from rfl];cases i with
  | zero=>simp
  | succ i=>
   have:=ih (i:=i) (by simpa using h);rw [show (i+1)*2=i*2+1+1 by omega,show i*2+1+1+1=(i*2+1)+1+1 by omega];simp only [List.getD_cons_succ];exact this
def FreshPr (w:World) (l:List (Int×Int)) (e:Ending) (w':World):Prop:=
  ∃v,e= .returned v∧w'.ownsRow w.heap.size 31 2 v l.length ((prI l).map (Value.int .i64))∧Below w.heap.size w w'
def FreshPr2 (w:World) (l:List (Int×Int)) (x:Value) (e:Ending) (w':World):Prop:=
  ∃v,e= .returned (.tuple #[v,x])∧w'.ownsRow w.heap.size 31 2 v l.length ((prI l).map (Value.int .i64))∧Below w.heap.size w w'
theorem pairsL_get {l:List (Int×Int)} {k:Nat} (h:k<l.length):(pairsL l).getD k #[]= #[.agg #[.int .i64 (l.getD k (0,0)).1,.int .i64 (l.getD k (0,0)).2]]:=by
 rw [List.getD_eq_getElem?_getD,pairsL,List.getElem?_map,List.getElem?_eq_getElem h];simp [List.getD_eq_getElem?_getD,List.getElem?_eq_getElem h]
theorem take_succ_pr {l:List (Int×Int)} {k:Nat} (h:k<l.length):l.take (k+1)=l.take k++[((l.getD k (0,0)).1,(l.getD k (0,0)).2)]:=by
 rw [List.take_succ_eq_append_getElem h];have e:l.getD k (0,0)=l[k]:=by simp [List.getD_eq_getElem?_getD,List.getElem?_eq_getElem h]
 rw [e]
theorem own_isCells {w:World} {B:Nat} {e:TypeId} {s:Nat} {v:Value} {n:Nat} {xs:List Value} (h:w.ownsRow B e s v n xs):∀(j:Nat) (o:Obj),v.ownBlock=some j→w.heap[j]? =some o→o.isCells=true:=by
 intro j o hj ho;obtain ⟨-,⟨rfl,-⟩ | ⟨g,cap,cur,rfl,-,hh,-⟩⟩:=h
 · cases hj
 · cases hj;rw [hh] at ho;cases ho;rfl
structure AppI (l:List (Int×Int)) (B:Nat) (w:World) (k:Nat) (W:World):Prop where
 own:∃v,W.cell? ⟨B,0,none⟩=some v∧W.ownsRow (B+1) 31 2 v k ((prI (l.take k)).map (Value.int .i64))
 fz:W.frozen? ⟨B,0,none⟩=false
 bel:Below B w W
theorem AppI.calm {l:List (Int×Int)} {B M:Nat} {w:World} {k:Nat} {W W':World} (h:AppI l B w k W) (hc:Calm M W W') (hB:B≤M):AppI l B w k W':=by
 obtain ⟨⟨v,h1,h2⟩,h3,h4⟩:=h;exact ⟨⟨v,hc.cell h1,hc.owns h2⟩,hc.frozen h1 h3,hc.below hB h4⟩
theorem AppendSeq_ok (l:List (Int×Int)) (hl:l.length≤100000) (gf:Nat) (lb:Array Value) (eg:∀args w,(callFunc gf args).run Tryz.prog w= .ok (.enter gf args) w) (w:World) (hit:Iter Tryz.prog gf lb (pairsL l) (KpS (fun k=>k<w.heap.size)) w):
    Calls Tryz.prog 94 #[.slice none 0 0,.func (.func gf) #[] lb] w (FreshPr w l):=by
 have IT:=hid (fun W (hb:Below w.heap.size w W)=>hit.later hb);have HPL:=hid (pairsL_length l);have HPG:=hid (fun k (h:k<l.length)=>pairsL_get h);clear hit;refine calls_of_wp_m Tryz.func94 rfl ?_;simp only [Tryz.ntmps94,List.size_toArray,List.length_cons,List.length_nil,Nat.reduceAdd,Nat.reduceSub,Array.replicate_succ,Array.replicate_zero,List.push_toArray,List.append_toArray,List.nil_append,List.cons_append];go_wp2
 refine wp_range_w (xs:=pairsL l) (Kp:=KpS (fun k=>k<w.heap.size)) rfl eg
   (IT.out _ ((Below.refl _ _).alloc (Nat.le_refl _) _)) (Below.refl _ _) (fun h k=>fun i hi=>(k i hi).trans (h i hi)) ?kb ?ps
   (AppI l w.heap.size w) (fun _ _=>False) ?hI (fun _ _ _ h _=>h) ?h0 ?round ?done (fun _ _ _ _ h _=>h.elim)
 case kb=>
  intro W q o o' hl _ _ k hk;simp at hl;exact World.putObj_heap_other xo
 case ps=>
  intro x hx;simp only [pairsL,List.mem_map] at hx;obtain ⟨k,_,rfl⟩:=hx;rfl
 case hI=>
  intro k W W' h hc;exact h.calm hc (by simp)
 case h0=>
  exact ⟨⟨_,by (exact xcn),World.ownsRow_nil _ _ _ _⟩,by (exact xcn),by (exact xbel)⟩
 case round=>
  intro q k W hq hk hi;rw [HPL.out] at hk;rw [HPG.out k hk];have htk:=hid (take_succ_pr hk);generalize (l.getD k (0,0)).1=x at *;generalize (l.getD k (0,0)).2=y at *;obtain ⟨⟨v,hv,ho⟩,hfz,hbel⟩:=hi;have hzb:w.heap.size<W.heap.size:=World.block_lt_of_cell? _ _ hv;obtain ⟨ao,co,rfl,-⟩:=owns_news ho;have hlt1:(prI (l.take k)).length=k*2:=by rw [prI_length,List.length_take];omega
  gi_wp2
  have hab:Below W.heap.size W (W.alloc (.cells #[.int .i64 x,.int .i64 y] 31)):=(Below.refl _ _).alloc (Nat.le_refl _) _;refine ⟨keeps_below hab,fun i hi=>hab.block i xo,?_⟩;intro W2 hc;have hc0:W2.cell? ⟨W.heap.size,0,none⟩=some (.int .i64 x):=hc.cell xcw;have hc1:W2.cell? ⟨W.heap.size,1,none⟩=some (.int .i64 y):=hc.cell xcw;have hv2:W2.cell? ⟨w.heap.size,0,none⟩=some (.slice ao k co):=hc.cell ((hab.cell (p:=⟨w.heap.size,0,none⟩) hzb).trans hv);have hfz2:W2.frozen? ⟨w.heap.size,0,none⟩=false:=hc.frozen ((hab.cell (p:=⟨w.heap.size,0,none⟩) hzb).trans hv) ((hab.frozen (p:=⟨w.heap.size,0,none⟩) hzb).trans hfz);have ho2:=hc.owns (owns_below ho hab);have hbel2:Below w.heap.size w W2:=hc.below (by simp) (below_via hab hbel xo);have hz2:=hbel2.size;have HO2:=hid ho2;have HB2:=hid hbel2;have hzw:w.heap.size<W2.heap.size:=World.block_lt_of_cell? _ _ hv2;clear ho hbel hab hc ho2 hbel2 hv hfz
  gi_wp2_with (gi_at_builtin;refine wpListIn_append_own _ rfl (.tmp 8) (.tmp 10) 57 rfl (w.heap.size+1) 31 _ (.agg #[.int .i64 0,.int .i64 0]) 2 16 Tryz.underlying57 (info_parts info_Pair).choose_spec.1 (info_parts info_Pair).choose_spec.2.1 (info_parts info_Pair).choose_spec.2.2.1 (info_parts info_Pair).choose_spec.2.2.2 rfl (by decide) _ k _ rfl (HO2.out.alloc (.cells #[.int .i64 x,.int .i64 y] 31)) ⟨W2.heap.size,0,none⟩ 1 1 [.int .i64 x,.int .i64 y] rfl rfl (new_cells _ [.int .i64 x,.int .i64 y] _ _ rfl _ rfl) (by simp [Value.oneCell']) (by unfold maxLen;omega) xo (by simp;omega) ?_;intro v' w3 ho3 hg3 _
               obtain ⟨a3,c3,rfl,-⟩:=owns_news ho3;have hne3:some w.heap.size≠(Value.slice ao k co).ownBlock:=fun e=>(by have:=(HO2.out.lt _ e.symm).1;omega)
               have hbl3:=hg3.block w.heap.size (by simp;omega) hne3;have hv3:w3.cell? ⟨w.heap.size,0,none⟩=some (.slice ao k co):=(World.cell?_of_block (a:=⟨w.heap.size,0,none⟩) hbl3).trans ((((Below.refl _ W2).alloc (Nat.le_refl _) _).cell (p:=⟨w.heap.size,0,none⟩) hzw).trans hv2);have hfz3:w3.frozen? ⟨w.heap.size,0,none⟩=false:=(World.frozen?_of_block (a:=⟨w.heap.size,0,none⟩) hbl3).trans ((((Below.refl _ W2).alloc (Nat.le_refl _) _).frozen (p:=⟨w.heap.size,0,none⟩) hzw).trans hfz2);have HO3:=hid ho3;have HG3:=hid hg3;clear ho3 hg3 hbl3 hne3)
  have hB3:Below w.heap.size w w3:=(HB2.out.alloc xo (.cells #[.int .i64 x,.int .i64 y] 31)).grown HG3.out (by simp;omega) (fun z hz=>by have:=(HO2.out.lt _ hz).1;omega);have hK3:KeepsOthers W2 w3:=(keeps_below (((Below.refl _ W2).alloc (Nat.le_refl _) _))).trans (KeepsOthers.of_grownBy HG3.out (own_isCells (HO2.out.alloc _)));refine ⟨hK3.trans (KeepsOthers.setCell _ _ _),fun i hi=> ?_,⟨⟨_,World.cell?_setCell_same _ _ _ hv3,?_⟩,?_,hB3.setCell (Nat.le_refl _) _⟩⟩
  · rw [Below.heap_setCell _ _ _ _ (show i≠w.heap.size by omega),HG3.out.block i (by simp;omega) (fun e=>by have:=(HO2.out.lt _ e.symm).1;omega)];exact ((Below.refl _ W2).alloc (Nat.le_refl _) _).block i xo
  · rw [htk.out,prI_append,List.map_append];exact owns_heap HO3.out fun z hz=>Below.heap_setCell _ _ _ _ (by have:=(HO3.out.lt _ hz).1;show z≠w.heap.size;omega)
  · rw [World.frozen?_setCell];exact hfz3
 case done=>
  intro D W hD hi hK;obtain ⟨⟨v,hv,ho⟩,hfz,hbel⟩:=hi;rw [HPL.out,List.take_length] at ho;obtain ⟨ao,co,rfl,-⟩:=owns_news ho;have HO:=hid ho;have HB:=hid hbel;clear ho hbel;go_wp2
  simp at hD;refine postM_one hK (results_tmp rfl _ _ _) ⟨_,rfl,?_,?_⟩
  · exact owns_base ((Calm.putObj (B:=0) _ (Nat.zero_le _) hK rfl).owns HO.out) xo
  · exact (Calm.putObj (B:=w.heap.size) _ xo hK rfl).below (Nat.le_refl _) HB.out
theorem Collect_ok (l:List (Int×Int)) (hl:l.length≤100000) (gf:Nat) (lb:Array Value) (eg:∀args w,(callFunc gf args).run Tryz.prog w= .ok (.enter gf args) w) (w:World) (hit:Iter Tryz.prog gf lb (pairsL l) (KpS (fun k=>k<w.heap.size)) w):
    Calls Tryz.prog 58 #[.func (.func gf) #[] lb] w (FreshPr w l):=by
 have A:=hid (AppendSeq_ok l hl gf lb eg w hit);clear hit;go_enter Tryz.func58,Tryz.ntmps58
 go_wp2_with fail
 refine A.out.mono ?_;rintro e w1 ⟨v,rfl,ho,hb⟩;have HO:=hid ho;have HB:=hid hb;clear ho hb;go_wp2
 go_ret
 exact ⟨v,rfl,HO.out,HB.out⟩
theorem pairs_ok (c:SlC) (a:SlA) (lo hi:Int) (w:World):
    Calls Tryz.prog 59 #[slV c a,.int .i64 lo,.int .i64 hi] w fun e w'=>e= .returned (.func (.func 95) #[] #[.pointer (some ⟨w.heap.size+1,0,none⟩),.pointer (some ⟨w.heap.size+2,0,none⟩),.pointer (some ⟨w.heap.size,0,none⟩)])∧
      w'=((w.alloc (.cells #[.int .i64 c.seg,.slice a.wa c.ws.length a.wc,.slice a.ka c.ks.length a.kc,.slice a.va c.vs.length a.vc,.slice a.ca c.cs.length a.cc,.int .u64 c.laid] 29)).alloc (.cells #[.int .i64 lo] 3)).alloc (.cells #[.int .i64 hi] 3):=by
 go_enter Tryz.func59,Tryz.ntmps59
 go_wp2
 go_ret
 exact ⟨rfl,rfl⟩
def partE (c:SlC) (lo hi:Int):Int:=if slMay c=true then (if 0≤lo∧lo≤hi∧hi≤c.ks.length then 0 else 2) else 8
def prsR (c:SlC) (lo hi:Int):List (Int×Int):=if partE c lo hi=0 then prs c lo.toNat hi.toNat else []
theorem part_ok (c:SlC) (a:SlA) (hl:c.ws.length≤1000000000000) (hl2:c.ks.length≤1000000000000) (lo hi:Int) (w:World) (hin:SlIn w c a):
    Calls Tryz.prog 57 #[slV c a,.int .i64 lo,.int .i64 hi] w (AnsB w (.int .i64 (partE c lo hi))):=by
 have CK:=hid (slCheck_ok c a hl hl2 _ (hin.below ((Below.refl _ w).alloc (Nat.le_refl _) (.cells #[.int .i64 c.seg,.slice a.wa c.ws.length a.wc,.slice a.ka c.ks.length a.kc,.slice a.va c.vs.length a.vc,.slice a.ca c.cs.length a.cc,.int .u64 c.laid] 29))));by_cases hm:slMay c=true
 · have e0:slE c=0:=if_pos hm;rw [e0] at CK;have hv:partE c lo hi=if 0≤lo∧lo≤hi∧hi≤c.ks.length then 0 else 2:=if_pos hm
   have hsp:(partE c lo hi=0∧0≤lo∧lo≤hi∧hi≤c.ks.length)∨(partE c lo hi=2∧lo<0)∨(partE c lo hi=2∧0≤lo∧hi<lo)∨(partE c lo hi=2∧0≤lo∧lo≤hi∧(c.ks.length:Int)<hi):=by
    by_cases h:0≤lo∧lo≤hi∧hi≤c.ks.length
    · rw [if_pos h] at hv;exact .inl ⟨hv,h⟩
    · rw [if_neg h] at hv;by_cases h1:lo<0
      · exact .inr (.inl ⟨hv,h1⟩)
      · by_cases h2:hi<lo
        · exact .inr (.inr (.inl ⟨hv,by omega,h2⟩))
        · exact .inr (.inr (.inr ⟨hv,by omega,by omega,by omega⟩))
   generalize partE c lo hi=ev at *;obtain ⟨seg,ws,ks,vs,cs,laid⟩:=c;obtain ⟨wa,ka,va,ca,wc,kc,vc,cc⟩:=a;dsimp only [slV] at *;clear hin hm e0 hv;generalize ws.length=lw at *;generalize ks.length=n at *;generalize vs.length=lv at *;generalize cs.length=lc at *;rcases hsp with ⟨rfl,h1,h2,h3⟩ | ⟨rfl,h1⟩ | ⟨rfl,h1,h2⟩ | ⟨rfl,h1,h2,h3⟩
   all_goals
     go_enter Tryz.func57,Tryz.ntmps57
     go_wp2_with fail
     refine (CK.out).mono ?_;rintro e w1 ⟨rfl,hb1⟩;have hz_w1:=hb1.size;try simp only [World.size_alloc,World.size_setCell] at hz_w1
     have c_t0:w1.cell? ⟨w.heap.size,0,none⟩=some (.int .i64 seg):=(hb1.cell (p:=⟨w.heap.size,0,none⟩) xlt).trans xcn;have c_t1:w1.cell? ⟨w.heap.size,1,none⟩=some (.slice wa lw wc):=(hb1.cell (p:=⟨w.heap.size,1,none⟩) xlt).trans xcn;have c_t2:w1.cell? ⟨w.heap.size,2,none⟩=some (.slice ka n kc):=(hb1.cell (p:=⟨w.heap.size,2,none⟩) xlt).trans xcn;have z_t:w.heap.size<w1.heap.size:=xo;have hB1:Below w.heap.size w w1:=xbel;go_wp2
     go_ret
     exact ⟨rfl,hB1⟩
 · have e0:slE c=8:=if_neg hm;have hv:partE c lo hi=8:=if_neg hm;rw [e0] at CK;rw [hv];obtain ⟨seg,ws,ks,vs,cs,laid⟩:=c;obtain ⟨wa,ka,va,ca,wc,kc,vc,cc⟩:=a;dsimp only [slV] at *;clear hin hm e0 hv;go_enter Tryz.func57,Tryz.ntmps57
   go_wp2_with fail
   refine (CK.out).mono ?_;rintro e w1 ⟨rfl,hb1⟩;have hz_w1:=hb1.size;try simp only [World.size_alloc,World.size_setCell] at hz_w1
   have hB1:Below w.heap.size w w1:=xbel;go_wp2
   go_ret
   exact ⟨rfl,hB1⟩
theorem row_block {k:IntKind} {W:World} {a:Option Addr} {xs:List Int} (h:IsRow k W a xs):∀x,a=some x→0<xs.length→x.block<W.heap.size:=by
 intro x hx h0;obtain ⟨b,off,y,he,-,-,hlt⟩:=h.get h0;rw [he] at hx;cases hx;exact hlt
theorem Pairs_ok (c:SlC) (a:SlA) (hl:c.ws.length≤1000000000000) (hl2:c.ks.length≤1000000000000) (lo hi:Int) (w:World) (hin:SlIn w c a):
    Calls Tryz.prog 26 #[slV c a,.int .i64 lo,.int .i64 hi] w (FreshPr2 w (prsR c lo hi) (.int .i64 (partE c lo hi))):=by
 have PT:=hid (fun W (hb:Below w.heap.size w W)=>part_ok c a hl hl2 lo hi W (hin.below hb));by_cases he:partE c lo hi=0
 · have hr:prsR c lo hi=prs c lo.toNat hi.toNat:=if_pos he;rw [he] at PT;rw [hr,he];have hm:slMay c=true:=by
    unfold partE at he;split at he
    · assumption
    · cases he
   have hp:0≤lo∧lo≤hi∧hi≤c.ks.length:=by
    unfold partE at he;rw [if_pos hm] at he;split at he
    · assumption
    · cases he
   obtain ⟨S,M,-,-,-,hnk,hnv,-,-,hSM,-,hnw,-,-,-⟩:=slHead_facts (slMay_head hm);obtain ⟨p,rfl⟩:∃p:Nat,lo=p:=⟨lo.toNat,by omega⟩
   obtain ⟨q,rfl⟩:∃q:Nat,hi=q:=⟨hi.toNat,by omega⟩
   rw [Int.toNat_natCast,Int.toNat_natCast];have hlen:(prs c p q).length≤100000:=by
    rw [prs_length];have:=cntW_le c.ws p q;omega
   have IT:=hid (fun S b1 b2 b3 s1 s2 s3 hS w hw hk hv hbx=>pairs1_iter c a hin.u p q xo xo xo xo xo S b1 b2 b3 s1 s2 s3 hS w hw hk hv hbx);have HIN:=hid hin;have CO:=hid (fun gf lb eg w hit=>Collect_ok (prs c p q) hlen gf lb eg w hit);generalize prs c p q=L at *;have PA:=hid (fun w=>pairs_ok c a p q w);clear hin he hr hm hp hnk hnv hSM hnw;obtain ⟨seg,ws,ks,vs,cs,laid⟩:=c;obtain ⟨wa,ka,va,ca,wc,kc,vc,cc⟩:=a;dsimp only [slV] at *;go_enter Tryz.func26,Tryz.ntmps26
   go_wp2_with fail
   refine (PT.out _ ((Below.refl _ _).alloc (Nat.le_refl _) _)).mono ?_;rintro e w1 ⟨rfl,hb1⟩;have hz_w1:=hb1.size;try simp only [World.size_alloc,World.size_setCell] at hz_w1
   have c_t0:w1.cell? ⟨w.heap.size,0,none⟩=some (.int .i64 seg):=(hb1.cell (p:=⟨w.heap.size,0,none⟩) xlt).trans xcn;have c_t1:w1.cell? ⟨w.heap.size,1,none⟩=some (.slice wa ws.length wc):=(hb1.cell (p:=⟨w.heap.size,1,none⟩) xlt).trans xcn;have c_t2:w1.cell? ⟨w.heap.size,2,none⟩=some (.slice ka ks.length kc):=(hb1.cell (p:=⟨w.heap.size,2,none⟩) xlt).trans xcn;have c_t3:w1.cell? ⟨w.heap.size,3,none⟩=some (.slice va vs.length vc):=(hb1.cell (p:=⟨w.heap.size,3,none⟩) xlt).trans xcn;have c_t4:w1.cell? ⟨w.heap.size,4,none⟩=some (.slice ca cs.length cc):=(hb1.cell (p:=⟨w.heap.size,4,none⟩) xlt).trans xcn;have c_t5:w1.cell? ⟨w.heap.size,5,none⟩=some (.int .u64 laid):=(hb1.cell (p:=⟨w.heap.size,5,none⟩) xlt).trans xcn;have z_t:w.heap.size<w1.heap.size:=xo;have hB1:Below w.heap.size w w1:=xbel;have hz1:=hB1.size;go_wp2_with fail
   refine (PA.out _).mono ?_;rintro e w2 ⟨rfl,rfl⟩;have HI1:=HIN.out.below hB1;go_wp2_with fail
   refine (CO.out _ _ (enters_of Tryz.func95 xk rfl) _ (IT.out _ (w1.heap.size+1) (w1.heap.size+2) w1.heap.size (by simp) (by simp) (by simp;omega) ⟨?s1,?s2,?s3⟩ _ ?r1 ?r2 ?r3 ⟨?b1,?b2,?b3,?b4,?b5,?b6,?b7,?b8⟩)).mono ?_
   case s1=>intro x hx h0;have:=row_block HI1.w x hx h0;simp;omega
   case s2=>intro x hx h0;have:=row_block HI1.k x hx h0;simp;omega
   case s3=>intro x hx h0;have:=row_block HI1.v x hx h0;simp;omega
   case r1=>exact HI1.w.below xbel
   case r2=>exact HI1.k.below xbel
   case r3=>exact HI1.v.below xbel
   case b1=>(exact xcn)
   case b2=>(exact xcn)
   case b3=>(exact xcn)
   case b4=>(exact xcn)
   case b5=>(exact xcn)
   case b6=>(exact xcn)
   case b7=>(exact xcn)
   case b8=>(exact xcn)
   rintro e w3 ⟨v,rfl,ho,hb3⟩;have HO:=hid ho;have HB3:=hid (show Below w.heap.size w w3 from below_via hb3 (((hB1.alloc xo _).alloc (by simp;omega) _).alloc (by simp;omega) _) (by simp;omega));clear ho hb3 HI1;go_wp2
   go_ret2
   exact ⟨v,rfl,owns_base HO.out (by simp;omega),HB3.out⟩
 · have hr:prsR c lo hi=[]:=if_neg he;have hne:(partE c lo hi != 0)=true:=by simpa using he
   rw [hr];generalize partE c lo hi=ev at *;obtain ⟨seg,ws,ks,vs,cs,laid⟩:=c;obtain ⟨wa,ka,va,ca,wc,kc,vc,cc⟩:=a;dsimp only [slV] at *;clear hin he hr;go_enter Tryz.func26,Tryz.ntmps26
   go_wp2_with fail
   refine (PT.out _ ((Below.refl _ _).alloc (Nat.le_refl _) _)).mono ?_;rintro e w1 ⟨rfl,hb1⟩;have hz_w1:=hb1.size;try simp only [World.size_alloc,World.size_setCell] at hz_w1
   have hB1:Below w.heap.size w w1:=xbel;go_wp2
   go_ret2
   exact ⟨_,rfl,World.ownsRow_nil _ _ _ _,hB1⟩
end
section
open Go.RowKit
theorem nat_and_pow {n e:Nat} (hn:n<9223372036854775808) (he:e≤62):n &&& (18446744073709551615-(2^e-1))=n/2^e*2^e:=by
 have h:2^e<2^64:=Nat.pow_lt_pow_right xo xo;have hp:=Nat.two_pow_pos e;rw [show 18446744073709551615-(2^e-1)=2^64-((2^e-1)+1) by omega];apply Nat.eq_of_testBit_eq;intro i;rw [Nat.testBit_and,Nat.testBit_two_pow_sub_succ xo,Nat.testBit_two_pow_sub_one];have h2:=cutLo_bit (x:=(n:Int)) xo e i;have h3:cutLo (n:Int) e=((n/2^e*2^e:Nat):Int):=by rw [cutLo];push_cast;rfl
 rw [h3,bitI_nat,bitI_nat] at h2;rw [h2];by_cases hi:i<64
 · by_cases hie:i<e
   · have:¬e≤i:=xo;simp [hi,hie,this]
   · have:e≤i:=xo;simp [hi,hie,this]
 · have:n.testBit i=false:=by
     have:=bitI_high (x:=(n:Int)) xo (k:=i) xo;rwa [bitI_nat] at this
   simp [this]
theorem i64_andNot_pow {n e:Nat} (hn:n<9223372036854775808) (he:e≤62):bits .andNot .i64 (n:Int) ((2^e-1:Nat):Int)=((n/2^e*2^e:Nat):Int):=by
 have h:2^e<2^64:=Nat.pow_lt_pow_right xo xo;have hd:=Nat.div_mul_le_self n (2^e);show IntKind.i64.wrap ((BitVec.ofInt 64 (n:Int) &&& ~~~BitVec.ofInt 64 ((2^e-1:Nat):Int)).toNat:Int)=_;rw [BitVec.toNat_and,BitVec.toNat_not,ofInt_u64 n xo,ofInt_u64 (2^e-1) xo,show 2^64-1-(2^e-1)=18446744073709551615-(2^e-1) by omega,nat_and_pow hn he,IntWalk.i64_in _ xo]
structure WinC (seg size:Int) (a H:Nat):Prop where
 seg:seg=((2^a:Nat):Int)
 all:size=((2^a*2^H:Nat):Int)
 a2:2≤a
 a6:a≤6
 big:2^a*2^H≤65536
theorem WinC.nums {seg size:Int} {a H:Nat} (k:WinC seg size a H):4≤seg∧seg≤64∧seg≤size∧size≤65536∧pwB seg=true∧pwB size=true∧size/seg=((2^H:Nat):Int)∧H≤14∧2^H≤16384:=by
 obtain ⟨k1,k2,k3,k4,k5⟩:=k;have h4:2^2≤2^a:=Nat.pow_le_pow_right xo k3;have h6:2^a≤2^6:=Nat.pow_le_pow_right xo k4;have h7:2^a*1≤2^a*2^H:=Nat.mul_le_mul_left _ (Nat.two_pow_pos H);have h8:2^2*2^H≤2^a*2^H:=Nat.mul_le_mul_right _ h4;have hH:H≤14:=by
  rcases Nat.lt_or_ge 14 H with q|q
  · have:=Nat.pow_lt_pow_right (a:=2) xo q;omega
  · exact q
 refine ⟨by omega,by omega,by omega,by omega,by rw [k1];exact pwB_two a,by rw [k2,←Nat.pow_add];exact pwB_two _,?_,hH,by omega⟩;rw [k1,k2,Int.natCast_mul,Int.mul_ediv_cancel_left _ (by have:=Nat.two_pow_pos a;omega)]
theorem winHigh_ok (seg size:Int) (a H:Nat) (k:WinC seg size a H) (w:World):
    Calls Tryz.prog 112 #[.int .i64 seg,.int .i64 size] w fun e w'=>e= .returned (.tuple #[.int .i64 H,.int .i64 0])∧w=w':=by
 obtain ⟨n1,n2,n3,n4,n5,n6,n7,n8,n9⟩:=k.nums;have P1:=hid (fun w=>Power_ok seg xo w);have P2:=hid (fun w=>Power_ok size xo w);rw [n5] at P1;rw [n6] at P2;have hp:=Nat.two_pow_pos H;have DN:=hid (fun w=>Down_ok (2^H) (size/seg) n7 xo xo w);rw [Nat.log2_two_pow] at DN;have hq2:size.tdiv seg=size/seg:=Int.tdiv_eq_ediv_of_nonneg xo;have hs0:(seg==0)=false:=by simp;omega
 have hqb:size/seg≤65536:=xo;have hq0:0≤size/seg:=xo;generalize size/seg=q at *;have hwq:IntKind.i64.wrap q=q:=IntWalk.i64_in _ xo;clear k n5 n6 n7 hp;go_enter Tryz.func112,Tryz.ntmps112
 go_wp2_with (first
   | (go_at_call 85;first|(with_reducible refine (P1.out _).mono ?_;rintro e w' ⟨rfl,rfl⟩)|(with_reducible refine (P2.out _).mono ?_;rintro e w' ⟨rfl,rfl⟩))
   | (go_at_call 86;refine (DN.out _).mono ?_;rintro e w' ⟨rfl,rfl⟩))
 go_ret2
 exact ⟨rfl,rfl⟩
theorem wasked_ok (seg size:Int) (a H:Nat) (k:WinC seg size a H) (p:Option Addr) (ca m:Nat) (xs:List Int) (hm:xs.length=m) (hm2:m≤1000) (hx:∀i,i<m→0≤xs.getD i 0∧xs.getD i 0<size) (w:World) (hw:IsRow .i64 w p xs):
    Calls Tryz.prog 80 #[.int .i64 seg,.int .i64 size,.slice p m ca] w fun e w'=>e= .returned (.tuple #[.int .i64 H,.int .i64 0])∧w=w':=by
 have WH:=hid (fun w=>winHigh_ok seg size a H k w);have HW:=hid hw;have HX:=hid hx;have HM:=hid hm;clear k hw hx hm;go_enter Tryz.func80,Tryz.ntmps80
 go_wp2_with (go_at_call 112;refine (WH.out _).mono ?_;rintro e w' ⟨rfl,rfl⟩)
 go_loopg [23] m (fun gk iv wr=>∃i:Nat,i+gk=m∧iv= .int .i64 i∧wr=w)
 case atStart=>exact ⟨0,by omega,rfl,rfl⟩
 case round=>
  obtain ⟨i,hi,rfl,rfl⟩:=hrel;by_cases hlt:i<m
  · obtain ⟨b,off,x,rfl,hxx,hc,-⟩:=HW.out.get (i:=i) (by rw [HM.out];exact hlt);have hb:=HX.out i hlt;rw [hxx.out] at hb;obtain ⟨hb1,hb2⟩:=hb;clear hxx;go_wp2
    go_roundg (gk-1)
    case measure=>omega
    case rel=>exact ⟨i+1,by omega,by go_num,rfl⟩
  · go_wp2
    go_ret2
    exact ⟨rfl,rfl⟩
theorem two_at_b {w:World} {b:Nat} {x y:Value} (h0:w.cell? ⟨b,0,none⟩=some x) (h1:w.cell? ⟨b,1,none⟩=some y):∀j v,[x,y][j]? =some v→w.cell? ⟨b,j,none⟩=some v:=by
 intro j v hj;match j,hj with
 | 0,hj=>cases hj;exact h0
 | 1,hj=>cases hj;exact h1
theorem around_ok (W at_ f:Int) (hb:bits .andNot .i64 at_ (W-1)=f) (h0:1≤W) (h1:W≤65536) (h2:0≤f) (h3:f≤65536) (w:World):
    Calls Tryz.prog 81 #[.int .i64 W,.int .i64 at_] w (AnsB w (.agg #[.int .i64 f,.int .i64 (f+W)])):=by
 have w1:IntKind.i64.wrap (W-1)=W-1:=IntWalk.i64_in _ xo;have w2:IntKind.i64.wrap (f+W)=f+W:=IntWalk.i64_in _ xo;go_enter Tryz.func81,Tryz.ntmps81
 go_wp2
 refine bodyPost_ret (results_c rfl rfl (run_loadVar_many [.int .i64 f,.int .i64 (f+W)] Tryz.underlying56 rfl xk (two_at_b ?_ ?_))) rfl ⟨rfl,?_⟩
 · (exact xcn)
 · (exact xcn)
 · (exact xbel)
theorem info_w2:(Tryz.prog.info? 56).map (fun i=>(i.zero,i.size,i.bytes))=some (some (.agg #[.int .i64 0,.int .i64 0]),2,16):=by kernel_rfl
def rowL (W m:Nat):List (Int×Int):=(List.range m).map fun i=>(((i*W:Nat):Int),((i*W:Nat):Int)+W)
theorem rowL_length (W m:Nat):(rowL W m).length=m:=by simp [rowL]
theorem rowL_succ (W m:Nat):rowL W (m+1)=rowL W m++[(((m*W:Nat):Int),((m*W:Nat):Int)+W)]:=by
 simp [rowL,List.range_succ]
theorem rowL_get {W m i:Nat} (h:i<m):(rowL W m).getD i (0,0)=(((i*W:Nat):Int),((i*W:Nat):Int)+W):=by
 rw [List.getD_eq_getElem?_getD,rowL,List.getElem?_map,List.getElem?_range h];rfl
def FreshW2 (w:World) (l:List (Int×Int)) (x:Value) (e:Ending) (w':World):Prop:=
  ∃v,e= .returned (.tuple #[v,x])∧w'.ownsRow w.heap.size 56 2 v l.length ((prI l).map (Value.int .i64))∧Below w.heap.size w w'
theorem Row_ok (seg size:Int) (a H h:Nat) (k:WinC seg size a H) (hh:h≤H) (w:World):
    Calls Tryz.prog 40 #[.int .i64 seg,.int .i64 size,.int .i64 h] w (FreshW2 w (rowL (2^a*2^h) (2^(H-h))) (.int .i64 0)):=by
 obtain ⟨n1,n2,n3,n4,n5,n6,n7,n8,n9⟩:=k.nums;have AK:=hid (fun w=>wasked_ok seg size a H k none 0 0 [] rfl xo (fun i hi=>by omega) w (fun i hi=>by simp at hi));have hWW:2^a*2^h=2^(a+h):=(Nat.pow_add ..).symm;have hall:size=((2^(a+h)*2^(H-h):Nat):Int):=by rw [k.all,Nat.pow_add,Nat.mul_assoc,←Nat.pow_add 2 h (H-h),Nat.add_sub_cancel' hh]
 have hshl:seg*2^h=((2^(a+h):Nat):Int):=by rw [k.seg,Nat.pow_add];push_cast;rfl
 have hah:a+h≤62:=by have:=k.a6;omega
 have AR:=hid (fun (i:Nat) (hi:i*2^(a+h)<65536) w=>(around_ok ((2^(a+h):Nat):Int) ((i*2^(a+h):Nat):Int) ((i*2^(a+h):Nat):Int) (by
     have:=i64_andNot_pow (n:=i*2^(a+h)) (e:=a+h) xo hah;rw [Nat.mul_div_cancel _ (Nat.two_pow_pos _)] at this;rw [←this];congr 1
     have:=Nat.two_pow_pos (a+h);omega) (by have:=Nat.two_pow_pos (a+h);omega) (by
     have:2^(a+h)*1≤2^(a+h)*2^(H-h):=Nat.mul_le_mul_left _ (Nat.two_pow_pos _);omega) xo xo w))
 rw [hWW];have hW0:=Nat.two_pow_pos (a+h);have hm0:=Nat.two_pow_pos (H-h);generalize 2^(a+h)=W at *;generalize 2^(H-h)=m at *;have hWb:W≤65536:=by
  have:W*1≤W*m:=Nat.mul_le_mul_left _ hm0;omega
 have hmb:m≤65536:=by
  have:1*m≤W*m:=Nat.mul_le_mul_right _ hW0;omega
 have hwr:IntKind.i64.wrap (seg*2^h)=(W:Int):=by rw [hshl];exact IntWalk.i64_in _ xo
 have hzb:((W*m:Nat):Int)≤65536:=xo;have HALL:=hid hall;have hHh:decide (H<h)=false:=by simp;omega
 clear k hWW hshl n5 n6 n7 hall;go_enter Tryz.func40,Tryz.ntmps40
 go_wp2_with (go_at_call 80;refine (AK.out _).mono ?_;rintro e w' ⟨rfl,rfl⟩)
 go_loopg [6,9] m (fun gk v iv wr=>∃i:Nat,i+gk=m∧iv= .int .i64 ((i*W:Nat):Int)∧Hid (wr.ownsRow w.heap.size 56 2 v i ((prI (rowL W i)).map (Value.int .i64)))∧Hid (Below w.heap.size w wr)∧w.heap.size≤wr.heap.size)
 case atStart=>exact ⟨0,by omega,by simp,hid (World.ownsRow_nil _ _ _ _),hid (Below.refl _ _),Nat.le_refl _⟩
 case round=>
  obtain ⟨i,hi,rfl,HO,HB,hz⟩:=hrel;obtain ⟨ao,co,rfl,-⟩:=owns_news HO.out;by_cases hlt:i<m
  · have hiw:(i+1)*W≤W*m:=by rw [Nat.mul_comm W];exact Nat.mul_le_mul_right _ hlt
    have hs:=rowL_succ W i;have hl1:(prI (rowL W i)).length=i*2:=by rw [prI_length,rowL_length]
    rw [Nat.succ_mul] at hiw;have A1:=hid (fun w=>AR.out i xo w);have HSU:=hid hs;have HAL:=HALL.out;have hgo:decide (((i*W:Nat):Int)<size)=true:=by simp;rw [HAL];omega
    have hnx:IntKind.i64.wrap (((i*W:Nat):Int)+W)=(((i+1)*W:Nat):Int):=by rw [Nat.succ_mul];push_cast;exact IntWalk.i64_in _ (by push_cast at hiw;omega)
    clear hs AR HAL;obtain ⟨f,hf⟩:∃f:Int,((i*W:Nat):Int)=f:=⟨_,rfl⟩
    rw [hf] at A1 HSU hgo hnx ⊢;clear hf hiw;go_wp2_with fail
    refine (A1.out _).mono ?_;rintro e w1 ⟨rfl,hb1⟩;have hz1:=hb1.size;have HB1:=xv hb1 HB;have HO1:=hid (owns_below HO.out hb1);clear hb1
    go_wp2_with (at_builtin;refine wpl_append (.tmp 34) (.tmp 40) 58 56 (.agg #[.int .i64 0,.int .i64 0]) 2 16 Tryz.underlying58 info_w2 rfl (by decide) (by decide) w.heap.size _ i _ (some ⟨w1.heap.size,0,none⟩) 1 1 [.int .i64 f,.int .i64 (f+W)] (HO1.out.alloc _) rfl xzc (new_cells _ [.int .i64 f,.int .i64 (f+W)] _ _ rfl) (by simp [Value.oneCell']) xo (by simp;omega) rfl rfl rfl rfl ?_;intro v2 w2 ho2 hg2 _
                 obtain ⟨a2,c2,rfl,-⟩:=owns_news ho2;have HO2:=hid ho2;have HG2:=hid hg2;clear ho2 hg2)
    have HB2:=hid ((HB1.out.alloc (by have:=HB1.out.size;omega) (.cells #[.int .i64 f,.int .i64 (f+W)] 56)).grown HG2.out (by simp;omega) (fun z hz=>by have:=(HO1.out.lt z hz).1;omega));have hz2:=HB2.out.size;go_roundg (gk-1)
    case measure=>omega
    case rel=>
     refine ⟨i+1,by omega,by first|rw [hnx]|rfl,hid ?_,HB2,hz2⟩;rw [HSU.out,prI_append,List.map_append];exact HO2.out
  · have him:m=i:=xo;subst him;have hgo:decide (((m*W:Nat):Int)<size)=false:=by simp;rw [HALL.out,Nat.mul_comm];omega
    clear AR;obtain ⟨f,hf⟩:∃f:Int,((m*W:Nat):Int)=f:=⟨_,rfl⟩
    rw [hf] at hgo ⊢;clear hf;go_wp2
    go_ret2
    refine ⟨_,rfl,?_,HB.out⟩;rw [rowL_length];exact HO.out
end
section
open Go.RowKit Go.Sort
theorem wpList_of_quiet {P:Program} {ops:Array Oper} {C:World→Prop} {Q:Exit→Act→World→Prop}:∀(l:List Oper) (a:Act) (w:World),C w→
    wpQuiet P ops C (fun a'=>∀w',C w'→Q .normal a' w') l a→wpList P ops Q l a w
  | [],_,w,hC,h=>h w hC
  | o::rest,a,w,hC,h=>by
   unfold wpQuiet at h;unfold wpList;split
   · rename_i hw
     rw [if_pos hw] at h;exact .inl (Oper.wp_of_quiet hC (fun a' w' hw' hk=>wpList_of_quiet rest a' w' hw' hk) h)
   · rename_i hw
     rw [if_neg hw] at h;exact wpList_of_quiet rest _ w hC h
theorem wp_text_quiet_below {P:Program} {id:Nat} {Q:Exit→Act→World→Prop} {a:Act} {w:World} {l:List Oper}
    (h:wpQuiet P l.toArray (fun w'=>∃p:Regrown,w'=grow (redrawn w p.d) p.os) (fun a'=>∀w',(∃p:Regrown,w'=grow (redrawn w p.d) p.os)→Q .normal a' w') l a):(Code.region id l.toArray false).wp P Q a w:=
  wp_region_lit (wpList_of_quiet (C:=fun w'=>∃p:Regrown,w'=grow (redrawn w p.d) p.os) l a w ⟨⟨w.drawn,#[]⟩,by rw [grow_empty];rfl⟩ h)
end
section
open Go.RowKit
theorem bit02_ok (x:Int) (h0:0≤x) (h1:x<18446744073709551616) (k:Nat) (hk:k<64) (w:World):
    Calls Tryz.prog 122 #[.int .u64 x,.int .i64 k] w fun e w'=>e= .returned (.bool (bitI x k))∧w=w':=by
 have hd:=bitI_div h0 k;have hq0:0≤x/2^k:=Int.ediv_nonneg h0 (Int.le_of_lt (Int.pow_pos xo));generalize bitI x k=b at *;obtain ⟨q,hq⟩:∃q,x/2^k=q:=⟨_,rfl⟩
 rw [hq] at hd hq0;have hb:(q%2==1)=b:=by cases b<;>simp [hd]
 clear hd;go_enter Tryz.func122,Tryz.ntmps122
 go_wp2
 go_ret
 exact ⟨by rw [←hb];rfl,rfl⟩
theorem Is02_ok (wa:Option Addr) (wc:Nat) (ws:List Int) (hu:U64s ws) (i:Nat) (hi:i/64<ws.length) (hi2:i≤1000000000000) (w:World) (hw:IsRow .u64 w wa ws):
    Calls Tryz.prog 115 #[.slice wa ws.length wc,.int .i64 i] w fun e w'=>e= .returned (.bool (bitW ws i))∧w=w':=by
 obtain ⟨b,off,x,rfl,hx,hc,-⟩:=hw.get hi;have hg:=hu.get (i/64);rw [hx.out] at hg;have hb:bitW ws i=bitI x (i%64):=by rw [bitW,hx.out]
 rw [hb];have B:=hid (fun w=>bit02_ok x hg.1 hg.2 (i%64) (Nat.mod_lt _ xo) w);obtain ⟨q,hq⟩:∃q,i/64=q:=⟨_,rfl⟩
 obtain ⟨r,hr⟩:∃r,i%64=r:=⟨_,rfl⟩
 have hqI:(i:Int)/64=(q:Int):=xo;have hrI:(i:Int)%64=(r:Int):=xo;rw [hq] at hc hi;rw [hr] at B ⊢;generalize ws.length=m at *;clear hx hb hw hu hq hr;go_enter Tryz.func115,Tryz.ntmps115
 go_wp2_with (go_at_call 122;refine (B.out _).mono ?_;rintro e w' ⟨rfl,rfl⟩)
 go_ret
 exact ⟨rfl,rfl⟩
theorem May02_ok (wa:Option Addr) (wc:Nat) (ws:List Int) (hu:U64s ws) (n:Nat) (hn:n≤65536) (hl:ws.length≤1000000000000) (w:World) (hw:IsRow .u64 w wa ws):
    Calls Tryz.prog 114 #[.slice wa ws.length wc,.int .i64 n] w fun e w'=>e= .returned (.bool (wMayB ws n))∧w=w':=by
 by_cases c1:ws.length=(n+63)/64
 · have e1:wMayB ws n=(List.range' n (64*ws.length-n)).all fun i=> !bitW ws i:=by rw [wMayB,decide_eq_true c1,Bool.true_and]
   have hd:((ws.length:Int) != ((n:Int)+63)/64)=false:=by simp;omega
   have IS:=hid (fun i hi w hw=>Is02_ok wa wc ws hu i hi xo w hw);have hnb:64*ws.length≤65600:=xo;have hnl:n≤64*ws.length:=xo;obtain ⟨z,hz⟩:∃z,wMayB ws n=z:=⟨_,rfl⟩
   have HZ:=hid (e1.symm.trans hz);rw [hz];have HW:=hid hw;obtain ⟨m,hm⟩:∃m,ws.length=m:=⟨_,rfl⟩
   rw [hm] at hd IS hnb hnl ⊢;have HM:=hid hm;clear hw c1 e1 hz hm hl;go_enter Tryz.func114,Tryz.ntmps114
   go_wp2
   go_loopg [5] (64*m-n) (fun gk iv wr=>∃i:Nat,i+gk=64*m∧n≤i∧iv= .int .i64 i∧wr=w∧Hid (∀j,n≤j→j<i→bitW ws j=false))
   case atStart=>exact ⟨n,by omega,Nat.le_refl _,rfl,rfl,hid (fun j h1 h2=>by omega)⟩
   case round=>
    obtain ⟨i,hi,hni,rfl,rfl,HF⟩:=hrel;by_cases hlt:i<64*m
    · have B:=hid (IS.out i xo wr HW.out);cases hb:bitW ws i with
      | true=>
       rw [hb] at B;have hzf:z=false:=by
        rw [←HZ.out,HM.out,List.all_eq_false];exact ⟨i,List.mem_range'_1.2 xo,by simp [hb]⟩
       subst hzf;clear hb;go_wp2_with (go_at_call 115;refine B.out.mono ?_;rintro e w' ⟨rfl,rfl⟩)
       go_ret
       exact ⟨rfl,rfl⟩
      | false=>
       rw [hb] at B;have HB:=hid hb;clear hb;go_wp2_with (go_at_call 115;refine B.out.mono ?_;rintro e w' ⟨rfl,rfl⟩)
       go_roundg (gk-1)
       case measure=>omega
       case rel=>
        refine ⟨i+1,by omega,by omega,by go_num,rfl,hid (fun j h1 h2=> ?_)⟩;by_cases e:j=i
        · rw [e];exact HB.out
        · exact HF.out j h1 xo
    · have hzt:z=true:=by
        rw [←HZ.out,HM.out,List.all_eq_true];intro j hj;have:=List.mem_range'_1.1 hj;rw [HF.out j xo xo];rfl
      subst hzt;go_wp2
      go_ret
      exact ⟨rfl,rfl⟩
 · have e:wMayB ws n=false:=by simp [wMayB,c1]
   have hd:((ws.length:Int) != ((n:Int)+63)/64)=true:=by simp;omega
   rw [e];generalize ws.length=m at *;clear e;go_enter Tryz.func114,Tryz.ntmps114
   go_wp2
   go_ret
   exact ⟨rfl,rfl⟩
theorem Places02_ok (wa:Option Addr) (wc:Nat) (ws:List Int) (hu:U64s ws) (a b:Nat) (hb:b≤64*ws.length) (hbb:b≤65600) (haa:a≤100000) (w:World) (hw:IsRow .u64 w wa ws):
    Calls Tryz.prog 98 #[.slice wa ws.length wc,.int .i64 a,.int .i64 b] w (FreshInts w (ints (plsW ws a b))):=by
 have IS:=hid (fun i hi hi2 w hw=>Is02_ok wa wc ws hu i hi hi2 w hw);have HW:=hid hw;obtain ⟨m,hm⟩:∃m,ws.length=m:=⟨_,rfl⟩
 rw [hm] at IS hb ⊢;clear hw hm;go_enter Tryz.func98,Tryz.ntmps98
 go_wp2
 go_loopg [7,8] (b-a) (fun gk v iv wr=>∃i:Nat,i+gk=a+(b-a)∧a≤i∧iv= .int .i64 i∧Hid (wr.ownsRow w.heap.size 3 1 v (ints (plsW ws a i)).length ((ints (plsW ws a i)).map (Value.int .i64)))∧Hid (Below w.heap.size w wr))
 case atStart=>
  refine ⟨a,by omega,Nat.le_refl _,rfl,hid ?_,hid (Below.refl _ _)⟩;rw [plsW_nil];exact World.ownsRow_nil _ _ _ _
 case round=>
  obtain ⟨i,hi,hai,rfl,HO,HB⟩:=hrel;by_cases hlt:i<b
  · have B:=hid (IS.out i xo xo wr (HW.out.below HB.out));have hz:=HB.out.size;cases hbi:bitW ws i with
    | true=>
     rw [hbi] at B;have hsu:ints (plsW ws a (i+1))=ints (plsW ws a i)++[(i:Int)]:=by rw [plsW_succ hai,if_pos hbi,ints_append];rfl
     have hlen:(ints (plsW ws a i)).length≤65600:=by
      rw [ints_length,plsW_length];have:=cntW_le ws a i;omega
     have HSU:=hid hsu;obtain ⟨a',c',rfl,hn',-⟩:=owns_news HO.out;clear hsu hbi;go_wp2_with (first
       | (go_at_call 115;refine B.out.mono ?_;rintro e w' ⟨rfl,rfl⟩)
       | (at_builtin;refine wpl_append (.tmp 18) (.tmp 20) 26 3 (.int .i64 0) 1 8 Tryz.underlying26 info_int rfl (by decide) (by decide) w.heap.size _ _ _ (some ⟨wr.heap.size,0,none⟩) 1 1 [.int .i64 i] (HO.out.alloc _) rfl xzc (new_cells _ [.int .i64 i] _ _ rfl) (by simp [Value.oneCell']) xo (by simp;omega) rfl rfl rfl rfl ?_;intro v2 w2 ho2 hg2 _
          have HO2:=hid ho2;have HB2:=hid ((HB.out.alloc hz (.cells #[.int .i64 i] 3)).grown hg2 (by simp;omega) (fun z hz=>(HO.out.lt z hz).1));clear ho2 hg2))
     go_roundg (gk-1)
     case measure=>omega
     case rel=>
      refine ⟨i+1,by omega,by omega,by go_num,hid ?_,HB2⟩;rw [HSU.out,List.length_append,List.map_append];exact HO2.out
    | false=>
     rw [hbi] at B;have hsu:ints (plsW ws a (i+1))=ints (plsW ws a i):=by rw [plsW_succ hai,if_neg (by rw [hbi];decide),List.append_nil]
     have HSU:=hid hsu;clear hsu hbi;go_wp2_with (go_at_call 115;refine B.out.mono ?_;rintro e w' ⟨rfl,rfl⟩)
     go_roundg (gk-1)
     case measure=>omega
     case rel=>exact ⟨i+1,by omega,by omega,by go_num,hid (by rw [HSU.out];exact HO.out),HB⟩
  · have he:plsW ws a b=plsW ws a i:=by
      by_cases h:a≤b
      · rw [show i=b by omega]
      · rw [plsW_none (by omega:b≤a),show i=a by omega,plsW_nil]
    have HE:=hid he;clear he;go_wp2
    go_ret
    refine ⟨_,rfl,?_,HB.out⟩;rw [HE.out];exact HO.out
end
end Go.Proofs.YtookgoidlnlckaaGreatDoor

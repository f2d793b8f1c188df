/- Merged: OrdPl, TabOwn, TabSet, TabNew, OmTuPl, PackB, PackR, PackS, OmSet, OmRk, OmWh, Dense. -/
import Derived.Test.YtjhpblejlchhjaaGreatDoorOmMovesP11
import Derived.Test.YtjhpblejlchhjaaGreatDoorOmMovesP1
import Derived.StillTailTactics
import Derived.Deep.WholeRow
import Derived.Laws.Tables
import Derived.Test.YtjhpblejlchhjaaGreatDoorOmMovesP7
import Derived.Test.YtjhpblejlchhjaaGreatDoorOmMovesP6
import Derived.Test.YtjhpblejlchhjaaGreatDoorOmMovesP10
import Derived.Lib.QuietBelow
namespace Go.Proofs.YtjhpblejlchhjaaGreatDoor
set_option maxRecDepth 100000
set_option maxHeartbeats 40000000
set_option linter.unusedVariables false
set_option linter.unusedSimpArgs false
section
open Go.RowKit
theorem rise_eq:∀ {l m:List Nat},l.Pairwise (· < ·)→m.Pairwise (· < ·)→(∀x,x ∈ l↔x ∈ m)→l=m
  | [],[],_,_,_=>rfl
  | [],y::m,_,_,h=>by have:=(h y).2 (List.mem_cons_self ..);cases this
  | x::l,[],_,_,h=>by have:=(h x).1 (List.mem_cons_self ..);cases this
  | x ::l,y::m,hl,hm,h=>by
   rw [List.pairwise_cons] at hl hm
   have hxy:x=y:=by
    have h1:=(h x).1 (List.mem_cons_self ..);have h2:=(h y).2 (List.mem_cons_self ..);rw [List.mem_cons] at h1 h2;rcases h1 with h1|h1
    · exact h1
    · rcases h2 with h2|h2
      · exact h2.symm
      · have a1:=hm.1 x h1;have a2:=hl.1 y h2;omega
   subst hxy;congr 1
   refine rise_eq hl.2 hm.2 fun z=> ?_
   have:=h z;rw [List.mem_cons,List.mem_cons] at this;constructor
   · intro hz;have a1:=hl.1 z hz;rcases this.1 (.inr hz) with q|q
     · omega
     · exact q
   · intro hz;have a1:=hm.1 z hz;rcases this.2 (.inr hz) with q|q
     · omega
     · exact q
theorem prs_app (c:SlC) {a b d:Nat} (h1:a≤b) (h2:b≤d):prs c a d=prs c a b++prs c b d:=by
 unfold prs;rw [plsW_app c.ws h1 h2,List.map_append]
theorem prs_same {c d:SlC} {a b:Nat} (h:∀i,a≤i→i<b→bitW c.ws i=bitW d.ws i∧c.ks.getD i 0=d.ks.getD i 0∧c.vs.getD i 0=d.vs.getD i 0):prs c a b=prs d a b:=by
 have e:plsW c.ws a b=plsW d.ws a b:=by
  unfold plsW;apply List.filter_congr;intro i hi;have:=List.mem_range'_1.1 hi;exact (h i this.1 xo).1
 unfold prs;rw [e];apply List.map_congr_left;intro i hi;have:=List.mem_range'_1.1 (List.mem_filter.1 hi).1;have q:=h i this.1 xo;rw [q.2.1,q.2.2]
theorem tks_out {c:SlC} {lo i:Nat}:∀j,(i<lo∨lo+j≤i)→(tks c lo j).ks.getD i 0=c.ks.getD i 0∧(tks c lo j).vs.getD i 0=c.vs.getD i 0
  | 0,_=>⟨rfl,rfl⟩
  | j+1,h=>by
   obtain ⟨h1,h2⟩:=tks_out (c:=c) (lo:=lo) (i:=i) j xo;rw [tks];simp only [tkC];rw [getD_set_at,if_neg xo,getD_set_at,if_neg xo];exact ⟨h1,h2⟩
theorem ly_at {c:SlC} {i:Nat} (hk:i<c.ks.length) (hv:i<c.vs.length) (x y:Int):(lyC c i x y).ks.getD i 0=x∧(lyC c i x y).vs.getD i 0=y:=by
 simp only [lyC,tkC];rw [getD_set_at,if_pos ⟨rfl,by simpa using hk⟩,getD_set_at,if_pos ⟨rfl,by simpa using hv⟩];exact ⟨rfl,rfl⟩
theorem ly_out {c:SlC} {i j:Nat} (h:i≠j) (x y:Int):(lyC c i x y).ks.getD j 0=c.ks.getD j 0∧(lyC c i x y).vs.getD j 0=c.vs.getD j 0:=by
 simp only [lyC,tkC];rw [getD_set_at,if_neg (fun q=>h q.1),getD_set_at,if_neg (fun q=>h q.1),getD_set_at,if_neg (fun q=>h q.1),getD_set_at,if_neg (fun q=>h q.1)];exact ⟨rfl,rfl⟩
theorem lys_out {c:SlC} {ps:List Nat} {L:List (Int×Int)} {i:Nat}:∀k,(∀j,j<k→ps.getD j 0≠i)→(lys c ps L k).ks.getD i 0=c.ks.getD i 0∧(lys c ps L k).vs.getD i 0=c.vs.getD i 0
  | 0,_=>⟨rfl,rfl⟩
  | k+1,h=>by
   obtain ⟨h1,h2⟩:=lys_out (c:=c) (ps:=ps) (L:=L) (i:=i) k (fun j hj=>h j xo);obtain ⟨h3,h4⟩:=ly_out (c:=lys c ps L k) (h k xo) (L.getD k (0,0)).1 (L.getD k (0,0)).2;rw [lys];exact ⟨h3.trans h1,h4.trans h2⟩
theorem lys_at {c:SlC} {S lw n lc:Nat} (h:SlGd c S lw n lc) {ps:List Nat} (hp:∀k,ps.getD k 0<n) (L:List (Int×Int)) {i:Nat}:∀k,i<k→(∀j,i<j→j<k→ps.getD j 0≠ps.getD i 0)→(lys c ps L k).ks.getD (ps.getD i 0) 0=(L.getD i (0,0)).1∧(lys c ps L k).vs.getD (ps.getD i 0) 0=(L.getD i (0,0)).2
  | 0,hi,_=>by omega
  | k+1,hi,hd=>by
   have g:=SlGd.lys h hp L k;rw [lys];rcases Nat.lt_or_ge i k with q|q
   · obtain ⟨h1,h2⟩:=lys_at h hp L k q (fun j h1 h2=>hd j h1 xo);obtain ⟨h3,h4⟩:=ly_out (c:=lys c ps L k) (hd k q xo) (L.getD k (0,0)).1 (L.getD k (0,0)).2;exact ⟨h3.trans h1,h4.trans h2⟩
   · obtain rfl:i=k:=xo;exact ly_at (by rw [g.elk];exact hp i) (by rw [g.elv];exact hp i) _ _
theorem sp_pls {c:SlC} {S lw n lc lo hi:Nat} (h:SlGd c S lw n lc) (hlo:lo≤hi) (hh:hi≤n) {L:List (Int×Int)} (hL:L.length≤hi-lo):plsW (spC c lo hi L).ws lo hi=plR L.length lo hi:=by
 have hn:=h.n1;apply rise_eq
 · unfold plsW;exact List.Pairwise.filter _ List.pairwise_lt_range'
 · unfold plR;rw [List.pairwise_map];refine List.Pairwise.imp_of_mem ?_ List.pairwise_lt_range;intro x y hx hy hxy;have:=List.mem_range.1 hy;have:=plF_mono (lo:=lo) xo hL x (y-x-1);rwa [show x+(y-x-1+1)=y by omega] at this
 · intro x;unfold plsW;rw [List.mem_filter,List.mem_range'_1,spC,lys_bit (h.tks (hi-lo) xo) (fun k=>plR_ltn hL hh xo k) L x,tks_bit h x (hi-lo) xo];constructor
   · rintro ⟨h1,h2⟩;have:(decide (lo≤x)&&decide (x<lo+(hi-lo)))=true:=by rw [Bool.and_eq_true,decide_eq_true_eq,decide_eq_true_eq];omega
     rw [this] at h2;rcases h2 with h2 | ⟨j,hj,h2⟩
     · simp at h2
     · rw [plR_get hj] at h2;rw [←h2];exact List.mem_map.2 ⟨j,List.mem_range.2 hj,rfl⟩
   · intro hx;obtain ⟨j,hj,rfl⟩:=List.mem_map.1 hx;have hj:=List.mem_range.1 hj;have h1:=plF_lt (lo:=lo) hj hL;have h2:lo≤plF L.length lo hi j:=Nat.le_add_right _ _;exact ⟨by omega,.inr ⟨j,hj,plR_get hj⟩⟩
theorem sp_in {c:SlC} {S lw n lc lo hi:Nat} (h:SlGd c S lw n lc) (hlo:lo≤hi) (hh:hi≤n) {L:List (Int×Int)} (hL:L.length≤hi-lo):prs (spC c lo hi L) lo hi=L:=by
 have hn:=h.n1;unfold prs;rw [sp_pls h hlo hh hL,plR,List.map_map];apply List.ext_getElem
 · simp
 · intro i h1 h2;rw [List.getElem_map,List.getElem_range];have hi':i<L.length:=h2;have:=lys_at (h.tks (lo:=lo) (hi-lo) xo) (fun k=>plR_ltn hL hh xo k) L (i:=i) L.length hi' (fun j q1 q2=>by
    rw [plR_get q2,plR_get hi'];have:=plF_mono (lo:=lo) xo hL i (j-i-1);rw [show i+(j-i-1+1)=j by omega] at this;omega)
   rw [plR_get hi'] at this;simp only [Function.comp];unfold spC;rw [this.1,this.2,List.getD_eq_getElem?_getD,List.getElem?_eq_getElem hi'];rfl
theorem sp_out {c:SlC} {S lw n lc lo hi:Nat} (h:SlGd c S lw n lc) (hlo:lo≤hi) (hh:hi≤n) {L:List (Int×Int)} (hL:L.length≤hi-lo) {x y:Nat} (hd:y≤lo∨hi≤x):prs (spC c lo hi L) x y=prs c x y:=by
 have hn:=h.n1;refine prs_same fun i h1 h2=> ?_
 have hne:∀j,j<L.length→(plR L.length lo hi).getD j 0≠i:=by
  intro j hj;rw [plR_get hj];have h3:=plF_lt (lo:=lo) hj hL;have h4:lo≤plF L.length lo hi j:=Nat.le_add_right _ _;omega
 have ho:=lys_out (c:=tks c lo (hi-lo)) (ps:=plR L.length lo hi) (L:=L) (i:=i) L.length hne;have ht:=tks_out (c:=c) (lo:=lo) (i:=i) (hi-lo) xo;refine ⟨?_,ho.1.trans ht.1,ho.2.trans ht.2⟩;rw [Bool.eq_iff_iff,spC,lys_bit (h.tks (hi-lo) xo) (fun k=>plR_ltn hL hh xo k) L i,tks_bit h i (hi-lo) xo];have:(decide (lo≤i)&&decide (i<lo+(hi-lo)))=false:=by
  rw [Bool.and_eq_false_iff,decide_eq_false_iff_not,decide_eq_false_iff_not];omega
 rw [this];constructor
 · rintro (q | ⟨j,hj,q⟩)
   · simpa using q
   · exact absurd q (hne j hj)
 · intro q;exact .inl (by simpa using q)
theorem prs_sp {c:SlC} {S lw n lc lo hi:Nat} (h:SlGd c S lw n lc) (hlo:lo≤hi) (hh:hi≤n) {L:List (Int×Int)} (hL:L.length≤hi-lo):prs (spC c lo hi L) 0 n=prs c 0 lo++L++prs c hi n:=by
 rw [prs_app _ (Nat.zero_le lo) (by omega:lo≤n),prs_app _ hlo hh,sp_in h hlo hh hL,sp_out h hlo hh hL (.inl (Nat.le_refl _)),sp_out h hlo hh hL (.inr (Nat.le_refl _)),List.append_assoc]
theorem insL_mid {A B C:List (Int×Int)} {k:Nat} (h1:A.length≤k) (h2:k-A.length≤B.length) (p:Int×Int):insL (A++B++C) k p=A++insL B (k-A.length) p++C:=by
 unfold insL;rw [List.append_assoc,List.take_append,List.drop_append,List.take_of_length_le h1,List.drop_eq_nil_of_le h1,List.nil_append,List.take_append,List.drop_append,show k-A.length-B.length=0 by omega];simp
theorem prs_tk {c:SlC} {S lw n lc:Nat} (h:SlGd c S lw n lc) {i:Nat} (hi:i<n) (x y:Nat) (hd:y≤i∨i+1≤x):prs (tkC c i) x y=prs c x y:=by
 refine prs_same fun j h1 h2=> ?_
 have hji:i≠j:=xo;refine ⟨?_,?_,?_⟩
 · rw [tk_bit h hi,decide_eq_true (show j≠i by omega),Bool.and_true]
 · simp only [tkC];rw [getD_set_at,if_neg (fun q=>hji q.1)]
 · simp only [tkC];rw [getD_set_at,if_neg (fun q=>hji q.1)]
theorem prs_one (c:SlC) (i:Nat):prs c i (i+1)=if bitW c.ws i=true then [(c.ks.getD i 0,c.vs.getD i 0)] else []:=by
 unfold prs plsW;rw [show i+1-i=1 by omega,List.range'_one,List.filter_cons];split<;>rfl
theorem prs_tk_all {c:SlC} {S lw n lc:Nat} (h:SlGd c S lw n lc) {i:Nat} (hi:i<n) (hb:bitW c.ws i=true):prs (tkC c i) 0 n=prs c 0 i++prs c (i+1) n∧prs c 0 n=prs c 0 i++(c.ks.getD i 0,c.vs.getD i 0)::prs c (i+1) n:=by
 constructor
 · rw [prs_app _ (Nat.zero_le i) (by omega:i≤n),prs_app _ (Nat.le_succ i) hi,prs_tk h hi _ _ (.inl (Nat.le_refl _)),prs_tk h hi _ _ (.inr (Nat.le_refl _)),prs_one,tk_bit h hi];simp
 · rw [prs_app _ (Nat.zero_le i) (by omega:i≤n),prs_app _ (Nat.le_succ i) hi,prs_one,if_pos hb];rfl
theorem wrap64_add (x:Int) (k:Nat):IntKind.u64.wrap (IntKind.u64.wrap (x+(k:Int))+1)=IntKind.u64.wrap (x+((k+1:Nat):Int)):=by
 have h:=fun y=>(show IntKind.u64.wrap y=y%18446744073709551616 from rfl)
 rw [h,h,h];push_cast
 omega
theorem tks_laid (c:SlC) (lo:Nat):∀j,(tks c lo j).laid=c.laid
  | 0=>rfl
  | j+1=>tks_laid c lo j
theorem lys_laid (c:SlC) (ps:List Nat) (L:List (Int×Int)) (h:IntKind.u64.wrap c.laid=c.laid):∀k,(lys c ps L k).laid=IntKind.u64.wrap (c.laid+(k:Int))
  | 0=>by rw [show c.laid+((0:Nat):Int)=c.laid by omega,h];rfl
  | k+1=>by
   rw [lys];show IntKind.u64.wrap ((lys c ps L k).laid+1)=_;rw [lys_laid c ps L h k,wrap64_add]
theorem sp_laid (c:SlC) (lo hi:Nat) (L:List (Int×Int)) (h:IntKind.u64.wrap c.laid=c.laid):(spC c lo hi L).laid=IntKind.u64.wrap (c.laid+(L.length:Int)):=by
 unfold spC;have e:=tks_laid c lo (hi-lo);rw [lys_laid _ _ _ (by rw [e];exact h),e]
end
section
open Go.RowKit Go.Shelf
structure OwnTab (B M:Nat) (W:World) (v u:Value) (gs ps:List Int):Prop where
 g:W.ownsRow B 3 1 v gs.length (gs.map (Value.int .i64))
 p:W.ownsRow B 3 1 u ps.length (ps.map (Value.int .i64))
 ne:∀k l,v.ownBlock=some k→u.ownBlock=some l→k≠l
 gm:∀k,v.ownBlock=some k→k<M
 pm:∀k,u.ownBlock=some k→k<M
theorem OwnTab.mk' {B:Nat} {W:World} {v u:Value} {gs ps:List Int} (h1:W.ownsRow B 3 1 v gs.length (gs.map (Value.int .i64))) (h2:W.ownsRow B 3 1 u ps.length (ps.map (Value.int .i64)))
    (h3:∀k l,v.ownBlock=some k→u.ownBlock=some l→k≠l):OwnTab B W.heap.size W v u gs ps:=⟨h1,h2,h3,fun k hk=>(h1.lt k hk).2,fun k hk=>(h2.lt k hk).2⟩
theorem OwnTab.mono {B B' M M':Nat} {W:World} {v u:Value} {gs ps:List Int} (h:OwnTab B M W v u gs ps) (hB:B'≤B) (hM:M≤M'):OwnTab B' M' W v u gs ps:=
  ⟨owns_base h.g hB,owns_base h.p hB,h.ne,fun k hk=>Nat.lt_of_lt_of_le (h.gm k hk) hM,fun k hk=>Nat.lt_of_lt_of_le (h.pm k hk) hM⟩
theorem OwnTab.below {B M:Nat} {W W':World} {v u:Value} {gs ps:List Int} (h:OwnTab B M W v u gs ps) (hb:Below W.heap.size W W'):OwnTab B M W' v u gs ps:=
  ⟨owns_below h.g hb,owns_below h.p hb,h.ne,h.gm,h.pm⟩
theorem OwnTab.heap {B M:Nat} {W W':World} {v u:Value} {gs ps:List Int} (h:OwnTab B M W v u gs ps) (hh:∀k,B≤k→k<M→W'.heap[k]? =W.heap[k]?):OwnTab B M W' v u gs ps:=
  ⟨owns_heap h.g fun k hk=>hh k (h.g.lt k hk).1 (h.gm k hk),owns_heap h.p fun k hk=>hh k (h.p.lt k hk).1 (h.pm k hk),h.ne,h.gm,h.pm⟩
theorem OwnTab.other {B M:Nat} {W:World} {v u:Value} {gs ps:List Int} (h:OwnTab B M W v u gs ps) (p:Addr) (x:Value) (hp:p.block<B∨M≤p.block):OwnTab B M (W.setCell p x) v u gs ps:=
  h.heap fun k h1 h2=>heap_setCell_ne _ _ _ xo
theorem OwnTab.alloc {B M:Nat} {W:World} {v u:Value} {gs ps:List Int} (h:OwnTab B M W v u gs ps) (o:Obj):OwnTab B M (W.alloc o) v u gs ps:=
  h.below (br.alloc (Nat.le_refl _) _)
theorem OwnTab.drewN {B M:Nat} {W:World} {v u:Value} {gs ps:List Int} (h:OwnTab B M W v u gs ps) (n:Nat):OwnTab B M (W.drewN n) v u gs ps:=
  h.heap fun k _ _=>rfl
theorem OwnTab.drew {B M:Nat} {W:World} {v u:Value} {gs ps:List Int} (h:OwnTab B M W v u gs ps):OwnTab B M W.drew v u gs ps:=
  h.heap fun k _ _=>rfl
theorem row_some {W:World} {B:Nat} {v:Value} {xs:List Int} (h:W.ownsRow B 3 1 v xs.length (xs.map (Value.int .i64))) {k:Nat} (hk:k<xs.length):
    ∃ b cap x,v= .slice (some ⟨b,0,none⟩) xs.length cap∧B≤b∧b<W.heap.size∧Hid (xs.getD k 0=x)∧W.cell? ⟨b,k,none⟩=some (.int .i64 x)∧W.frozen? ⟨b,k,none⟩=false∧
      ∀y:Int,(W.setCell ⟨b,k,none⟩ (.int .i64 y)).ownsRow B 3 1 v (xs.set k y).length ((xs.set k y).map (Value.int .i64)):=by
 obtain ⟨b,cap,rfl,hb,_⟩:=owns_some h xo;obtain ⟨⟨x,hx,hc⟩,hf,hs⟩:=ints_cell h hk;exact ⟨b,cap,x,rfl,hb,(h.lt b rfl).2,hx,hc,hf,hs⟩
theorem OwnTab.ats {B M:Nat} {W:World} {v u:Value} {gs ps:List Int} (h:OwnTab B M W v u gs ps) {k:Nat} (hk:k<ps.length):
    ∃ b cap x,u= .slice (some ⟨b,0,none⟩) ps.length cap∧B≤b∧b<M∧b<W.heap.size∧Hid (ps.getD k 0=x)∧W.cell? ⟨b,k,none⟩=some (.int .i64 x)∧W.frozen? ⟨b,k,none⟩=false∧
      ∀y:Int,OwnTab B M (W.setCell ⟨b,k,none⟩ (.int .i64 y)) v u gs (ps.set k y):=by
 obtain ⟨b,cap,x,rfl,hb,hz,hx,hc,hf,hs⟩:=row_some h.p hk;refine ⟨b,cap,x,rfl,hb,h.pm b rfl,hz,hx,hc,hf,fun y=>⟨owns_heap h.g fun j hj=>heap_setCell_ne _ _ _ (h.ne j b hj rfl),hs y,?_,h.gm,?_⟩⟩
 · exact h.ne
 · exact h.pm
theorem OwnTab.gens {B M:Nat} {W:World} {v u:Value} {gs ps:List Int} (h:OwnTab B M W v u gs ps) {k:Nat} (hk:k<gs.length):
    ∃ b cap x,v= .slice (some ⟨b,0,none⟩) gs.length cap∧B≤b∧b<M∧b<W.heap.size∧Hid (gs.getD k 0=x)∧W.cell? ⟨b,k,none⟩=some (.int .i64 x)∧W.frozen? ⟨b,k,none⟩=false∧
      ∀y:Int,OwnTab B M (W.setCell ⟨b,k,none⟩ (.int .i64 y)) v u (gs.set k y) ps:=by
 obtain ⟨b,cap,x,rfl,hb,hz,hx,hc,hf,hs⟩:=row_some h.g hk;exact ⟨b,cap,x,rfl,hb,h.gm b rfl,hz,hx,hc,hf,fun y=>⟨hs y,owns_heap h.p fun j hj=>heap_setCell_ne _ _ _ (fun e=>h.ne b j rfl hj e.symm),h.ne,h.gm,h.pm⟩⟩
theorem FreshTab.of {w W:World} {B M:Nat} {v u:Value} {gs ps:List Int} (h:OwnTab B M W v u gs ps) (hB:w.heap.size≤B) (hb:Below w.heap.size w W):FreshTab w gs ps (.returned (.agg #[v,u])) W:=
  ⟨v,u,rfl,owns_base h.g hB,owns_base h.p hB,h.ne,hb⟩
def TabRes (w:World) (gs ps:List Int) (x:Int) (e:Ending) (w':World):Prop:=
  ∃ v u,e= .returned (.tuple #[.agg #[v,u],.int .i64 x])∧w'.ownsRow w.heap.size 3 1 v gs.length (gs.map (Value.int .i64))∧w'.ownsRow w.heap.size 3 1 u ps.length (ps.map (Value.int .i64))∧
    (∀k l,v.ownBlock=some k→u.ownBlock=some l→k≠l)∧Below w.heap.size w w'
theorem TabRes.of {w W:World} {B M:Nat} {v u:Value} {gs ps:List Int} {x:Int} (h:OwnTab B M W v u gs ps) (hB:w.heap.size≤B) (hb:Below w.heap.size w W):TabRes w gs ps x (.returned (.tuple #[.agg #[v,u],.int .i64 x])) W:=
  ⟨v,u,rfl,owns_base h.g hB,owns_base h.p hB,h.ne,hb⟩
theorem TabRes.err {w W:World} {x:Int} (hb:Below w.heap.size w W):TabRes w [] [] x (.returned (.tuple #[.agg #[.slice none 0 0,.slice none 0 0],.int .i64 x])) W:=
  ⟨_,_,rfl,World.ownsRow_nil _ _ _ _,World.ownsRow_nil _ _ _ _,fun k l h=>by simp [Value.ownBlock] at h,hb⟩
def dropG (gs ps:List Int) (n g:Int):List Int:=if may gs ps=true∧isH gs ps n g=true then gs.set n.toNat (gs.getD n.toNat 0+1) else []
def dropP (gs ps:List Int) (n g:Int):List Int:=if may gs ps=true∧isH gs ps n g=true then ps.set n.toNat (-1) else []
def DropR (w:World) (gs ps:List Int) (n g:Int):Ending→World→Prop:=TabRes w (dropG gs ps n g) (dropP gs ps n g) (tfindE gs ps n g)
theorem dropR_bad {w:World} {gs ps:List Int} {n g:Int} (h:may gs ps=false):DropR w gs ps n g=TabRes w [] [] 8:=by simp [DropR,dropG,dropP,tfindE,h]
theorem dropR_not {w:World} {gs ps:List Int} {n g:Int} (h:may gs ps=true) (h3:isH gs ps n g=false):DropR w gs ps n g=TabRes w [] [] 140:=by simp [DropR,dropG,dropP,tfindE,h,h3]
theorem dropR_ok {w:World} {gs ps:List Int} {n g:Int} (h:may gs ps=true) (h3:isH gs ps n g=true):DropR w gs ps n g=TabRes w (gs.set n.toNat (gs.getD n.toNat 0+1)) (ps.set n.toNat (-1)) 0:=by simp [DropR,dropG,dropP,tfindE,h,h3]
end
section
open Go.RowKit Go.Shelf
theorem row_box_ne {W:World} {B b n cap:Nat} {xs:List Value} {X:Nat} {c:Array Value} {T:TypeId} {fr:Nat×Nat} (h:W.ownsRow B 3 1 (.slice (some ⟨b,0,none⟩) n cap) n xs) (hx:W.heap[X]? =some (.cells c T fr)) (hT:T≠3):b≠X:=by
 obtain ⟨_,⟨hv,_⟩ | ⟨g,cap',cur,hv,hg,hh,_⟩⟩:=h
 · cases hv
 · cases hv;rintro rfl;rw [hh] at hx;cases hx;exact hT rfl
theorem Drop_ok (ga aa:Option Addr) (gc ac:Nat) (gs ps:List Int) (n g:Int) (w:World) (hg:IsInts w ga gs) (hp:IsInts w aa ps) (hlg:gs.length≤1000000000) (hla:ps.length≤1000000000):
    Calls Tryz.prog 42 #[tabV ga gs.length gc aa ps.length ac,.agg #[.int .i64 n,.int .i64 g]] w (DropR w gs ps n g):=by
 have HG:=hid hg;have HP:=hid hp;by_cases hm:may gs ps=true
 · obtain ⟨h1,h2⟩:=may_len hm;by_cases hi:isH gs ps n g=true
   · obtain ⟨f1,f2,f3,f4⟩:=isH_facts hi;have f5:=okAt_facts (may_at hm (k:=n.toNat) xo);rw [dropR_ok hm hi];have HA:=hid (fun w' (hb:Below w.heap.size w w')=>tasked_ok ga aa gc ac gs ps n g 0 w' (HG.out.below hb) (HP.out.below hb) hm xo hi);have hnp:n<ps.length:=xo;obtain ⟨y0,hy0⟩:∃y,gs.getD n.toNat 0=y:=⟨_,rfl⟩
     rw [hy0] at f5 ⊢;have HY:=hid hy0;clear hg hp hm h1 hi f3 f4 hy0;go_enter Tryz.func42,Tryz.ntmps42
     go_wp2_with fail
     refine (HA.out _ xbel).mono ?_;rintro e w1 ⟨X,v,u,rfl,hX,hcX,hov,hou,hne,hb1⟩;have hz_w1:=hb1.size;try simp only [World.size_alloc,World.size_setCell] at hz_w1
     have c_h0:w1.cell? ⟨w.heap.size+1,0,none⟩=some (.int .i64 n):=xjt hb1 xlt xcn;have c_h1:w1.cell? ⟨w.heap.size+1,1,none⟩=some (.int .i64 g):=xjt hb1 xlt xcn;have z_h:w.heap.size+1<w1.heap.size:=xo;have c_r0:w1.cell? ⟨w.heap.size+1+1,0,none⟩=some (.slice none 0 0):=xjt hb1 xlt xcn;have f_r0:w1.frozen? ⟨w.heap.size+1+1,0,none⟩=false:=xft hb1 xlt xcn;have c_r1:w1.cell? ⟨w.heap.size+1+1,1,none⟩=some (.slice none 0 0):=xjt hb1 xlt xcn;have f_r1:w1.frozen? ⟨w.heap.size+1+1,1,none⟩=false:=xft hb1 xlt xcn;have z_r:w.heap.size+1+1<w1.heap.size:=xo;obtain ⟨va,vc,rfl,-,-,-⟩:=ints_of_owns hov;obtain ⟨ua,uc,rfl,-,-,-⟩:=ints_of_owns hou;have hown:=OwnTab.mk' hov hou hne;have hB:Below w.heap.size w w1:=xbel;obtain ⟨b,cap,x,hv,hb,hbM,hbz,hx,hcx,hfx,hset⟩:=hown.ats (k:=n.toNat) xo;cases hv;have hbX:b≠X:=row_box_ne hou hcX xdd;have HS:=hid (hset (-1));have hcX':∀c cap n,va=some ⟨c,0,none⟩→vc=cap→gs.length=n→c≠X:=by
      rintro c cap n rfl rfl rfl;exact row_box_ne hov hcX xdd
     have HCX:=hid hcX';have hX0:w1.cell? ⟨X,0,none⟩=some (.slice va gs.length vc):=by simp [World.cell?,hcX]
     have hX1:w1.cell? ⟨X,1,none⟩=some (.slice (some ⟨b,0,none⟩) ps.length uc):=by simp [World.cell?,hcX]
     simp only [World.size_alloc] at hX hb;have hY0:=cell_setCell_block (p:=⟨b,n.toNat,none⟩) (x:= .int .i64 (-1)) hX0 (fun e=>hbX e.symm);have hY1:=cell_setCell_block (p:=⟨b,n.toNat,none⟩) (x:= .int .i64 (-1)) hX1 (fun e=>hbX e.symm);have hYh:=cell_setCell_block (p:=⟨b,n.toNat,none⟩) (x:= .int .i64 (-1)) c_h0 (by show w.heap.size+1≠b;omega);have hc0:=cell_setCell_block (p:=⟨b,n.toNat,none⟩) (x:= .int .i64 (-1)) c_r0 (by show w.heap.size+1+1≠b;omega);have hc1:=cell_setCell_block (p:=⟨b,n.toNat,none⟩) (x:= .int .i64 (-1)) c_r1 (by show w.heap.size+1+1≠b;omega);clear hcX hov hou hne hown hb1 hset hbX hcX';go_wp2
     go_still_tail 7,xk
     go_wp2
     generalize hw2:(w1.setCell _ _).drew=w2;have hB2:Below w.heap.size w w2:=by rw [←hw2];(exact xbel)
     have hO2:OwnTab (w.heap.size+1+1+1) w1.heap.size w2 (.slice va gs.length vc) (.slice (some ⟨b,0,none⟩) ps.length uc) gs (ps.set n.toNat (-1)):=by
      rw [←hw2];have:=HS.out.drew;simp only [World.size_alloc] at this;exact this
     replace hX0:w2.cell? ⟨X,0,none⟩=some (.slice va gs.length vc):=by rw [←hw2];exact hY0
     replace hX1:w2.cell? ⟨X,1,none⟩=some (.slice (some ⟨b,0,none⟩) ps.length uc):=by rw [←hw2];exact hY1
     replace c_h0:w2.cell? ⟨w.heap.size+1,0,none⟩=some (.int .i64 n):=by rw [←hw2];exact hYh
     replace hc0:w2.cell? ⟨w.heap.size+1+1,0,none⟩=some (.slice none 0 0):=by rw [←hw2];exact hc0
     replace hc1:w2.cell? ⟨w.heap.size+1+1,1,none⟩=some (.slice none 0 0):=by rw [←hw2];exact hc1
     replace f_r0:w2.frozen? ⟨w.heap.size+1+1,0,none⟩=false:=by rw [←hw2];simp [f_r0]
     replace f_r1:w2.frozen? ⟨w.heap.size+1+1,1,none⟩=false:=by rw [←hw2];simp [f_r1]
     obtain ⟨c,cap,y,hv,hc,hcM,hcz,hy,hcy,hfy,hset2⟩:=hO2.gens (k:=n.toNat) xo;cases hv;have hcX':c≠X:=HCX.out _ _ _ rfl rfl rfl;obtain rfl:y0=y:=HY.out.symm.trans hy.out;have HS:=hid (hset2 (y0+1));have hZ0:=cell_setCell_block (p:=⟨c,n.toNat,none⟩) (x:= .int .i64 (y0+1)) hX0 (fun e=>hcX' e.symm);have hZ1:=cell_setCell_block (p:=⟨c,n.toNat,none⟩) (x:= .int .i64 (y0+1)) hX1 (fun e=>hcX' e.symm);replace hc0:=cell_setCell_block (p:=⟨c,n.toNat,none⟩) (x:= .int .i64 (y0+1)) hc0 (by show w.heap.size+1+1≠c;omega);replace hc1:=cell_setCell_block (p:=⟨c,n.toNat,none⟩) (x:= .int .i64 (y0+1)) hc1 (by show w.heap.size+1+1≠c;omega);have b1:=f5.1;have b2:=f5.2.1;have hwr:IntKind.i64.wrap (y0+1)=y0+1:=IntWalk.i64_in _ xo;have HW2:=hid hw2;clear f5 hw2 hset2 hO2 hcX' hcx hfx hY0 hY1 hYh c_r0 c_r1;go_still_tail 10,xk
     go_wp2
     obtain ⟨k0,k1⟩:=box2_stored (x:= .slice (some ⟨c,0,none⟩) gs.length vc) (y:= .slice (some ⟨b,0,none⟩) ps.length uc) hc0 hc1;refine bodyPost_ret (results_ct rfl rfl (run_loadVar_two Tryz.underlying31 rfl xk k0 k1)) rfl ?_;refine TabRes.of (B:=w.heap.size+1+1+1) (M:=w1.heap.size) (by (repeat (first|(with_reducible exact Hid.out (by with_reducible assumption))|(with_reducible assumption)|(with_reducible refine OwnTab.other ?_ _ _ ?_)|(with_reducible refine OwnTab.alloc ?_ _)|(with_reducible refine OwnTab.drewN ?_ _)|(with_reducible refine OwnTab.drew ?_)|(left;dsimp only;(first|(with_reducible assumption)|omega|(simp only [szW]<;>omega)|(simp<;>omega)))|(right;dsimp only;(first|(with_reducible assumption)|omega|(simp only [szW]<;>omega)|(simp<;>omega)))))) xo xbel
   · have hi':isH gs ps n g=false:=by simpa using hi
     rw [dropR_not hm hi'];have HA:=hid (fun w' (hb:Below w.heap.size w w')=>tasked_not ga aa gc ac gs ps n g 0 w' (HG.out.below hb) (HP.out.below hb) hm xo hi');clear hg hp hm h1 hi hi';go_enter Tryz.func42,Tryz.ntmps42
     go_wp2_with fail
     refine (HA.out _ xbel).mono ?_;rintro e w1 ⟨rfl,hb1⟩;have hz_w1:=hb1.size;try simp only [World.size_alloc,World.size_setCell] at hz_w1
     have c_r0:w1.cell? ⟨w.heap.size+1+1,0,none⟩=some (.slice none 0 0):=xjt hb1 xlt xcn;have f_r0:w1.frozen? ⟨w.heap.size+1+1,0,none⟩=false:=xft hb1 xlt xcn;have c_r1:w1.cell? ⟨w.heap.size+1+1,1,none⟩=some (.slice none 0 0):=xjt hb1 xlt xcn;have f_r1:w1.frozen? ⟨w.heap.size+1+1,1,none⟩=false:=xft hb1 xlt xcn;have z_r:w.heap.size+1+1<w1.heap.size:=xo;have hB:Below w.heap.size w w1:=xbel;go_wp2
     obtain ⟨k0,k1⟩:=box2_stored (x:= .slice none 0 0) (y:= .slice none 0 0) c_r0 c_r1;exact bodyPost_ret (results_ct rfl rfl (run_loadVar_two Tryz.underlying31 rfl xk xcn xcn)) rfl (TabRes.err xbel)
 · have hm':may gs ps=false:=by simpa using hm
   rw [dropR_bad hm'];have HA:=hid (fun w' (hb:Below w.heap.size w w')=>tasked_bad ga aa gc ac gs ps n g 0 w' (HG.out.below hb) (HP.out.below hb) hm' hlg hla);clear hg hp hm hm';go_enter Tryz.func42,Tryz.ntmps42
   go_wp2_with fail
   refine (HA.out _ xbel).mono ?_;rintro e w1 ⟨rfl,hb1⟩;have hz_w1:=hb1.size;try simp only [World.size_alloc,World.size_setCell] at hz_w1
   have c_r0:w1.cell? ⟨w.heap.size+1+1,0,none⟩=some (.slice none 0 0):=xjt hb1 xlt xcn;have f_r0:w1.frozen? ⟨w.heap.size+1+1,0,none⟩=false:=xft hb1 xlt xcn;have c_r1:w1.cell? ⟨w.heap.size+1+1,1,none⟩=some (.slice none 0 0):=xjt hb1 xlt xcn;have f_r1:w1.frozen? ⟨w.heap.size+1+1,1,none⟩=false:=xft hb1 xlt xcn;have z_r:w.heap.size+1+1<w1.heap.size:=xo;have hB:Below w.heap.size w w1:=xbel;go_wp2
   obtain ⟨k0,k1⟩:=box2_stored (x:= .slice none 0 0) (y:= .slice none 0 0) c_r0 c_r1;exact bodyPost_ret (results_ct rfl rfl (run_loadVar_two Tryz.underlying31 rfl xk xcn xcn)) rfl (TabRes.err xbel)
end
section
open Go.RowKit Go.Shelf
def freeB (gs ps:List Int) (k:Nat):Bool:=decide (ps.getD k 0<0)&&decide (gs.getD k 0<2147483647)
def firstF (gs ps:List Int):Option Nat:=(List.range gs.length).find? (freeB gs ps)
theorem firstF_some {gs ps:List Int} {k:Nat} (hk:k<gs.length) (h:freeB gs ps k=true) (hn:∀j,j<k→freeB gs ps j=false):firstF gs ps=some k:=by
 rw [firstF,List.find?_range_eq_some];exact ⟨h,by simpa using hk,fun j hj=>by simp [hn j hj]⟩
theorem firstF_none {gs ps:List Int} (hn:∀j,j<gs.length→freeB gs ps j=false):firstF gs ps=none:=by
 rw [firstF,List.find?_eq_none];intro j hj;simp [hn j (by simpa using hj)]
theorem firstF_is {gs ps:List Int} {k:Nat} (h:firstF gs ps=some k):k<gs.length∧freeB gs ps k=true∧∀j,j<k→freeB gs ps j=false:=by
 rw [firstF,List.find?_range_eq_some] at h;exact ⟨by simpa using h.2.1,h.1,fun j hj=>by simpa using h.2.2 j hj⟩
def makeOk (gs ps:List Int) (at_:Int):Bool:=may gs ps&&decide (0≤at_)&&((firstF gs ps).isSome||decide (gs.length≠65536))
def makeG (gs ps:List Int) (at_:Int):List Int:=if makeOk gs ps at_=true then (match firstF gs ps with|some _=>gs|none=>gs++[0]) else []
def makeP (gs ps:List Int) (at_:Int):List Int:=if makeOk gs ps at_=true then (match firstF gs ps with|some k=>ps.set k at_|none=>ps++[at_]) else []
def makeN (gs ps:List Int) (at_:Int):Int:=if makeOk gs ps at_=true then (match firstF gs ps with|some k=>(k:Int)|none=>(gs.length:Int)) else 0
def makeK (gs ps:List Int) (at_:Int):Int:=if makeOk gs ps at_=true then (match firstF gs ps with|some k=>gs.getD k 0|none=>0) else 0
def makeE (gs ps:List Int) (at_:Int):Int:=if may gs ps=true then (if at_<0 then 2 else if makeOk gs ps at_=true then 0 else 9) else 8
def MakeRes (w:World) (gs ps:List Int) (n g x:Int) (e:Ending) (w':World):Prop:=
  ∃ v u,e= .returned (.tuple #[.agg #[v,u],.agg #[.int .i64 n,.int .i64 g],.int .i64 x])∧w'.ownsRow w.heap.size 3 1 v gs.length (gs.map (Value.int .i64))∧w'.ownsRow w.heap.size 3 1 u ps.length (ps.map (Value.int .i64))∧
    (∀k l,v.ownBlock=some k→u.ownBlock=some l→k≠l)∧Below w.heap.size w w'
theorem MakeRes.of {w W:World} {B M:Nat} {v u:Value} {gs ps:List Int} {n g x:Int} (h:OwnTab B M W v u gs ps) (hB:w.heap.size≤B) (hb:Below w.heap.size w W):MakeRes w gs ps n g x (.returned (.tuple #[.agg #[v,u],.agg #[.int .i64 n,.int .i64 g],.int .i64 x])) W:=
  ⟨v,u,rfl,owns_base h.g hB,owns_base h.p hB,h.ne,hb⟩
theorem MakeRes.err {w W:World} {x:Int} (hb:Below w.heap.size w W):MakeRes w [] [] 0 0 x (.returned (.tuple #[.agg #[.slice none 0 0,.slice none 0 0],.agg #[.int .i64 0,.int .i64 0],.int .i64 x])) W:=
  ⟨_,_,rfl,World.ownsRow_nil _ _ _ _,World.ownsRow_nil _ _ _ _,fun k l h=>by simp [Value.ownBlock] at h,hb⟩
def MakeR (w:World) (gs ps:List Int) (at_:Int):Ending→World→Prop:=MakeRes w (makeG gs ps at_) (makeP gs ps at_) (makeN gs ps at_) (makeK gs ps at_) (makeE gs ps at_)
theorem makeR_bad {w:World} {gs ps:List Int} {at_:Int} (h:may gs ps=false):MakeR w gs ps at_=MakeRes w [] [] 0 0 8:=by
 have:makeOk gs ps at_=false:=by simp [makeOk,h]
 simp [MakeR,makeG,makeP,makeN,makeK,makeE,h,this]
theorem makeR_neg {w:World} {gs ps:List Int} {at_:Int} (h:may gs ps=true) (h2:at_<0):MakeR w gs ps at_=MakeRes w [] [] 0 0 2:=by
 have h3:¬0≤at_:=xo;have:makeOk gs ps at_=false:=by simp [makeOk,h3]
 simp [MakeR,makeG,makeP,makeN,makeK,makeE,h,this,h2]
theorem makeR_old {w:World} {gs ps:List Int} {at_:Int} {k:Nat} (h:may gs ps=true) (h2:0≤at_) (h3:firstF gs ps=some k):MakeR w gs ps at_=MakeRes w gs (ps.set k at_) k (gs.getD k 0) 0:=by
 have h4:¬at_<0:=xo;have:makeOk gs ps at_=true:=by simp [makeOk,h,h2,h3]
 simp [MakeR,makeG,makeP,makeN,makeK,makeE,h,this,h3,h4]
theorem makeR_full {w:World} {gs ps:List Int} {at_:Int} (h:may gs ps=true) (h2:0≤at_) (h3:firstF gs ps=none) (h5:gs.length=65536):MakeR w gs ps at_=MakeRes w [] [] 0 0 9:=by
 have h4:¬at_<0:=xo;have:makeOk gs ps at_=false:=by simp [makeOk,h3,h5]
 simp [MakeR,makeG,makeP,makeN,makeK,makeE,h,this,h4]
theorem makeR_new {w:World} {gs ps:List Int} {at_:Int} (h:may gs ps=true) (h2:0≤at_) (h3:firstF gs ps=none) (h5:gs.length≠65536):MakeR w gs ps at_=MakeRes w (gs++[0]) (ps++[at_]) gs.length 0 0:=by
 have h4:¬at_<0:=xo;have:makeOk gs ps at_=true:=by simp [makeOk,h,h2,h5]
 simp [MakeR,makeG,makeP,makeN,makeK,makeE,h,this,h3,h4]
end
section
open Go.RowKit
def stl1 (but:Int) (s:SlC) (x:List Int×Int) (i:Nat):List Int×Int:=
  (x.1.set (s.ks.getD i 0).toNat (i:Int),if x.1.getD (s.ks.getD i 0).toNat 0=(i:Int)∨s.ks.getD i 0=but then x.2 else IntKind.u64.wrap (x.2+1))
def stlL (but:Int) (s:SlC) (x:List Int×Int) (L:List Nat):List Int×Int:=L.foldl (stl1 but s) x
def stlTo (but:Int) (s:SlC) (x:List Int×Int) (k:Nat):List Int×Int:=stlL but s x (plsW s.ws 0 k)
theorem stlL_nil (but:Int) (s:SlC) (x:List Int×Int):stlL but s x []=x:=rfl
theorem stlL_snoc (but:Int) (s:SlC) (x:List Int×Int) (L:List Nat) (i:Nat):stlL but s x (L++[i])=stl1 but s (stlL but s x L) i:=by simp [stlL]
theorem stlTo_zero (but:Int) (s:SlC) (x:List Int×Int):stlTo but s x 0=x:=by rw [stlTo,plsW_nil];rfl
theorem stlTo_no {but:Int} {s:SlC} {x:List Int×Int} {k:Nat} (h:bitW s.ws k=false):stlTo but s x (k+1)=stlTo but s x k:=by
 rw [stlTo,plsW_app s.ws (Nat.zero_le k) (Nat.le_succ k),plsW_succ (Nat.le_refl k),plsW_nil,h,if_neg xdd,List.append_nil,List.append_nil];rfl
theorem stlTo_yes {but:Int} {s:SlC} {x:List Int×Int} {k:Nat} (h:bitW s.ws k=true):stlTo but s x (k+1)=stl1 but s (stlTo but s x k) k:=by
 rw [stlTo,plsW_app s.ws (Nat.zero_le k) (Nat.le_succ k),plsW_succ (Nat.le_refl k),plsW_nil,h,if_pos rfl,List.nil_append,stlL_snoc];rfl
theorem stl1_length (but:Int) (s:SlC) (x:List Int×Int) (i:Nat):(stl1 but s x i).1.length=x.1.length:=by simp [stl1]
theorem stlL_length (but:Int) (s:SlC) (L:List Nat):∀x:List Int×Int,(stlL but s x L).1.length=x.1.length:=by
 induction L with
 | nil=>intro x;rfl
 | cons i L ih=>intro x;exact (ih (stl1 but s x i)).trans (stl1_length but s x i)
theorem stlTo_length (but:Int) (s:SlC) (x:List Int×Int) (k:Nat):(stlTo but s x k).1.length=x.1.length:=stlL_length but s _ x
def inE (c:Cfg) (s:SlC) (gs ps:List Int):Int:=if makeOk gs ps 0=true∧(manyC s:Int)≠c.most then 0 else 9
def inS (c:Cfg) (s:SlC) (gs ps:List Int) (k:Nat):SlC:=putC c s k (makeN gs ps 0,0)
def inX (c:Cfg) (s:SlC) (gs ps:List Int) (mv:Int) (k:Nat):List Int×Int:=stlTo (makeN gs ps 0) (inS c s gs ps k) (makeP gs ps 0,mv) (inS c s gs ps k).ks.length
def fstE (c:Cfg) (s:SlC) (gs ps:List Int):Int:=if omE c s gs ps=0 then inE c s gs ps else omE c s gs ps
def rnkH (s:SlC) (ps:List Int) (n:Int):Nat:=cntW s.ws 0 (ps.getD n.toNat 0).toNat
def bsdE (c:Cfg) (s:SlC) (gs ps:List Int) (n g:Int):Int:=if omE c s gs ps=0 then (if isH gs ps n g=true then inE c s gs ps else 140) else omE c s gs ps
def outE (c:Cfg) (s:SlC) (gs ps:List Int) (n g:Int):Int:=if omE c s gs ps=0 then (if isH gs ps n g=true then 0 else 140) else omE c s gs ps
def outS (c:Cfg) (s:SlC) (ps:List Int) (n:Int):SlC:=takC c s (rnkH s ps n)
def outX (c:Cfg) (s:SlC) (gs ps:List Int) (mv n g:Int):List Int×Int:=stlTo (-1) (outS c s ps n) (dropP gs ps n g,mv) (outS c s ps n).ks.length
theorem rnk_idx {c:Cfg} {s:SlC} {gs ps:List Int} (h:omE c s gs ps=0) {n g:Int} (hi:isH gs ps n g=true):idxL (hdl s gs 0 s.ks.length) n g=(rnkH s ps n:Int)∧rnkH s ps n<manyC s:=by
 obtain ⟨hg,hm,hl⟩:=omE_zero h;rcases idx_lab hm hl n g with ⟨e,-⟩ | ⟨k,-,e,hk,hp⟩
 · rw [hi] at e;cases e
 · obtain ⟨hr,hbit,hlt⟩:=pls_rank hk;have e2:rnkH s ps n=k:=by rw [rnkH,←hp,Int.toNat_natCast,hr]
   rw [e2];refine ⟨e,?_⟩;rw [plsW_length] at hk;exact hk
end
section
open Go.RowKit Go.BigFrame
def PB (W:World) (b:Nat) (vs:List Value):Prop:=∀j v,vs[j]? =some v→W.cell? ⟨b,j,none⟩=some v
theorem pb_new (w:World) (b:Nat) (vs:List Value) {t:TypeId} (hb:b=w.heap.size):PB (w.alloc (.cells vs.toArray t)) b vs:=by
 intro j v hj;subst hb;have:(w.alloc (Obj.cells vs.toArray t)).cell? ⟨w.heap.size,j,none⟩=vs.toArray[j]? :=ceW.2.1 w vs.toArray t w.heap.size j rfl;rw [this];simpa using hj
theorem pb_alloc {w:World} {b:Nat} {vs:List Value} (h:PB w b vs) (hb:b<w.heap.size) (o:Obj):PB (w.alloc o) b vs:=
  fun j v hj=>(ceW.1 w o b j hb).trans (h j v hj)
theorem pb_below {w w':World} {b:Nat} {vs:List Value} (hb:Below w.heap.size w w') (h:PB w b vs) (hz:b<w.heap.size):PB w' b vs:=
  fun j v hj=>(hb.cell (p:=⟨b,j,none⟩) hz).trans (h j v hj)
theorem pbb {w w':World} {b:Nat} {vs:List Value} (hb:Below w.heap.size w w') (h:Hid (PB w b vs)) (hz:b<w.heap.size):Hid (PB w' b vs):=hid (pb_below hb h.out hz)
theorem pbg {w w':World} {b:Nat} {vs:List Value} {o:Obj} (e:w.alloc o=w') (h:Hid (PB w b vs)) (hz:b<w.heap.size):Hid (PB w' b vs):=e ▸ hid (pb_alloc h.out hz o)
theorem pb_pre {w:World} {b:Nat} {vs us:List Value} (h:PB w b (vs++us)):∀j v,vs[j]? =some v→w.cell? ⟨b,j,none⟩=some v:=by
 intro j v hj;refine h j v ?_;rw [List.getElem?_append_left (List.getElem?_eq_some_iff.1 hj).1];exact hj
theorem pb_via {w w':World} {M b:Nat} {vs:List Value} (h:∀(p:Addr) (v:Value),p.block<M→w.cell? p=some v→w'.cell? p=some v) (hp:PB w b vs) (hb:b<M):PB w' b vs:=
  fun j v hj=>h ⟨b,j,none⟩ v hb (hp j v hj)
theorem wpl_store_new {P:Program} {w:World} {ops:Array Oper} {rest:List Oper} {o:Oper} {a:Act} {Q:Exit→Act→World→Prop} (ty:TypeId) (x y:Operand) (c c':Array Value)
    (hw:Region.wanted o (yielded ops a.tmps)=true) (ho:o.op= .store ty x y) (hx:a.eval x= .pointer (some ⟨w.heap.size,0,none⟩)) (hy:a.eval y= .agg c')
    (hi:(P.info? ty).map (·.size)=some c'.size) (hc:c.size=c'.size) (h1:c'.all (·.oneCell')=true)
    (h:wpList P ops Q rest (a.put o.dst undef) (w.alloc (.cells c' ty))):wpList P ops Q (o::rest) a (w.alloc (.cells c ty)):=by
 refine wpList_want hw fun K hK=> ?_
 have e:=run_storeAt_new (P:=P) w ty c c' hi hc h1;unfold Oper.wp execOp;simp only [ho,hx,hy,Sem.run_bind,Sem.run_pure,Result.andThen_ok,e];exact hK _ _ h
end
section
open Go.RowKit Go.BigFrame
def BX (w:World) (b:Nat) (t:TypeId) (vs:List Value):Prop:=w.heap[b]? =some (.cells vs.toArray t (0,0))
theorem bx_lt {w:World} {b:Nat} {t:TypeId} {vs:List Value} (h:BX w b t vs):b<w.heap.size:=(Array.getElem?_eq_some_iff.1 h).1
theorem bx_pb {w:World} {b:Nat} {t:TypeId} {vs:List Value} (h:BX w b t vs):PB w b vs:=by
 intro j v hj;have h':w.heap[b]? =some (.cells vs.toArray t (0,0)):=h;have hl:=(List.getElem?_eq_some_iff.1 hj).1;have:=cell_of_row w b j vs.toArray t (0,0) h';rw [this];simpa using hj
theorem bx_new (w:World) (vs:List Value) (t:TypeId):BX (w.alloc (.cells vs.toArray t)) w.heap.size t vs:=heap_alloc_last w _
theorem bx_below {M:Nat} {w w':World} {b:Nat} {t:TypeId} {vs:List Value} (hb:Below M w w') (h:BX w b t vs) (hz:b<M):BX w' b t vs:=(hb.block b hz).trans h
theorem RowR.pb {b c:Nat} {w w':World} {vs:List Value} (h:RowR b w w') (hp:PB w c vs) (hc:c≠b):PB w' c vs:=
  fun j v hj=>(World.cell?_of_block (w:=w) (h.other c hc)).trans (hp j v hj)
theorem RowR.bx {b c:Nat} {w w':World} {t:TypeId} {vs:List Value} (h:RowR b w w') (hp:BX w c t vs) (hc:c≠b):BX w' c t vs:=(h.other c hc).trans hp
theorem setRow_rowR (w:World) (b:Nat) (cs:Array Value):RowR b w (w.setRow b cs):=by
 have hs:(w.setRow b cs).heap.size=w.heap.size:=by simp [World.setRow]
 have ho:∀q,q≠b→(w.setRow b cs).heap[q]? =w.heap[q]? :=fun q hq=>by
  have hq':¬b=q:=fun e=>hq e.symm
  simp [World.setRow,Array.getElem?_modify,hq']
 exact ⟨hs,ho,fun B hB=>⟨rfl,rfl,rfl,by rw [hs];exact Nat.le_refl _,fun k hk=>ho k xo⟩⟩
theorem wpl_store_row {P:Program} {w:World} {ops:Array Oper} {rest:List Oper} {o:Oper} {a:Act} {Q:Exit→Act→World→Prop} (ty:TypeId) (x y:Operand) (b:Nat) (old vs:List Value)
    (hg:o.guard=none) (ho:o.op= .store ty x y) (hx:a.eval x= .pointer (some ⟨b,0,none⟩)) (hy:a.eval y= .agg vs.toArray)
    (hi:(P.info? ty).map (·.size)=some vs.length) (hc:old.length=vs.length) (h1:vs.toArray.all (·.oneCell')=true) (hh:BX w b ty old)
    (h:∀W',RowR b w W'→BX W' b ty vs→wpList P ops Q rest (a.put o.dst undef) W'):wpList P ops Q (o::rest) a w:=by
 refine wpList_store_row hg ty x y ho b vs.toArray hx hy ty old.toArray hh (by simpa using hi) (by simpa using hc) h1 (h _ (setRow_rowR _ _ _) ?_);exact setRow_heap w b old.toArray vs.toArray ty (0,0) hh
end
section
open Go.RowKit Go.Shelf
theorem bx_set {w:World} {b:Nat} {t:TypeId} {vs:List Value} (h:BX w b t vs) (i:Nat) (v:Value):BX (w.setCell ⟨b,i,none⟩ v) b t (vs.set i v):=by
 have:=heap_setCell_same w b i vs.toArray t v h;unfold BX;rw [this];simp
theorem bx_frozen {w:World} {b i:Nat} {t:TypeId} {vs:List Value} (h:BX w b t vs) (hi:i<vs.length):w.frozen? ⟨b,i,none⟩=false:=by
 have h':w.heap[b]? =some (.cells vs.toArray t (0,0)):=h;simp [World.frozen?,h',hi]
theorem rowR_cell (w:World) (b i:Nat) (v:Value):RowR b w (w.setCell ⟨b,i,none⟩ v):=
  ⟨World.size_setCell _ _ _,fun q hq=>heap_setCell_ne _ _ _ hq,fun B hB=>br.setCell hB v⟩
theorem RowR.trans {b:Nat} {w w' w'':World} (h:RowR b w w') (k:RowR b w' w''):RowR b w w'':=
  ⟨k.size.trans h.size,fun q hq=>(k.other q hq).trans (h.other q hq),fun B hB=>(h.bel B hB).trans (k.bel B hB)⟩
end
section
open Go.RowKit Go.Shelf Go.Sort
theorem own_form2 {k:IntKind} {e:TypeId} {B:Nat} {ao:Option Addr} {n c:Nat} {w:World} {xs:List Int} (h:w.ownsRow B e 1 (.slice ao n c) n (xs.map (Value.int k))) (hn:0<n):∃g,ao=some ⟨g,0,none⟩∧B≤g∧g<w.heap.size:=by
 obtain ⟨h1,⟨h2,h3⟩ | ⟨g,cap,cur,hv,hg,hh,_⟩⟩:=h
 · omega
 · cases hv;exact ⟨g,rfl,hg,(Array.getElem?_eq_some_iff.1 hh).1⟩
def SetP (c:Cfg) (s:SlC) (sa:SlA) (gs ps:List Int) (mv but:Int) (b:Nat) (w:World) (e:Ending) (w':World):Prop:=
  ∃v g2 gc2 p2 pc2,e= .returned v∧BX w' b 76 [.int .u8 c.tag,.int .i64 c.most,.int .i64 c.seg,.int .i64 c.least,.int .i64 c.den,.int .i64 c.ll,.int .i64 c.rl,.int .i64 c.rh,.int .i64 c.lh,.int .i64 s.seg,.slice sa.wa s.ws.length sa.wc,.slice sa.ka s.ks.length sa.kc,.slice sa.va s.vs.length sa.vc,.slice sa.ca s.cs.length sa.cc,.int .u64 s.laid,.slice g2 gs.length gc2,.slice p2 ps.length pc2,.int .u64 (stlTo but s (ps,mv) s.ks.length).2]∧w'.ownsRow w.heap.size 3 1 (.slice g2 gs.length gc2) gs.length ((gs).map (Value.int .i64))∧w'.ownsRow w.heap.size 3 1 (.slice p2 ps.length pc2) ps.length (((stlTo but s (ps,mv) s.ks.length).1).map (Value.int .i64))∧(∀x y,(Value.slice g2 gs.length gc2).ownBlock=some x→(Value.slice p2 ps.length pc2).ownBlock=some y→x≠y)∧Below b w w'∧∀q,q<w.heap.size→q≠b→w'.heap[q]? =w.heap[q]?
theorem settle_core (c:Cfg) (s:SlC) (sa:SlA) (gs ps:List Int) (mv:Int) (ga pa:Option Addr) (gc pc:Nat) (but:Int) (b:Nat) (w:World) (hX:BX w b 76 [.int .u8 c.tag,.int .i64 c.most,.int .i64 c.seg,.int .i64 c.least,.int .i64 c.den,.int .i64 c.ll,.int .i64 c.rl,.int .i64 c.rh,.int .i64 c.lh,.int .i64 s.seg,.slice sa.wa s.ws.length sa.wc,.slice sa.ka s.ks.length sa.kc,.slice sa.va s.vs.length sa.vc,.slice sa.ca s.cs.length sa.cc,.int .u64 s.laid,.slice ga gs.length gc,.slice pa ps.length pc,.int .u64 mv])
    (hin:∀W,(∀q,q<w.heap.size→q≠b→W.heap[q]? =w.heap[q]?)→SlIn W s sa) (hk:s.ks.length≤65536) (hv:s.vs.length=s.ks.length) (hw:s.ks.length≤64*s.ws.length) (hwl:s.ws.length≤65536) (hpl:0<ps.length)
    (hkeys:∀j,j<s.ks.length→bitW s.ws j=true→0≤s.ks.getD j 0∧s.ks.getD j 0<ps.length)
    (TW:Hid (∀W,Below w.heap.size w W→Calls Tryz.prog 57 #[.agg #[.slice ga gs.length gc,.slice pa ps.length pc]] W (FreshTab W gs ps))):
    Calls Tryz.prog 43 #[.pointer (some ⟨b,0,none⟩),.int .i64 but] w (SetP c s sa gs ps mv but b w):=by
 have HX0:=hid hX;have HIN:=hid hin;have HKY:=hid hkeys;have hbz:b<w.heap.size:=bx_lt hX;have HN:=hid (And.intro hk (And.intro hw hwl));have HVK:=hid hv;have HPL:=hid hpl;have c_u15:=bx_pb hX 15 _ rfl;have c_u16:=bx_pb hX 16 _ rfl;clear hX hin hkeys hk hv hw hwl hpl;go_enter Tryz.func43,Tryz.ntmps43
 go_wp2_with fail
 refine (TW.out _ br).mono ?_;rintro e w1 ⟨v1,v2,rfl,p1,p2,hne,hb1⟩;have HX1:=hid (bx_below hb1 HX0.out hbz);have hz1:=hb1.size;replace c_u15:=bx_pb HX1.out 15 _ rfl;replace c_u16:=bx_pb HX1.out 16 _ rfl;have f_u15:=bx_frozen HX1.out (i:=15) (by show (15:Nat)<18;decide);have f_u16:=bx_frozen HX1.out (i:=16) (by show (16:Nat)<18;decide);obtain ⟨g2,gc2,rfl,-,-,-,-,-⟩:=row_of_owns p1;obtain ⟨p0,pc2,rfl,-,-,-,-,-⟩:=row_of_owns p2;obtain ⟨g,hpg,hg1,hg2⟩:=own_form2 p2 HPL.out;subst hpg;have HP1:=hid p1;have HP2:=hid p2;have HNE:=hid hne;have HB1:=hid hb1;clear p1 p2 hne hb1 TW;go_upto_region 1 with (fail)
 generalize hw2:(w1.setCell _ _).setCell _ _=w2;have HX2:Hid (BX w2 b 76 [.int .u8 c.tag,.int .i64 c.most,.int .i64 c.seg,.int .i64 c.least,.int .i64 c.den,.int .i64 c.ll,.int .i64 c.rl,.int .i64 c.rh,.int .i64 c.lh,.int .i64 s.seg,.slice sa.wa s.ws.length sa.wc,.slice sa.ka s.ks.length sa.kc,.slice sa.va s.vs.length sa.vc,.slice sa.ca s.cs.length sa.cc,.int .u64 s.laid,.slice g2 gs.length gc2,.slice (some ⟨g,0,none⟩) ps.length pc2,.int .u64 mv]):=hw2 ▸ hid (bx_set (bx_set HX1.out 15 _) 16 _);have HR2:Hid (RowR b w1 w2):=hw2 ▸ hid ((rowR_cell w1 b 15 _).trans (rowR_cell _ b 16 _));have HG:Hid (b≠g):=hid xo;have HGN:=hid (show ∀q,(Value.slice g2 gs.length gc2).ownBlock=some q→q≠g from fun q hq=>HNE.out q g hq rfl);have HO2:Hid (w2.ownsRow w.heap.size 3 1 (.slice (some ⟨g,0,none⟩) ps.length pc2) ps.length (((stlTo but s (ps,mv) 0).1).map (Value.int .i64))):=by
  rw [stlTo_zero];exact hid (owns_heap HP2.out fun x hx=>HR2.out.other x (by have:=(HP2.out.lt x hx).1;omega))
 replace HP1:=hid (owns_heap HP1.out fun x hx=>HR2.out.other x (by have:=(HP1.out.lt x hx).1;omega));have HK2:Hid (∀q,q<w.heap.size→q≠b→w2.heap[q]? =w.heap[q]?):=hid fun q hq hqb=>(HR2.out.other q hqb).trans (HB1.out.block q hq)
 have HB2:Hid (Below b w w2):=hid ((HB1.out.mono xo).trans (HR2.out.bel _ (Nat.le_refl _)));have hz2:w2.heap.size=w1.heap.size:=HR2.out.size;have HZ:=hid (And.intro hg1 (show g<w2.heap.size by omega));have HX2':Hid (BX w2 b 76 [.int .u8 c.tag,.int .i64 c.most,.int .i64 c.seg,.int .i64 c.least,.int .i64 c.den,.int .i64 c.ll,.int .i64 c.rl,.int .i64 c.rh,.int .i64 c.lh,.int .i64 s.seg,.slice sa.wa s.ws.length sa.wc,.slice sa.ka s.ks.length sa.kc,.slice sa.va s.vs.length sa.vc,.slice sa.ca s.cs.length sa.cc,.int .u64 s.laid,.slice g2 gs.length gc2,.slice (some ⟨g,0,none⟩) ps.length pc2,.int .u64 (stlTo but s (ps,mv) 0).2]):=by rw [stlTo_zero];exact HX2
 have c_u11:=bx_pb HX2.out 11 _ rfl;clear hw2 c_u15 c_u16 f_u15 f_u16 HX1 HX2 HR2 HB1 hz1 hz2 hg1 hg2;go_upto_region 2 with (fail)
 clear c_u11;go_loopg [25] s.ks.length (fun gk iv wr=>∃k:Nat,k+gk=s.ks.length∧iv= .int .i64 k∧Hid (BX wr b 76 [.int .u8 c.tag,.int .i64 c.most,.int .i64 c.seg,.int .i64 c.least,.int .i64 c.den,.int .i64 c.ll,.int .i64 c.rl,.int .i64 c.rh,.int .i64 c.lh,.int .i64 s.seg,.slice sa.wa s.ws.length sa.wc,.slice sa.ka s.ks.length sa.kc,.slice sa.va s.vs.length sa.vc,.slice sa.ca s.cs.length sa.cc,.int .u64 s.laid,.slice g2 gs.length gc2,.slice (some ⟨g,0,none⟩) ps.length pc2,.int .u64 (stlTo but s (ps,mv) k).2])∧Hid (wr.ownsRow w.heap.size 3 1 (.slice (some ⟨g,0,none⟩) ps.length pc2) ps.length (((stlTo but s (ps,mv) k).1).map (Value.int .i64)))∧Hid (wr.ownsRow w.heap.size 3 1 (.slice g2 gs.length gc2) gs.length ((gs).map (Value.int .i64)))∧Hid (∀q,q<w.heap.size→q≠b→wr.heap[q]? =w.heap[q]?)∧Hid (Below b w wr)∧Hid (w2.heap.size≤wr.heap.size))
 case atStart=>exact ⟨0,by omega,rfl,HX2',HO2,HP1,HK2,HB2,hid (Nat.le_refl _)⟩
 case round=>
  clear HX2' HO2 HP1 HK2 HB2 HP2;obtain ⟨k,hk,rfl,HX,HO,HP,HK,HB,HS⟩:=hrel;have hgz:=HZ.out;have hsz:=HS.out;by_cases hlt:k<s.ks.length
  · have PR:=hid (pair_ok s sa.wa sa.ka sa.va sa.ca sa.wc sa.kc sa.vc sa.cc k hlt (by rw [HVK.out];exact hlt) (by have:=HN.out;omega) (by have:=HN.out;omega) HN.out.2.2 wr (HIN.out wr HK.out));have hd:decide ((k:Int)<(s.ks.length:Int))=true:=decide_eq_true xo;have hw3:IntKind.i64.wrap ((k:Int)+1)=(k:Int)+1:=IntWalk.i64_in _ (by have:=HN.out;omega);have c_u9:=bx_pb HX.out 9 _ rfl;have c_u10:=bx_pb HX.out 10 _ rfl;have c_u11:=bx_pb HX.out 11 _ rfl;have c_u12:=bx_pb HX.out 12 _ rfl;have c_u13:=bx_pb HX.out 13 _ rfl;have c_u14:=bx_pb HX.out 14 _ rfl;have c_u15:=bx_pb HX.out 15 _ rfl;have c_u16:=bx_pb HX.out 16 _ rfl;have c_u17:=bx_pb HX.out 17 _ rfl;cases hb:bitW s.ws k with
    | false=>
     rw [hb] at PR;simp only [Bool.false_eq_true,if_false] at PR;have HX':=HX;rw [←stlTo_no (but:=but) (x:=(ps,mv)) hb] at HX';have HO':=HO;rw [←stlTo_no (but:=but) (x:=(ps,mv)) hb] at HO';go_wp2_with fail
     refine PR.out.mono ?_;rintro e w4 ⟨rfl,hb4⟩;go_upto_region 5 with (refine wpl_store_new 91 (.tmp 5) (.tmp 36) _ _ rfl rfl rfl rfl xk rfl (by simp [Value.oneCell']) ?_)
     generalize hw5:w4.alloc _=w5;have hb5:Below wr.heap.size wr w5:=by rw [←hw5];exact hb4.alloc hb4.size _
     clear hw5 hb4;have hbz':b<wr.heap.size:=xo;go_wp2
     go_roundg (gk-1)
     case measure=>omega
     case rel=>exact ⟨k+1,by omega,by go_num,hid (bx_below hb5 HX'.out hbz'),hid (owns_below HO'.out hb5),hid (owns_below HP.out hb5),hid (fun q hq hqb=>(hb5.block q xo).trans (HK.out q hq hqb)),hid (HB.out.trans (hb5.mono xo)),hid (Nat.le_trans hsz hb5.size)⟩
    | true=>
     rw [hb] at PR;simp only [if_true] at PR;obtain ⟨z0,z1⟩:=HKY.out k hlt hb;have hyes:=stlTo_yes (but:=but) (x:=(ps,mv)) hb;have hsl:=stlTo_length but s (ps,mv) k;obtain ⟨m,hm⟩:=Int.eq_ofNat_of_zero_le z0;rw [hm] at PR z1;rw [stl1,hm,Int.toNat_natCast] at hyes;have hml:m<ps.length:=xo;have hx:=own_cell HO.out (j:=m) (by rw [hsl];exact hml);have hbi:((m:Int)<(ps.length:Int)):=z1;have HYS:=hid hyes;have HSL:=hid hsl;have hset:∀l:List Int,m<l.length→l.getD m 0=(k:Int)→l.set m (k:Int)=l:=fun l hl h=>by
      rw [List.getD_eq_getElem?_getD,List.getElem?_eq_getElem hl,Option.getD_some] at h;rw [←h,List.set_getElem_self]
     have HST:=hid (hset _ (by rw [hsl];exact hml));generalize stlTo but s (ps,mv) k=xs at *;obtain ⟨x1,mk⟩:=xs;dsimp only at *;generalize hxe:x1.getD m 0=x at *;generalize s.vs.getD k 0=vv at PR;clear hyes hsl hset hm z0 z1;go_wp2_with fail
     refine PR.out.mono ?_;rintro e w4 ⟨rfl,hb4⟩;go_upto_region 5 with (refine wpl_store_new 91 (.tmp 5) (.tmp 36) _ _ rfl rfl rfl rfl xk rfl (by simp [Value.oneCell']) ?_)
     have c_p0:=pb_new w4 w4.heap.size [.int .i64 (m:Int),.int .i64 vv] (t:=91) rfl 0 _ rfl;generalize hw5:w4.alloc _=w5 at *;have hb5:Below wr.heap.size wr w5:=by rw [←hw5];exact hb4.alloc hb4.size _
     have hbz':b<wr.heap.size:=xo;have HX5:=hid (bx_below hb5 HX.out hbz');have HO5:=hid (owns_below HO.out hb5);have HP5:=hid (owns_below HP.out hb5);have HK5:=hid (fun q (hq:q<w.heap.size) (hqb:q≠b)=>(hb5.block q xo).trans (HK.out q hq hqb));have HB5:=hid (HB.out.trans (hb5.mono xo));have HS5:=hid (Nat.le_trans hsz hb5.size);have c_u16:=bx_pb HX5.out 16 _ rfl;have c_u17:=bx_pb HX5.out 17 _ rfl;have f_u17:=bx_frozen HX5.out (i:=17) (by show (17:Nat)<18;decide);have cg:=(hb5.cell (p:=⟨g,m,none⟩) xdo).trans hx.1;have fg:=(hb5.frozen (p:=⟨g,m,none⟩) xdo).trans hx.2;clear hw5 hb4 hb5 hx PR HX HO HP HK HB HS;by_cases hxk:x=(k:Int)
     · subst hxk;have e:=HYS.out;rw [if_pos (.inl rfl),HST.out rfl] at e;go_wp2
       go_roundg (gk-1)
       case measure=>omega
       case rel=>exact ⟨k+1,by omega,by go_num,by rw [e];exact HX5,by rw [e];exact HO5,HP5,HK5,HB5,HS5⟩
     · have bx0:(x != (k:Int))=true:=by simpa using hxk
       have HOs:=hid (own_set HO5.out m (k:Int));by_cases hbt:(m:Int)=but
       · have bt:((m:Int) != but)=false:=by simpa using hbt
         have e:=HYS.out;rw [if_pos (.inr hbt)] at e;clear hbt;have HR:=hid (rowR_cell w5 g m (.int .i64 k));go_wp2
         go_roundg (gk-1)
         case measure=>omega
         case rel=>exact ⟨k+1,by omega,by go_num,by rw [e];exact hid (HR.out.bx HX5.out HG.out),by rw [e];exact HOs,hid (owns_heap HP5.out fun q hq=>HR.out.other q (HGN.out q hq)),hid (fun q hq hqb=>(HR.out.other q xo).trans (HK5.out q hq hqb)),hid (HB5.out.trans (HR.out.bel _ xo)),by have:=HR.out.size;exact hid (by have:=HS5.out;omega)⟩
       · have bt:((m:Int) != but)=true:=by simpa using hbt
         have e:=HYS.out;rw [if_neg (fun h=>h.elim hxk hbt)] at e;clear hbt hxk;have HR:=hid (rowR_cell w5 g m (.int .i64 k));have HR2:=hid (rowR_cell (w5.setCell ⟨g,m,none⟩ (.int .i64 k)) b 17 (.int .u64 (IntKind.u64.wrap (mk+1))));have HX6:=hid (bx_set (HR.out.bx HX5.out HG.out) 17 (.int .u64 (IntKind.u64.wrap (mk+1))));replace c_u17:(w5.setCell ⟨g,m,none⟩ (.int .i64 k)).cell? ⟨b,17,none⟩=_:=bx_pb (HR.out.bx HX5.out HG.out) 17 _ rfl;replace f_u17:(w5.setCell ⟨g,m,none⟩ (.int .i64 k)).frozen? ⟨b,17,none⟩=false:=bx_frozen (HR.out.bx HX5.out HG.out) (i:=17) (by show (17:Nat)<18;decide);go_wp2
         go_roundg (gk-1)
         case measure=>omega
         case rel=>exact ⟨k+1,by omega,by go_num,by rw [e];exact HX6,by rw [e];exact hid (owns_heap HOs.out fun q hq=>HR2.out.other q (by cases hq;exact HG.out.symm)),hid (owns_heap (owns_heap HP5.out fun q hq=>HR.out.other q (HGN.out q hq)) fun q hq=>HR2.out.other q (by have:=(HP5.out.lt q hq).1;omega)),hid (fun q hq hqb=>(HR2.out.other q hqb).trans ((HR.out.other q xo).trans (HK5.out q hq hqb))),hid ((HB5.out.trans (HR.out.bel _ xo)).trans (HR2.out.bel _ (Nat.le_refl _))),by have:=HR.out.size;have:=HR2.out.size;exact hid (by have:=HS5.out;omega)⟩
  · obtain rfl:k=s.ks.length:=xo;go_wp2
    exact bodyPost_end (results_none rfl _ _ _) rfl ⟨_,g2,gc2,some ⟨g,0,none⟩,pc2,rfl,HX.out,HP.out,HO.out,HNE.out,HB.out,HK.out⟩
end
section
open Go.RowKit Go.Shelf Go.Sort
theorem rank_err (c:Cfg) (s:SlC) (sa:SlA) (gs ps:List Int) (mv:Int) (ga pa:Option Addr) (gc pc:Nat) (b:Nat) (n g x:Int) (e:Int) (he:e≠0) (w:World) (hX:BX w b 76 [.int .u8 c.tag,.int .i64 c.most,.int .i64 c.seg,.int .i64 c.least,.int .i64 c.den,.int .i64 c.ll,.int .i64 c.rl,.int .i64 c.rh,.int .i64 c.lh,.int .i64 s.seg,.slice sa.wa s.ws.length sa.wc,.slice sa.ka s.ks.length sa.kc,.slice sa.va s.vs.length sa.vc,.slice sa.ca s.cs.length sa.cc,.int .u64 s.laid,.slice ga gs.length gc,.slice pa ps.length pc,.int .u64 mv])
    (FN:Hid (∀W,Below w.heap.size w W→Calls Tryz.prog 54 #[.agg #[.slice ga gs.length gc,.slice pa ps.length pc],.agg #[.int .i64 n,.int .i64 g]] W (AnsB W (.tuple #[.int .i64 x,.int .i64 e])))):
    Calls Tryz.prog 38 #[.pointer (some ⟨b,0,none⟩),.agg #[.int .i64 n,.int .i64 g]] w (AnsB w (.tuple #[.int .i64 0,.int .i64 e])):=by
 have ge:(e != 0)=true:=by simpa using he
 clear he;have HX0:=hid hX;have hbz:b<w.heap.size:=bx_lt hX;clear hX;go_enter Tryz.func38,Tryz.ntmps38
 go_upto_region 1 with (fail)
 generalize hw0:w.alloc _=w0;have hh:=ec2 hw0 (al2 (b:=w.heap.size) xsi);obtain ⟨c_h0,c_h1⟩:=hh;have z_h:=elt hw0 (alz (b:=w.heap.size) xsi);have HB0:Hid (Below w.heap.size w w0):=by rw [←hw0];exact hid (br.alloc (Nat.le_refl _) _)
 have HXw:=hid (bx_below HB0.out HX0.out hbz);have c_u15:=bx_pb HXw.out 15 _ rfl;have c_u16:=bx_pb HXw.out 16 _ rfl;clear hw0;have K0:=hid (fun d os=>kr w0 d os (FN.out _ (below_via (below_regrown w0 d os) HB0.out HB0.out.size)));have q0:=cg c_h0;have q1:=cg c_h1;have q2:=cg c_u15;have q3:=cg c_u16;refine wp_region_quiet_below xk xk ?_;repeat (go_big_quiet_step (first|with_reducible exact K0.out _ _|exact K0.out _ _))
 refine wpQuiet_nil ?_;intro _ hw';obtain ⟨⟨dq,osq⟩,hw''⟩:=hw';subst hw'';have hbq:=below_regrown w0 dq osq;clear q0 q1 q2 q3 K0;generalize Sort.grow (redrawn w0 dq) osq=w1 at *;have HB1:=xv hbq HB0;clear hbq c_u15 c_u16;go_wp2
 go_ret2
 exact ⟨rfl,HB1.out⟩
theorem rank_in (c:Cfg) (s:SlC) (sa:SlA) (gs ps:List Int) (mv:Int) (ga pa:Option Addr) (gc pc:Nat) (b:Nat) (n g x:Int) (r:Int) (w:World) (hX:BX w b 76 [.int .u8 c.tag,.int .i64 c.most,.int .i64 c.seg,.int .i64 c.least,.int .i64 c.den,.int .i64 c.ll,.int .i64 c.rl,.int .i64 c.rh,.int .i64 c.lh,.int .i64 s.seg,.slice sa.wa s.ws.length sa.wc,.slice sa.ka s.ks.length sa.kc,.slice sa.va s.vs.length sa.vc,.slice sa.ca s.cs.length sa.cc,.int .u64 s.laid,.slice ga gs.length gc,.slice pa ps.length pc,.int .u64 mv])
    (FN:Hid (∀W,Below w.heap.size w W→Calls Tryz.prog 54 #[.agg #[.slice ga gs.length gc,.slice pa ps.length pc],.agg #[.int .i64 n,.int .i64 g]] W (AnsB W (.tuple #[.int .i64 x,.int .i64 0]))))
    (CT:Hid (∀W,Below w.heap.size w W→Calls Tryz.prog 67 #[.slice sa.wa s.ws.length sa.wc,.int .i64 s.ks.length,.int .i64 0,.int .i64 x] W (AnsB W (.tuple #[.int .i64 r,.int .i64 0])))):
    Calls Tryz.prog 38 #[.pointer (some ⟨b,0,none⟩),.agg #[.int .i64 n,.int .i64 g]] w (AnsB w (.tuple #[.int .i64 r,.int .i64 0])):=by
 have HX0:=hid hX;have hbz:b<w.heap.size:=bx_lt hX;clear hX;go_enter Tryz.func38,Tryz.ntmps38
 go_upto_region 1 with (fail)
 generalize hw0:w.alloc _=w0;have hh:=ec2 hw0 (al2 (b:=w.heap.size) xsi);obtain ⟨c_h0,c_h1⟩:=hh;have z_h:=elt hw0 (alz (b:=w.heap.size) xsi);have HB0:Hid (Below w.heap.size w w0):=by rw [←hw0];exact hid (br.alloc (Nat.le_refl _) _)
 have HXw:=hid (bx_below HB0.out HX0.out hbz);have c_u15:=bx_pb HXw.out 15 _ rfl;have c_u16:=bx_pb HXw.out 16 _ rfl;clear hw0;have K0:=hid (fun d os=>kr w0 d os (FN.out _ (below_via (below_regrown w0 d os) HB0.out HB0.out.size)));have q0:=cg c_h0;have q1:=cg c_h1;have q2:=cg c_u15;have q3:=cg c_u16;refine wp_region_quiet_below xk xk ?_;repeat (go_big_quiet_step (first|with_reducible exact K0.out _ _|exact K0.out _ _))
 refine wpQuiet_nil ?_;intro _ hw';obtain ⟨⟨dq,osq⟩,hw''⟩:=hw';subst hw'';have hbq:=below_regrown w0 dq osq;clear q0 q1 q2 q3 K0;generalize Sort.grow (redrawn w0 dq) osq=w1 at *;have HB1:=xv hbq HB0;clear hbq c_u15 c_u16;have HXx:=hid (bx_below HB1.out HX0.out hbz);have c_u10:=bx_pb HXx.out 10 _ rfl;have c_u11:=bx_pb HXx.out 11 _ rfl;go_upto_region 4 with (fail)
 have K0:=hid (fun d os=>kr w1 d os (CT.out _ (below_via (below_regrown w1 d os) HB1.out HB1.out.size)));have q0:=cg c_u10;have q1:=cg c_u11;refine wp_region_quiet_below xk xk ?_;repeat (go_big_quiet_step (first|with_reducible exact K0.out _ _|exact K0.out _ _))
 refine wpQuiet_nil ?_;intro _ hw';obtain ⟨⟨dq,osq⟩,hw''⟩:=hw';subst hw'';have hbq:=below_regrown w1 dq osq;clear q0 q1 K0;generalize Sort.grow (redrawn w1 dq) osq=w2 at *;have HB2:=xv hbq HB1;clear hbq;go_wp2
 go_ret2
 exact ⟨rfl,HB2.out⟩
end
section
open Go.RowKit Go.Shelf Go.Sort
theorem first_wh (b:Nat) (w:World):Calls Tryz.prog 34 #[.pointer (some ⟨b,0,none⟩)] w (AnsB w (.tuple #[.int .i64 0,.int .i64 0])):=by
 go_enter Tryz.func34,Tryz.ntmps34
 go_wp2
 go_ret2
 exact ⟨rfl,Below.refl _ _⟩
theorem after_wh (b bk:Nat) (n g k e:Int) (hk: -1000000000≤k∧k≤1000000000) (w:World) (c_h0:w.cell? ⟨bk,0,none⟩=some (.int .i64 n)) (c_h1:w.cell? ⟨bk,1,none⟩=some (.int .i64 g))
    (RK:Hid (∀W,Below w.heap.size w W→Calls Tryz.prog 38 #[.pointer (some ⟨b,0,none⟩),.agg #[.int .i64 n,.int .i64 g]] W (AnsB W (.tuple #[.int .i64 k,.int .i64 e])))):
    Calls Tryz.prog 37 #[.pointer (some ⟨b,0,none⟩),.pointer (some ⟨bk,0,none⟩)] w (AnsB w (.tuple #[.int .i64 (k+1),.int .i64 e])):=by
 have hw1:IntKind.i64.wrap (k+1)=k+1:=IntWalk.i64_in _ xo;clear hk;go_enter Tryz.func37,Tryz.ntmps37
 go_wp2_with fail
 refine (RK.out _ br).mono ?_;rintro e' w1 ⟨rfl,hb1⟩;have HB1:=hid hb1;clear hb1 c_h0 c_h1;go_wp2
 go_ret2
 exact ⟨rfl,HB1.out⟩
theorem before_wh (b bk:Nat) (n g k e:Int) (hk: -1000000000≤k∧k≤1000000000) (w:World) (c_h0:w.cell? ⟨bk,0,none⟩=some (.int .i64 n)) (c_h1:w.cell? ⟨bk,1,none⟩=some (.int .i64 g))
    (RK:Hid (∀W,Below w.heap.size w W→Calls Tryz.prog 38 #[.pointer (some ⟨b,0,none⟩),.agg #[.int .i64 n,.int .i64 g]] W (AnsB W (.tuple #[.int .i64 k,.int .i64 e])))):
    Calls Tryz.prog 40 #[.pointer (some ⟨b,0,none⟩),.pointer (some ⟨bk,0,none⟩)] w (AnsB w (.tuple #[.int .i64 k,.int .i64 e])):=by
 clear hk;go_enter Tryz.func40,Tryz.ntmps40
 go_wp2_with fail
 refine (RK.out _ br).mono ?_;rintro e' w1 ⟨rfl,hb1⟩;have HB1:=hid hb1;clear hb1 c_h0 c_h1;go_wp2
 go_ret2
 exact ⟨rfl,HB1.out⟩
end
section
open Go.RowKit
theorem full_arith {A W P F F' D x m d:Int} (hA:0≤A) (hW:0≤W) (hP:1≤P) (hD:0≤D) (hd:1≤d) (h1:m*A≤W*P*F') (hF:F=F'+D*d) (hAD:A≤D*W) (hx:x*P≤m+P-1):x*A≤W*F:=by
 have e1:(x*P)*A≤(m+P-1)*A:=Int.mul_le_mul_of_nonneg_right hx hA;have e2:(m+P-1)*A=m*A+P*A-A:=by rw [Int.sub_mul,Int.add_mul,Int.one_mul]
 have e3:P*A≤P*(D*W):=Int.mul_le_mul_of_nonneg_left hAD xo;have e4:D*W≤D*W*d:=by
  have:=Int.mul_le_mul_of_nonneg_left hd (Int.mul_nonneg hD hW);rwa [Int.mul_one] at this
 have e5:P*(D*W)≤P*(D*W*d):=Int.mul_le_mul_of_nonneg_left e4 xo;have e6:W*P*F'+P*(D*W*d)=P*(W*F):=by
  rw [hF,Int.mul_add,Int.mul_add,Int.mul_comm W P,Int.mul_assoc,Int.mul_comm D W,Int.mul_assoc W D d]
 have e7:(x*P)*A=P*(x*A):=by rw [Int.mul_comm x P,Int.mul_assoc]
 exact Int.le_of_mul_le_mul_left (a:=P) xo xo
theorem spr_arith {A W P G G' x m:Int} (hA:0≤A) (hW:0≤W) (hP:1≤P) (h1:W*P*G'≤(m+1)*A) (hG:G≤G') (hx:m+1≤(x+1)*P):W*G≤(x+1)*A:=by
 have e1:(m+1)*A≤((x+1)*P)*A:=Int.mul_le_mul_of_nonneg_right hx hA;have e2:W*P*G≤W*P*G':=Int.mul_le_mul_of_nonneg_left hG (Int.mul_nonneg hW xo);have e3:W*P*G=P*(W*G):=by rw [Int.mul_comm W P,Int.mul_assoc]
 have e4:((x+1)*P)*A=P*((x+1)*A):=by rw [Int.mul_comm (x+1) P,Int.mul_assoc]
 exact Int.le_of_mul_le_mul_left (a:=P) xo xo
theorem wdC_add (c:Cfg) (j d:Nat):wdC c (j+d)=wdC c j*((2^d:Nat):Int):=by
 rw [wdC,wdC,Int.pow_add,Int.mul_assoc];push_cast
 rfl
theorem CapC.bal {c:Cfg} {size:Int} {a H:Nat} (k:CapC c size a H):c.den*H≤(c.lh-c.rh)*c.seg:=by
 have hm:=k.may;simp only [cfMay,Bool.and_eq_true,decide_eq_true_eq] at hm;obtain ⟨hd,hb⟩:=hm;obtain ⟨d0,d1,d2,d3,d4,d5,d6,d7,d8,d9,d10,d11,d12,d13,d14,d15,d16,d17⟩:=cfHead_num hd;obtain ⟨H',e,hb2,-⟩:=cap_nat hd k.seg (n:=c.most) xo xo;have hle:=(powB_iff.1 k.cap).2.1;have e2:htC c (taks c c.most)=H':=by
  rw [htC,e,k.seg,Int.natCast_mul,Int.mul_ediv_cancel_left _ (by have:=Nat.two_pow_pos a;omega),Int.toNat_natCast,Nat.log2_two_pow]
 have hHH:H≤H':=by
  rw [k.all,e] at hle;have h3:2^a*2^H≤2^a*2^H':=xo;exact (Nat.pow_le_pow_iff_right (a:=2) xo).1 (Nat.le_of_mul_le_mul_left h3 (Nat.two_pow_pos a))
 rw [e2] at hb;have:=Int.mul_le_mul_of_nonneg_left (show (H:Int)≤H' by omega) (show 0≤c.den by omega);omega
theorem full_share {c:Cfg} {size:Int} {a H j d m x:Nat} (k:CapC c size a H) (hj:j+d≤H) (hd:1≤d) (hf:fulB c H (j+d) m=true) (hx:x*2^d<m+2^d):fulB c H j x=true:=by
 obtain ⟨d0,d1,d2,d3,d4,d5,d6,d7,d8,d9,d10,d11,d12,d13,d14,d15,d16,d17⟩:=cfHead_num (cfMay_head k.may);unfold fulB at hf ⊢;rw [if_neg xo,decide_eq_true_eq] at hf ⊢;obtain ⟨-,w4,-,-⟩:=k.wd (h:=j) xo;have hws:c.seg≤wdC c j:=by
  have h1:(1:Int)≤2^j:=by
   have:=Nat.two_pow_pos j;have e:(2:Int)^j=((2^j:Nat):Int):=by push_cast;rfl
   rw [e];omega
  have:=Int.mul_le_mul_of_nonneg_left h1 (show 0≤c.seg by omega);rw [Int.mul_one] at this;exact this
 have hb:=k.bal;have hp:=Nat.two_pow_pos d;have hA:0≤(H:Int)*c.den:=Int.mul_nonneg xo xo;rw [Int.mul_assoc];rw [Int.mul_assoc,wdC_add] at hf;refine full_arith (P:=((2^d:Nat):Int)) (D:=c.lh-c.rh) (d:=d) (m:=m) hA xo xo xo xo hf ?_ ?_ ?_
 · have e:((j+d:Nat):Int)=(j:Int)+d:=by push_cast;rfl
   rw [e];have e1:c.lh*((H:Int)-(j+d))=c.lh*((H:Int)-j)-c.lh*d:=by rw [←Int.mul_sub];congr 1;omega
   have e2:c.rh*((j:Int)+d)=c.rh*j+c.rh*d:=Int.mul_add ..;have e3:(c.lh-c.rh)*(d:Int)=c.lh*d-c.rh*d:=Int.sub_mul ..;omega
 · have h5:(c.lh-c.rh)*c.seg≤(c.lh-c.rh)*wdC c j:=Int.mul_le_mul_of_nonneg_left hws xo;rw [Int.mul_comm (H:Int)];omega
 · have e:((x*2^d:Nat):Int)=(x:Int)*((2^d:Nat):Int):=by push_cast;rfl
   omega
def sprN (c:Cfg) (H h:Nat) (n:Int):Prop:=wdC c h*(c.ll*((H:Int)-h)+c.rl*h)≤(n+1)*H*c.den
theorem sprB_or {c:Cfg} {size:Int} {H h:Nat} {n:Int}:sprB c size H h n=true↔size=c.least∨sprN c H h n:=by
 unfold sprB sprN;rw [Bool.or_eq_true,decide_eq_true_eq,decide_eq_true_eq]
theorem spr_share {c:Cfg} {size:Int} {a H j d m x:Nat} (k:CapC c size a H) (hj:j+d≤H) (hf:sprN c H (j+d) m) (hx:m<(x+1)*2^d):sprN c H j x:=by
 obtain ⟨d0,d1,d2,d3,d4,d5,d6,d7,d8,d9,d10,d11,d12,d13,d14,d15,d16,d17⟩:=cfHead_num (cfMay_head k.may);obtain ⟨-,w4,-,-⟩:=k.wd (h:=j) xo;unfold sprN at hf ⊢;have hp:=Nat.two_pow_pos d;have hA:0≤(H:Int)*c.den:=Int.mul_nonneg xo xo;rw [Int.mul_assoc];rw [wdC_add,Int.mul_assoc (_+1)] at hf;refine spr_arith (P:=((2^d:Nat):Int)) (m:=m) hA xo xo hf ?_ ?_
 · have e:((j+d:Nat):Int)=(j:Int)+d:=by push_cast;rfl
   rw [e];have e1:c.ll*((H:Int)-(j+d))=c.ll*((H:Int)-j)-c.ll*d:=by rw [←Int.mul_sub];congr 1;omega
   have e2:c.rl*((j:Int)+d)=c.rl*j+c.rl*d:=Int.mul_add ..;have e3:c.ll*(d:Int)≤c.rl*d:=Int.mul_le_mul_of_nonneg_right xo xo;omega
 · have e:(((x+1)*2^d:Nat):Int)=((x:Int)+1)*((2^d:Nat):Int):=by push_cast;rfl
   omega
theorem sprN_more {c:Cfg} {H h:Nat} {n m:Int} (hd:0≤c.den) (h1:n≤m) (hn:sprN c H h n):sprN c H h m:=by
 unfold sprN at hn ⊢;have e1:(n+1)*(H:Int)≤(m+1)*(H:Int):=Int.mul_le_mul_of_nonneg_right xo xo;have:=Int.mul_le_mul_of_nonneg_right e1 hd;omega
theorem fulB_less {c:Cfg} {H h:Nat} {n m:Int} (hd:0≤c.den) (h1:m≤n) (hn:fulB c H h n=true):fulB c H h m=true:=by
 unfold fulB at hn ⊢;split at hn
 · rename_i hz
   rw [if_pos hz,decide_eq_true_eq];rw [decide_eq_true_eq] at hn;have:=Int.mul_le_mul_of_nonneg_right h1 hd;omega
 · rename_i hz
   rw [if_neg hz,decide_eq_true_eq];rw [decide_eq_true_eq] at hn;have e1:m*(H:Int)≤n*(H:Int):=Int.mul_le_mul_of_nonneg_right h1 xo;have:=Int.mul_le_mul_of_nonneg_right e1 hd;omega
end
end Go.Proofs.YtjhpblejlchhjaaGreatDoor

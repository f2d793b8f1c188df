/- Merged: Occ, InvIn, OccCnt, Tz, OccNx, VebPlain, Flat, IdxPlain, VebPos. -/
import Derived.Test.YtbedhbpgnfffmaaGreatCobTellsP2
import Derived.Sort.LoopGhostIn
import Derived.Test.YtbedhbpgnfffmaaGreatCobTellsP1
import Derived.OrdersIn
import Derived.Laws.Bits64b
import Derived.Lib.TrailingZeros
namespace Go.Proofs.YtbedhbpgnfffmaaGreat
set_option maxRecDepth 100000
set_option maxHeartbeats 40000000
set_option linter.unusedVariables false
set_option linter.unusedSimpArgs false
section
open Go.RowKit Go.Shelf
attribute [local go_sem] Oper.semAt_some
theorem occCheck_ok (wa:Option Addr) (wc:Nat) (ws:List Int) (hu:U64s ws) (n:Nat) (hn:n≤65536) (hl:ws.length≤9223372036854775807) (w:World) (hw:IsRow .u64 w wa ws):
    Calls Tryz.prog 128 #[.slice wa ws.length wc,.int .i64 n] w fun e w'=>e= .returned (.int .i64 (if wMayB ws n=true then 0 else 8))∧w=w':=by
 by_cases c1:ws.length=(n+63)/64
 · have hi:=wMayB_iff hu c1;have e1:((ws.length:Int) != ((n:Int)+64-1)/64)=false:=by simp;omega
   by_cases c2:n%64=0
   · have e:wMayB ws n=true:=hi.2 (.inl c2);rw [if_pos e];have hr:(n:Int)%64=0:=xo;have hd:((n:Int)+64-1)/64=(ws.length:Int):=xo;generalize ws.length=m at *;clear hi e c1;go_enter Tryz.func128,Tryz.ntmps128
     go_wp2
     go_ret
     exact ⟨rfl,rfl⟩
   · obtain ⟨b,off,x,rfl,hx,hc,-⟩:=hw.get (i:=ws.length-1) xo;have hg:=hu.get (ws.length-1);rw [hx.out] at hi hg;obtain ⟨r,hr⟩:∃r,n%64=r:=⟨_,rfl⟩
     rw [hr] at hi c2;have hrI:(n:Int)%64=(r:Int):=xo;have hr64:r<64:=xo;have hr0:0<r:=xo;have hd:((n:Int)+64-1)/64=(ws.length:Int):=xo;have hm0:0<ws.length:=xo;obtain ⟨q,hq⟩:∃q,x/2^r=q:=⟨_,rfl⟩
     rw [hq] at hi;by_cases c3:q=0
     · have e:wMayB ws n=true:=hi.2 (.inr c3);rw [if_pos e];subst c3;generalize ws.length=m at *;obtain ⟨m',rfl⟩:∃m',m=m'+1:=⟨m-1,by omega⟩
       rw [Nat.add_sub_cancel] at hc;clear hi e c1 hu hw hx;go_enter Tryz.func128,Tryz.ntmps128
       go_wp2
       go_ret
       exact ⟨rfl,rfl⟩
     · have e:¬wMayB ws n=true:=fun h=>by rcases hi.1 h with h|h<;>omega
       rw [if_neg e];have hq2:(q != 0)=true:=by simpa using c3
       generalize ws.length=m at *;obtain ⟨m',rfl⟩:∃m',m=m'+1:=⟨m-1,by omega⟩
       rw [Nat.add_sub_cancel] at hc;clear hi e c1 hu hw hx;go_enter Tryz.func128,Tryz.ntmps128
       go_wp2
       go_ret
       exact ⟨rfl,rfl⟩
 · have e:¬wMayB ws n=true:=by simp [wMayB,c1]
   rw [if_neg e];have hd:((ws.length:Int) != ((n:Int)+64-1)/64)=true:=by simp;omega
   generalize ws.length=m at *;clear e;go_enter Tryz.func128,Tryz.ntmps128
   go_wp2
   go_ret
   exact ⟨rfl,rfl⟩
theorem asked_ok (wa:Option Addr) (wc:Nat) (ws:List Int) (hu:U64s ws) (n:Nat) (hn:n≤65536) (hl:ws.length≤9223372036854775807) (hmay:wMayB ws n=true) (w:World) (hw:IsRow .u64 w wa ws):
    Calls Tryz.prog 146 #[.slice wa ws.length wc,.int .i64 n,.bool true] w fun e w'=>e= .returned (.int .i64 0)∧w=w':=by
 have CK:=hid (fun w hw=>occCheck_ok wa wc ws hu n hn hl w hw);rw [if_pos hmay] at CK;have HW:=hid hw;generalize ws.length=m at *;clear hw hmay;go_enter Tryz.func146,Tryz.ntmps146
 go_wp2_with (go_at_call 128;refine (CK.out _ HW.out).mono ?_;rintro e w' ⟨rfl,rfl⟩)
 go_ret
 exact ⟨rfl,rfl⟩
theorem cut_ok (wa:Option Addr) (wc:Nat) (ws:List Int) (hu:U64s ws) (a b k:Nat) (hk:k<ws.length) (ha:a<64*k+64) (hb:64*k<b) (hbb:b≤65536) (w:World) (hw:IsRow .u64 w wa ws) (b1 b2 b3:Nat)
    (c1:w.cell? ⟨b1,0,none⟩=some (.slice wa ws.length wc)) (c2:w.cell? ⟨b2,0,none⟩=some (.int .i64 a)) (c3:w.cell? ⟨b3,0,none⟩=some (.int .i64 b)):
    Calls Tryz.prog 158 #[.int .i64 k,.pointer (some ⟨b1,0,none⟩),.pointer (some ⟨b2,0,none⟩),.pointer (some ⟨b3,0,none⟩)] w fun e w'=>e= .returned (.int .u64 (cutV ws a b k))∧w=w':=by
 have hg:=hu.get k;have hA:=cutA_bd hu a k;obtain ⟨bb,off,x,rfl,hx,hc,-⟩:=hw.get hk;have hV:cutV ws a b k=if b<64*k+64 then cutHi (cutA ws a k) (64*k+64-b) else cutA ws a k:=rfl
 have hAd:cutA ws a k=if 64*k<a then cutLo x (a-64*k) else x:=by unfold cutA;rw [hx.out]
 rw [hx.out] at hg;obtain ⟨y,hy⟩:∃y,cutA ws a k=y:=⟨_,rfl⟩
 obtain ⟨z,hz⟩:∃z,cutV ws a b k=z:=⟨_,rfl⟩
 rw [hy] at hA hV hAd;rw [hz] at hV ⊢;generalize ws.length=m at *;have HX:=hid hx;clear hx hw hu hy hz;by_cases q1:64*k<a
 · rw [if_pos q1] at hAd;obtain ⟨lo,hlo⟩:∃lo,a-64*k=lo:=⟨_,rfl⟩
   have hloI:(a:Int)-(k:Int)*64=(lo:Int):=xo;have hlo64:lo<64:=xo;have hlo0:0<lo:=xo;rw [hlo] at hAd;have hbd:=cutLo_bd hg.1 lo;rw [←hAd] at hbd;have hyw:IntKind.u64.wrap (x/2^lo*2^lo)=y:=by rw [hAd] at hA ⊢;unfold cutLo at hA ⊢;rw [IntKind.wrap_u64];omega
   by_cases q2:b<64*k+64
   · rw [if_pos q2] at hV;obtain ⟨hi,hhi⟩:∃hi,64*k+64-b=hi:=⟨_,rfl⟩
     have hhiI:((k:Int)+1)*64-(b:Int)=(hi:Int):=xo;have hhi64:hi<64:=xo;have hhi0:0<hi:=xo;rw [hhi] at hV;have hzw:IntKind.u64.wrap (y*2^hi)/2^hi=z:=by rw [hV,IntKind.wrap_u64];rfl
     clear hAd hV hbd hlo hhi;go_enter Tryz.func158,Tryz.ntmps158
     go_wp2
     go_ret
     exact ⟨by rw [←hzw];rfl,rfl⟩
   · rw [if_neg q2] at hV;have hhiI:((k:Int)+1)*64-(b:Int)≤0:=xo;clear hAd hbd hlo;subst hV;go_enter Tryz.func158,Tryz.ntmps158
     go_wp2
     go_ret
     exact ⟨rfl,rfl⟩
 · rw [if_neg q1] at hAd;subst hAd;have hloI:(a:Int)-(k:Int)*64≤0:=xo;by_cases q2:b<64*k+64
   · rw [if_pos q2] at hV;obtain ⟨hi,hhi⟩:∃hi,64*k+64-b=hi:=⟨_,rfl⟩
     have hhiI:((k:Int)+1)*64-(b:Int)=(hi:Int):=xo;have hhi64:hi<64:=xo;have hhi0:0<hi:=xo;rw [hhi] at hV;have hzw:IntKind.u64.wrap (y*2^hi)/2^hi=z:=by rw [hV,IntKind.wrap_u64];rfl
     clear hV hhi;go_enter Tryz.func158,Tryz.ntmps158
     go_wp2
     go_ret
     exact ⟨by rw [←hzw];rfl,rfl⟩
   · rw [if_neg q2] at hV;have hhiI:((k:Int)+1)*64-(b:Int)≤0:=xo;subst hV;go_enter Tryz.func158,Tryz.ntmps158
     go_wp2
     go_ret
     exact ⟨rfl,rfl⟩
def KpS (S:Nat→Prop) (W W':World):Prop:=∀k,S k→W'.heap[k]? =W.heap[k]?
theorem KpS.cell {S:Nat→Prop} {W W':World} (h:KpS S W W') {a:Addr} {v:Value} (ha:S a.block) (hc:W.cell? a=some v):W'.cell? a=some v:=by
 rw [World.cell?_of_block (w:=W) (h _ ha)];exact hc
theorem KpS.row {S:Nat→Prop} {W W':World} (h:KpS S W W') {k:IntKind} {a:Option Addr} {xs:List Int} (ha:∀x,a=some x→0<xs.length→S x.block) (hr:IsRow k W a xs):IsRow k W' a xs:=by
 intro i hi;obtain ⟨b,off,rfl,hlt,hc⟩:=hr i hi;have hb:S b:=ha ⟨b,off,none⟩ rfl xo;refine ⟨b,off,rfl,?_,fun j hj=>h.cell (a:=⟨b,off+j,none⟩) hb (hc j hj)⟩;exact World.block_lt_of_cell? _ _ (h.cell (a:=⟨b,off+i,none⟩) hb (hc i hi))
theorem parts1_iter (wa:Option Addr) (wc:Nat) (ws:List Int) (hu:U64s ws) (a b:Nat) (hab:a≤b) (hbb:b≤65536) (hl:b≤64*ws.length) (hl2:ws.length≤9223372036854775807) (S:Nat→Prop) (b1 b2 b3:Nat) (s1:S b1) (s2:S b2) (s3:S b3) (sw:∀x,wa=some x→0<ws.length→S x.block) (w:World) (hw:IsRow .u64 w wa ws)
    (c1:w.cell? ⟨b1,0,none⟩=some (.slice wa ws.length wc)) (c2:w.cell? ⟨b2,0,none⟩=some (.int .i64 a)) (c3:w.cell? ⟨b3,0,none⟩=some (.int .i64 b)):
    Iter Tryz.prog 157 #[.pointer (some ⟨b1,0,none⟩),.pointer (some ⟨b2,0,none⟩),.pointer (some ⟨b3,0,none⟩)] (partsL ws a b) (KpS S) w:=by
 intro l J Jx W hW hJ hJx hY h0;have d1:=(hW.cell (World.block_lt_of_cell? _ _ c1)).trans c1;have d2:=(hW.cell (World.block_lt_of_cell? _ _ c2)).trans c2;have d3:=(hW.cell (World.block_lt_of_cell? _ _ c3)).trans c3;have hw':=hw.below hW;have HY:=hid hY;have HW:=hid hw';have HC:=hid (fun k hk ha hb W hw c1 c2 c3=>cut_ok wa wc ws hu a b k hk ha hb hbb W hw b1 b2 b3 c1 c2 c3);have SW:=hid sw;have HL:=hid hl;obtain ⟨m,hm⟩:∃m,(b+63)/64-a/64=m:=⟨_,rfl⟩
 have HP:=hid (fun k (hk:k<m)=>partsL_get ws (a:=a) (b:=b) (k:=k) xo);have HPL:=hid ((partsL_length ws a b).trans hm);obtain ⟨q,hq⟩:∃q,a/64=q:=⟨_,rfl⟩
 have hqI:(a:Int)/64=(q:Int):=xo;rw [hq] at HP hm;have hqm:q+m≤2048:=xo;have HM:=hid (And.intro hm hq);obtain ⟨M,hML⟩:∃M,ws.length=M:=⟨_,rfl⟩
 rw [hML] at d1 HC HL hl2;clear hY hJ hJx c1 c2 c3 hw hw' sw hm hq hl hu hML;refine callsIn_of_wp Tryz.func157 rfl trivial ?_ rfl;simp only [Tryz.ntmps157,List.size_toArray,List.length_cons,List.length_nil,Nat.reduceAdd,Nat.reduceSub,Array.replicate_succ,Array.replicate_zero,List.push_toArray,List.append_toArray,List.nil_append,List.cons_append];gi_wp2
 gi_loopg [6] m (fun g iv wr=>∃k p:Nat,k+g=m∧Hid (p=q+k)∧p≤2048∧iv= .int .i64 (p:Int)∧J k wr∧wr.cell? ⟨b1,0,none⟩=some (.slice wa M wc)∧wr.cell? ⟨b2,0,none⟩=some (.int .i64 a)∧wr.cell? ⟨b3,0,none⟩=some (.int .i64 b)∧Hid (IsRow .u64 wr wa ws))
 case atStart=>exact ⟨0,q,by omega,hid rfl,by omega,rfl,h0,d1,d2,d3,HW⟩
 case round=>
  obtain ⟨k,p,hk,HP2,hp2,rfl,hJk,e1,e2,e3,HR⟩:=hrel;by_cases hlt:k<m
  · obtain ⟨fn,tmps,assign,body,hy,hR⟩:=HY.out k wr (by rw [HPL.out];exact hlt) hJk;rw [HP.out k hlt,←HP2.out] at hy;have hqb:64*p<b:=by have:=HM.out;have:=HP2.out;omega
    have hcut:=HC.out p (by have:=HL.out;omega) (by have:=HM.out;have:=HP2.out;omega) hqb wr HR.out e1 e2 e3;have HCU:=hid hcut;have hqI2:((64*p:Nat):Int)=(p:Int)*64:=xo;have hqI3:(p:Int)*64<(b:Int):=xo;obtain ⟨x,hx⟩:∃x,cutV ws a b p=x:=⟨_,rfl⟩
    rw [hx,hqI2] at hy;rw [hx] at HCU;have HK:=hid hk;clear hcut hx hJk hqI2 hk;gi_wp2_with fail
    refine ⟨trivial,rfl,(callsIn_wide.2 HCU.out).mono ?_⟩;rintro e w' ⟨rfl,rfl⟩;gi_wp2
    refine ⟨rfl,hR.mono ?_⟩;rintro e W3 (⟨rfl,hJ3,hk3⟩ | ⟨rfl,hJx3⟩)
    · have g1:=hk3.cell (a:=⟨b1,0,none⟩) s1 e1;have g2:=hk3.cell (a:=⟨b2,0,none⟩) s2 e2;have g3:=hk3.cell (a:=⟨b3,0,none⟩) s3 e3;have HR3:=hid (hk3.row SW.out HR.out);have HJ3:=hid hJ3;clear hk3 hJ3 e1 e2 e3 HCU;gi_wp2
      gi_roundg (gk-1)
      case measure=>have:=HK.out;omega
      case rel=>exact ⟨k+1,p+1,by have:=HK.out;omega,hid (by have:=HP2.out;omega),by have:=HM.out;have:=HP2.out;omega,by go_num,HJ3.out,g1,g2,g3,HR3⟩
    · have HJ3:=hid hJx3;clear hJx3;gi_wp2
      exact bodyPost_ret (results_none rfl _ _ _) rfl ⟨⟨_,rfl⟩,.inr ⟨k+1,by rw [HPL.out];omega,HJ3.out⟩⟩
  · have hkm:k=m:=xo;have hqb:b≤64*p:=by have:=HM.out;have:=HP2.out;omega
    have hqI3:(b:Int)≤(p:Int)*64:=xo;have HJ:=hid hJk;clear hJk;gi_wp2
    refine bodyPost_end (results_none rfl _ _ _) rfl ⟨⟨_,rfl⟩,.inl ?_⟩;rw [HPL.out,←hkm];exact HJ.out
theorem parts_ok (wa:Option Addr) (n wc:Nat) (a b:Int) (w:World):
    Calls Tryz.prog 147 #[.slice wa n wc,.int .i64 a,.int .i64 b] w fun e w'=>e= .returned (.func (.func 157) #[] #[.pointer (some ⟨w.heap.size,0,none⟩),.pointer (some ⟨w.heap.size+1,0,none⟩),.pointer (some ⟨w.heap.size+2,0,none⟩)])∧
      w'=((w.alloc (.cells #[.slice wa n wc] 24)).alloc (.cells #[.int .i64 a] 3)).alloc (.cells #[.int .i64 b] 3):=by
 go_enter Tryz.func147,Tryz.ntmps147
 go_wp2
 go_ret
 exact ⟨rfl,rfl⟩
end
section
open Go.RowKit
section
variable {F:Fence} {dp:Nat} {P:Program} {ops:Array Oper} {Q:Exit→Act→World→Prop}
def ClosedL (ops:Array Oper) (L:Array Bool):Prop:=∀(j:Nat) (p:Oper),ops[j]? =some p→L.getD j false=true→∀e ∈ p.after,Region.binds .any e=true→L.getD e.on false=true
theorem ClosedL.set {L:Array Bool} {i:Nat} {o:Oper} (h:ClosedL ops L) (hi:i<L.size) (ho:ops[i]? =some o) (hall:∀e ∈ o.after,Region.binds .any e=true→L.getD e.on false=true):ClosedL ops (L.setIfInBounds i true):=by
 have keep:∀k,L.getD k false=true→(L.setIfInBounds i true).getD k false=true:=by
  intro k hk;by_cases e:k=i
  · subst e;exact set_same hi
  · rw [set_else e];exact hk
 intro j p hp hj e he hb;by_cases ej:j=i
 · subst ej;obtain rfl:p=o:=Option.some.inj (hp.symm.trans ho);exact keep _ (hall e he hb)
 · rw [set_else ej] at hj;exact keep _ (h j p hp hj e he hb)
def maskOf (acc:List Nat) (o:Oper):Nat:=o.after.toList.foldl (fun m e=>if Region.binds .any e then m ||| (2^e.on ||| acc.getD e.on 0) else m) 0
def masksOf:List Oper→List Nat→List Nat
  | [],acc=>acc
  | o::r,acc=>masksOf r (acc++[maskOf acc o])
theorem mask_bit (acc:List Nat):∀(es:List Edge) (m j:Nat),(es.foldl (fun m e=>if Region.binds .any e then m ||| (2^e.on ||| acc.getD e.on 0) else m) m).testBit j=true→
    m.testBit j=true∨∃e ∈ es,Region.binds .any e=true∧(j=e.on∨(acc.getD e.on 0).testBit j=true):=by
 intro es;induction es with
 | nil=>intro m j h;exact .inl h
 | cons e r ih=>
  intro m j h;rw [List.foldl_cons] at h;rcases ih _ j h with h1 | ⟨e',he',hb,h1⟩
  · by_cases hb:Region.binds .any e=true
    · rw [if_pos hb,Nat.testBit_or,Nat.testBit_or,Bool.or_eq_true,Bool.or_eq_true] at h1;rcases h1 with h1|h1|h1
      · exact .inl h1
      · refine .inr ⟨e,by simp,hb,.inl ?_⟩;rw [Nat.testBit_two_pow,decide_eq_true_eq] at h1;exact h1.symm
      · exact .inr ⟨e,by simp,hb,.inr h1⟩
    · rw [if_neg hb] at h1;exact .inl h1
  · exact .inr ⟨e',by simp [he'],hb,h1⟩
def GoodM (l:List Oper) (L:Array Bool) (i m:Nat):Prop:=∀o,l[i]? =some o→(∀e ∈ o.after,Region.binds .any e=true→L.getD e.on false=true)→∀j,m.testBit j=true→L.getD j false=true
theorem masks_sound {l:List Oper} {L:Array Bool} (hcl:ClosedL l.toArray L):∀(r:List Oper) (acc:List Nat) (k:Nat),acc.length=k→(∀j,r[j]? =l[k+j]?)→(∀i,i<k→GoodM l L i (acc.getD i 0))→∀i,GoodM l L i ((masksOf r acc).getD i 0):=by
 intro r;induction r with
 | nil=>
  intro acc k hk hr hg i;by_cases h:i<k
  · exact hg i h
  · intro o ho _ j hj;rw [masksOf,List.getD_eq_getElem?_getD,List.getElem?_eq_none xo] at hj;simp at hj
 | cons o r ih=>
  intro acc k hk hr hg;rw [masksOf];refine ih _ (k+1) (by simp [hk]) (fun j=>by have:=hr (j+1);rw [List.getElem?_cons_succ] at this;rw [this];congr 1;omega) ?_;intro i hi;by_cases h:i<k
  · rw [List.getD_eq_getElem?_getD,List.getElem?_append_left xo,←List.getD_eq_getElem?_getD];exact hg i h
  · have hik:i=k:=xo;subst hik;rw [List.getD_eq_getElem?_getD,List.getElem?_append_right xo];intro o' ho' hall j hj;have ho:l[i]? =some o:=by have:=hr 0;simpa using this.symm
    obtain rfl:o'=o:=Option.some.inj (ho'.symm.trans ho);simp only [hk,Nat.sub_self,List.getElem?_cons_zero,Option.getD_some] at hj;rcases mask_bit acc _ _ _ hj with h0 | ⟨e,he,hb,h1⟩
    · simp at h0
    · have hl:=hall e (by simpa using he) hb;rcases h1 with rfl|h1
      · exact hl
      · by_cases hek:e.on<i
        · have hlen:i<l.length:=(List.getElem?_eq_some_iff.1 ho).1;have hoe:l[e.on]? =some (l[e.on]'xo):=List.getElem?_eq_getElem xo;exact hg e.on hek _ hoe (fun e2 he2 hb2=>hcl e.on _ (by rw [List.getElem?_toArray];exact hoe) hl e2 he2 hb2) j h1
        · rw [List.getD_eq_getElem?_getD,List.getElem?_eq_none xo] at h1;simp at h1
def tailM (l:List Oper) (n:Nat):Bool:=
  (List.range l.length).all fun i=>decide (i<n)||(decide ((masksOf l []).getD i 0%2^i=2^i-1)&&match l[i]? with|some o=>o.after.all (fun e=> !Region.binds .any e||decide (e.on<i))|none=>true)
theorem wpAnyIn_inv (I:Array Bool→Act→World→Prop)
    (hac:∀(i:Nat) (o:Oper),ops[i]? =some o→∀e ∈ o.after,Region.binds .any e=true→e.on<i)
    (step:∀(L:Array Bool) (a:Act) (w:World) (i:Nat) (o:Oper),L.size=ops.size→ops[i]? =some o→L.getD i false=false→
      (∀e ∈ o.after,Region.binds .any e=true→L.getD e.on false=true)→ClosedL ops L→I L a w→wpOpIn F dp P ops Q i (I (L.setIfInBounds i true)) a w)
    (done:∀(L:Array Bool) (a:Act) (w:World),L.size=ops.size→(∀i,i<ops.size→L.getD i false=true)→I L a w→Q .normal a w):
    ∀(f:Nat) (L:Array Bool) (a:Act) (w:World),L.size=ops.size→leftOf L ops.size≤f→ClosedL ops L→I L a w→wpAnyIn F dp P .any ops Q f L a w:=by
 have none_ready:∀(L:Array Bool),L.size=ops.size→Region.ready .any ops L=[]→∀i,i<ops.size→L.getD i false=true:=by
  intro L hs hr i;induction i using Nat.strongRecOn with
  | ind i ih=>
   intro hi;cases hc:L.getD i false with
   | true=>rfl
   | false=>
    have hm:i ∈ Region.ready .any ops L:=by
     refine mem_ready.2 ⟨?_,ops[i],Array.getElem?_eq_some_iff.2 ⟨hi,rfl⟩,fun e he hb=> ?_⟩
     · have h1:i<L.size:=xo;simp [h1] at hc ⊢;exact hc
     · have:=hac i ops[i] (Array.getElem?_eq_some_iff.2 ⟨hi,rfl⟩) e he hb;exact ih e.on this xo
    rw [hr] at hm;cases hm
 intro f;induction f with
 | zero=>
  intro L a w hs hl hcl hI;have hall:=leftOf_zero (L:=L) ops.size xo;refine ⟨?_,done L a w hs hall hI⟩;rw [List.eq_nil_iff_forall_not_mem];intro i hi;obtain ⟨h1,o,ho,_⟩:=mem_ready.1 hi;have hlt:=(Array.getElem?_eq_some_iff.1 ho).1;have h2:=hall i hlt;have h3:i<L.size:=xo;simp [h3] at h1 h2;rw [h1] at h2;cases h2
 | succ f ih=>
  intro L a w hs hl hcl hI;refine ⟨fun hr=>done L a w hs (none_ready L hs hr) hI,fun i hi=> ?_⟩;obtain ⟨h1,o,ho,hall⟩:=mem_ready.1 hi;have hlt:=(Array.getElem?_eq_some_iff.1 ho).1;have h3:i<L.size:=xo;have h4:L.getD i false=false:=by simp [h3] at h1 ⊢;exact h1
  refine wpOpIn_mono (fun a' w' hI'=>ih _ a' w' (by simpa using hs) ?_ (hcl.set h3 ho hall) hI') (step L a w i o hs ho h4 hall hcl hI);have:=leftOf_set h3 h4 ops.size hlt;omega
def OpOkG (F:Fence) (dp:Nat) (P:Program) (ops:Array Oper) (Q:Exit→Act→World→Prop) (D:List Nat) (t0:Array Value) (n:Nat) (ds:List Deferred) (J:World→Prop) (Ext:World→World→Prop) (G:Nat→Value→World→Prop) (k:Nat) (o:Oper):Prop:=
  ∀ (u:Nat→Value) (a:Act) (w:World),(∀t,t<n→a.tmps.getD t undef=mixAt D u t0 t)→J w→
    (∀(j:Nat) (p:Oper),(o.after.any fun e=>Region.binds .any e&&e.on==j)=true→ops[j]? =some p→G j (valOf u p) w)→
    ∀K:Act→World→Prop,(∀v w',(o.dst=none→v=undef)→J w'→G k v w'→Ext w w'→K (a.put o.dst v) w')→if Region.wanted o (yielded ops a.tmps) then o.wpIn F dp P a w K Q else (∀f,o.about P w a.eval=some f→F.fn f)∧K (a.put o.dst undef) w
def OpsOkG (F:Fence) (dp:Nat) (P:Program) (ops:Array Oper) (Q:Exit→Act→World→Prop) (D:List Nat) (t0:Array Value) (n:Nat) (ds:List Deferred) (J:World→Prop) (Ext:World→World→Prop) (G:Nat→Value→World→Prop):Nat→List Oper→Prop
  | _,[]=>True
  | k,o::rest=>OpOkG F dp P ops Q D t0 n ds J Ext G k o∧OpsOkG F dp P ops Q D t0 n ds J Ext G (k+1) rest
theorem OpsOkG.at {D:List Nat} {t0:Array Value} {n:Nat} {ds:List Deferred} {J:World→Prop} {Ext:World→World→Prop} {G:Nat→Value→World→Prop}:∀ {l:List Oper} {k:Nat},OpsOkG F dp P ops Q D t0 n ds J Ext G k l→∀ {i:Nat} {o:Oper},l[i]? =some o→OpOkG F dp P ops Q D t0 n ds J Ext G (k+i) o
  | [],_,_,i,o,ho=>by simp at ho
  | x::rest,k,h,0,o,ho=>by simp at ho;subst ho;exact h.1
  | x::rest,k,h,i+1,o,ho=>by
   have:=OpsOkG.at h.2 (i:=i) (o:=o) (by simpa using ho);rwa [Nat.add_assoc,Nat.add_comm 1 i] at this
theorem wpOpIn_of_list {l:List Oper} {i:Nat} {o:Oper} {a:Act} {w:World} (ho:l[i]? =some o) (h:wpListIn F dp P l.toArray Q (l.drop i) a w):wpOpIn F dp P l.toArray Q i (wpListIn F dp P l.toArray Q (l.drop (i+1))) a w:=by
 have hi:=(List.getElem?_eq_some_iff.1 ho).1;have hd:l.drop i=o::l.drop (i+1):=by
  rw [List.drop_eq_getElem_cons hi];congr 1
  exact (List.getElem?_eq_some_iff.1 ho).2
 rw [hd] at h;unfold wpOpIn;simp only [List.getElem?_toArray,ho];exact h
def regionG (l:List Oper) (n:Nat):Bool:=
  (dstsOf l).Nodup&&(dstsOf l).all (fun d=>decide (d<n)) &&
  (List.range l.length).all fun i=>match l[i]? with|some o=>o.after.all fun e=> !Region.binds .any e||decide (e.on<i)|none=>true
theorem wpIn_region_facts {id:Nat} {l:List Oper} {t0:Array Value} {ds:List Deferred} {w0:World} {N:Nat} (n:Nat) (hm:P.follows .mixedOrders=true) (hn:t0.size=N) (hB:regionG (l.take n) N=true) (hT:tailM l n=true) (hle:n≤l.length)
    (J:World→Prop) (Ext:World→World→Prop) (G:Nat→Value→World→Prop) (hst:∀k x w w',Ext w w'→G k x w→G k x w') (hJ:J w0.drew)
    (hop:OpsOkG F dp P l.toArray Q (dstsOf (l.take n)) t0 N ds J Ext G 0 (l.take n))
    (hdone:∀(u:Nat→Value) (w:World),J w→(∀(k:Nat) (o:Oper),(l.take n)[k]? =some o→G k (valOf u o) w)→wpListIn F dp P l.toArray Q (l.drop n) {tmps:=mixFrame (dstsOf (l.take n)) u t0,defers:=ds} w):
    (Code.region id l.toArray true).wpIn F dp P Q {tmps:=t0,defers:=ds} w0:=by
 subst hn;simp only [regionG,Bool.and_eq_true,List.all_eq_true,decide_eq_true_eq] at hB;obtain ⟨⟨hnd,hlt⟩,hac⟩:=hB;simp only [tailM,List.all_eq_true,List.mem_range,Bool.or_eq_true,decide_eq_true_eq] at hT;have htk:∀ {k:Nat} {o:Oper},(l.take n)[k]? =some o↔k<n∧l[k]? =some o:=by
  intro k o;rw [List.getElem?_take];by_cases h:k<n
  · rw [if_pos h];exact ⟨fun h1=>⟨h,h1⟩,fun h1=>h1.2⟩
  · rw [if_neg h];exact ⟨fun h1=>(by cases h1),fun h1=>absurd h1.1 h⟩
 refine wpIn_region_any hm (wpAnyIn_inv (F:=F) (dp:=dp) (ops:=l.toArray)
   (fun L a w=>((∀i,n≤i→L.getD i false=false)∧∃u:Nat→Value,a= {tmps:=mixFrame (dstsOf (l.take n)) u t0,defers:=ds}∧J w∧∀(k:Nat) (o:Oper),(l.take n)[k]? =some o→L.getD k false=true→G k (valOf u o) w) ∨
     (∃m,n≤m∧m≤l.length∧(∀i,i<m→L.getD i false=true)∧(∀i,m≤i→L.getD i false=false)∧wpListIn F dp P l.toArray Q (l.drop m) a w))
   ?_ ?_ ?_ _ _ _ _ xsi (leftOf_le _ _) (fun j p hp hj=>by simp [Array.getD] at hj) (.inl ⟨fun i _=>by rw [List.size_toArray];simp [Array.getD],fun t=>t0.getD t undef,by rw [mixFrame_start],hJ,fun k o _ h=> ?_⟩))
 · intro i o ho e he hb;have hi:i<l.length:=(Array.getElem?_eq_some_iff.1 ho).1;rw [List.getElem?_toArray] at ho;by_cases hin:i<n
   · have h1:(l.take n)[i]? =some o:=htk.2 ⟨hin,ho⟩;have:=hac i (List.mem_range.2 (List.getElem?_eq_some_iff.1 h1).1);rw [h1] at this;have h2:=Array.all_eq_true_iff_forall_mem.1 this e he;rw [hb] at h2;simpa using h2
   · have h1:=hT i hi;rcases h1 with h1|h1
     · omega
     · rw [ho] at h1;simp only [Bool.and_eq_true] at h1;have h2:=Array.all_eq_true_iff_forall_mem.1 h1.2 e he;rw [hb] at h2;simpa using h2
 · rintro L a w i o hs ho hi hall hcl hI;rw [List.getElem?_toArray] at ho;have hil:i<l.length:=(List.getElem?_eq_some_iff.1 ho).1;have hilt:i<L.size:=by rw [hs];simpa using hil
   have ahead:n≤i→∀j,j<i→L.getD j false=true:=by
    intro hin j hj;have h1:=hT i hil;rcases h1 with h1|h1
    · omega
    · simp only [Bool.and_eq_true,decide_eq_true_eq] at h1;have hbit:((masksOf l []).getD i 0).testBit j=true:=by
       have h2:=congrArg (fun m=>Nat.testBit m j) h1.1;simp only [Nat.testBit_mod_two_pow,Nat.testBit_two_pow_sub_one,decide_eq_true hj,Bool.true_and] at h2;exact h2
      exact masks_sound hcl l [] 0 rfl (fun j=>by rw [Nat.zero_add]) (fun i hi=>by omega) i o ho hall j hbit
   have later:∀(m:Nat),n≤m→m=i→(∀j,m≤j→L.getD j false=false)→(∀j,j<m→L.getD j false=true)→wpListIn F dp P l.toArray Q (l.drop m) a w→
       wpOpIn F dp P l.toArray Q i (fun a' w'=>((∀k,n≤k→(L.setIfInBounds i true).getD k false=false)∧∃u:Nat→Value,a'= {tmps:=mixFrame (dstsOf (l.take n)) u t0,defers:=ds}∧J w'∧∀(k:Nat) (o:Oper),(l.take n)[k]? =some o→(L.setIfInBounds i true).getD k false=true→G k (valOf u o) w') ∨
         (∃m,n≤m∧m≤l.length∧(∀k,k<m→(L.setIfInBounds i true).getD k false=true)∧(∀k,m≤k→(L.setIfInBounds i true).getD k false=false)∧wpListIn F dp P l.toArray Q (l.drop m) a' w')) a w:=by
    rintro m hnm rfl hno hyes hw;refine wpOpIn_mono (fun a' w' h=> .inr ⟨m+1,by omega,by omega,fun k hk=> ?_,fun k hk=> ?_,h⟩) (wpOpIn_of_list ho hw)
    · by_cases e:k=m
      · subst e;exact set_same hilt
      · rw [set_else e];exact hyes k xo
    · rw [set_else xo];exact hno k xo
   rcases hI with ⟨hno,u,rfl,hJw,hG⟩ | ⟨m,hnm,hml,hyes,hno,hw⟩
   · by_cases hin:i<n
     · have htki:(l.take n)[i]? =some o:=htk.2 ⟨hin,ho⟩;have hok:=hop.at htki;rw [Nat.zero_add] at hok;unfold wpOpIn;simp only [List.getElem?_toArray,ho];refine hok u {tmps:=mixFrame (dstsOf (l.take n)) u t0,defers:=ds} w (fun t ht=>mixFrame_get ht) hJw (fun j p hj hp=> ?_) _ (fun v w' hv hJ' hG' hE=> ?_)
       · rw [List.getElem?_toArray] at hp;obtain ⟨e,he,hbe⟩:=Array.any_eq_true.1 hj;simp only [Bool.and_eq_true,beq_iff_eq] at hbe;have hl:=hall _ (Array.getElem_mem he) hbe.1;rw [hbe.2] at hl;have hjn:j<n:=by
          by_cases h:j<n
          · exact h
          · rw [hno j xo] at hl;cases hl
         exact hG j p (htk.2 ⟨hjn,hp⟩) hl
       · refine Or.inl ⟨fun k hk=>by rw [set_else xo];exact hno k hk,?_⟩;cases hd:o.dst with
         | none=>
          refine ⟨u,rfl,hJ',fun k p hp hk=> ?_⟩;by_cases e:k=i
          · subst e;obtain rfl:p=o:=Option.some.inj (hp.symm.trans htki);have:valOf u p=undef:=by simp [valOf,hd]
            rw [this,←hv hd];exact hG'
          · rw [set_else e] at hk;exact hst _ _ _ _ hE (hG k p hp hk)
         | some d=>
          have hdm:(dstsOf (l.take n)).contains d=true:=by
           simp only [List.contains_iff_mem];exact List.mem_filterMap.2 ⟨o,List.mem_of_getElem? htki,hd⟩
          refine ⟨fun t=>if t=d then v else u t,by simp only [Act.put,mixFrame_put hdm],hJ',fun k p hp hk=> ?_⟩;by_cases e:k=i
          · subst e;obtain rfl:p=o:=Option.some.inj (hp.symm.trans htki);simpa [valOf,hd] using hG'
          · rw [set_else e] at hk;have hne:=nodup_slot hnd htki hp (fun h=>e h.symm) hd;have:valOf (fun t=>if t=d then v else u t) p=valOf u p:=by
             unfold valOf;cases hpd:p.dst with
             | none=>rfl
             | some d'=>exact if_neg (fun h=>hne (by rw [hpd,h]))
            rw [this];exact hst _ _ _ _ hE (hG k p hp hk)
     · have hin':n=i:=by
         by_cases e:n=i
         · exact e
         · have:=ahead xo n xo;rw [hno n (Nat.le_refl _)] at this;cases this
       refine later n (Nat.le_refl _) hin' hno (fun j hj=>ahead xo j xo) (hdone u w hJw fun k p hp=>hG k p hp (ahead xo k ?_));have:=(htk.1 hp).1;omega
   · have him:m≤i:=by
       by_cases h:m≤i
       · exact h
       · have:=hyes i xo;rw [hi] at this;cases this
     have hmi:m=i:=by
      by_cases e:m=i
      · exact e
      · have:=ahead xo m xo;rw [hno m (Nat.le_refl _)] at this;cases this
     exact later m hnm hmi hno hyes hw
 · rintro L a w hs hall hI;rw [List.size_toArray] at hall;rcases hI with ⟨hno,u,rfl,hJw,hG⟩ | ⟨m,hnm,hml,hyes,hno,hw⟩
   · have hnl:n=l.length:=by
       by_cases e:n=l.length
       · exact e
       · have:=hall n xo;rw [hno n (Nat.le_refl _)] at this;cases this
     have hq:=hdone u w hJw fun k p hp=>hG k p hp (hall k (by have:=(htk.1 hp).1;omega))
     have hd:l.drop n=[]:=by rw [hnl];exact List.drop_length
     rw [hd] at hq;exact hq
   · have hml':m=l.length:=by
       by_cases e:m=l.length
       · exact e
       · have:=hall m xo;rw [hno m (Nat.le_refl _)] at this;cases this
     rw [hml',List.drop_length] at hw;exact hw
 · rw [List.size_toArray] at h;simp [Array.getD] at h
end
theorem wanted_yes {ops:Array Oper} {tmps:Array Value} {o:Oper} {j t:Nat} {b:Bool} (hg:o.guard=some (j,b)) (hd:(ops[j]?).bind (·.dst)=some t) (h:tmps.getD t undef= .bool b):Region.wanted o (yielded ops tmps)=true:=by
 have h2:tmps[t]? =some (.bool b):=by
  cases hx:tmps[t]? with
  | none=>rw [Array.getD_eq_getD_getElem?,hx] at h;cases h
  | some v=>rw [Array.getD_eq_getD_getElem?,hx] at h;simp at h;rw [h]
 simp [Region.wanted,hg,yielded,hd,h2]
theorem wanted_no {ops:Array Oper} {tmps:Array Value} {o:Oper} {j t:Nat} {b:Bool} (hg:o.guard=some (j,b)) (hd:(ops[j]?).bind (·.dst)=some t) (h:tmps.getD t undef= .bool (!b)):Region.wanted o (yielded ops tmps)=false:=by
 have h2:tmps[t]? =some (.bool (!b)):=by
  cases hx:tmps[t]? with
  | none=>rw [Array.getD_eq_getD_getElem?,hx] at h;cases h
  | some v=>rw [Array.getD_eq_getD_getElem?,hx] at h;simp at h;rw [h]
 simp [Region.wanted,hg,yielded,hd,h2]
theorem wanted_free {ops:Array Oper} {tmps:Array Value} {o:Oper} (hg:o.guard=none):Region.wanted o (yielded ops tmps)=true:=by simp [Region.wanted,hg]
end
section
open Go.RowKit Go.Shelf
attribute [local go_sem] Oper.semAt_some
def AnsB (w:World) (v:Value) (e:Ending) (w':World):Prop:=e= .returned v∧Below w.heap.size w w'
structure CntI (ws:List Int) (a b bo B:Nat) (w:World) (k:Nat) (W:World):Prop where
 box:W.cell? ⟨bo,0,none⟩=some (.int .i64 (cntP ws a b k))
 fz:W.frozen? ⟨bo,0,none⟩=false
 bel:Below B w W
theorem CntI.calm {ws:List Int} {a b bo B M:Nat} {w:World} {k:Nat} {W W':World} (h:CntI ws a b bo B w k W) (hc:Calm M W W') (hB:B≤M):CntI ws a b bo B w k W':=
  ⟨hc.cell h.box,hc.frozen h.box h.fz,hc.below hB h.bel⟩
theorem Count_ok (wa:Option Addr) (wc:Nat) (ws:List Int) (hu:U64s ws) (n a b:Nat) (hn:n≤65536) (hl:ws.length≤9223372036854775807) (hmay:wMayB ws n=true) (hab:a≤b) (hbn:b≤n) (w:World) (hw:IsRow .u64 w wa ws):
    Calls Tryz.prog 129 #[.slice wa ws.length wc,.int .i64 n,.int .i64 a,.int .i64 b] w (AnsB w (.tuple #[.int .i64 (cntW ws a b),.int .i64 0])):=by
 have AK:=hid (fun w hw=>asked_ok wa wc ws hu n hn hl hmay w hw);have hlen:n≤64*ws.length:=by
  simp only [wMayB,Bool.and_eq_true,decide_eq_true_eq] at hmay;omega
 have IT:=hid (fun S b1 b2 b3 s1 s2 s3 sw w hw c1 c2 c3=>parts1_iter wa wc ws hu a b hab xo xo hl S b1 b2 b3 s1 s2 s3 sw w hw c1 c2 c3);have HW:=hid hw;have HC:=hid (cntP_all hu hab);have HLT:=hid (fun x (h:wa=some x) (h0:0<ws.length)=>(show x.block<w.heap.size from by
  obtain ⟨bb,off,x',hx,-,-,hlt⟩:=hw.get h0;rw [hx] at h;cases h;exact hlt))
 obtain ⟨m,hm⟩:∃m,(b+63)/64-a/64=m:=⟨_,rfl⟩
 have HP:=hid (fun k (hk:k<m)=>partsL_get ws (a:=a) (b:=b) (k:=k) xo);have HPL:=hid ((partsL_length ws a b).trans hm);have HV:=hid (fun k (hk:k<m)=>cutV_bd hu (a:=a) (b:=b) (k:=a/64+k) xo);have HLE:=hid (cntP_le (ws:=ws) a b);have HS:=hid (cntP_succ ws a b);have hmb:m≤1024:=xo;rw [hm] at HC;obtain ⟨M,hM⟩:∃M,ws.length=M:=⟨_,rfl⟩
 have HM:=hid hM;rw [hM] at hlen hl AK IT HLT ⊢;clear hw hmay hM hu hm;refine calls_of_wp_m Tryz.func129 rfl ?_;simp only [Tryz.ntmps129,List.size_toArray,List.length_cons,List.length_nil,Nat.reduceAdd,Nat.reduceSub,Array.replicate_succ,Array.replicate_zero,List.push_toArray,List.append_toArray,List.nil_append,List.cons_append];go_wp2_with fail
 refine (AK.out _ (HW.out.below (br.alloc (Nat.le_refl _) _))).mono ?_;rintro e w' ⟨rfl,rfl⟩;go_wp2_with fail
 refine (parts_ok wa M wc a b _).mono ?_;rintro e w2 ⟨rfl,rfl⟩;go_wp2
 refine wp_range (xs:=partsL ws a b) (Kp:=KpS (fun k=>k≠w.heap.size∧k<w.heap.size+4)) rfl (enters_of Tryz.func157 xk rfl)
   (IT.out (fun k=>k≠w.heap.size∧k<w.heap.size+4) (w.heap.size+1) (w.heap.size+1+1) (w.heap.size+1+2) xo xo xo ?sw _ ?hw ?c1 ?c2 ?c3) br (fun _ _ _=>rfl) (fun h k=>fun i hi=>(k i hi).trans (h i hi)) ?kb ?ps
   (CntI ws a b w.heap.size w.heap.size w) (fun _ _=>False) ?hI (fun _ _ _ h _=>h) ?h0 ?round ?done (fun _ _ _ _ h _=>h.elim)
 case sw=>intro x hx h0;have:=HLT.out x hx h0;omega
 case hw=>exact HW.out.below xbel
 case c1=>(exact xcn)
 case c2=>(exact xcn)
 case c3=>(exact xcn)
 case kb=>
  intro W l o o' hl _ _ k hk;simp at hl;exact World.putObj_heap_other xo
 case ps=>
  intro x hx;simp only [partsL,List.mem_map] at hx;obtain ⟨k,_,rfl⟩:=hx;rfl
 case hI=>
  intro k W W' h hc;exact h.calm hc (by simp;omega)
 case h0=>
  exact ⟨by rw [cntP_zero];(exact xcn),by (exact xcn),by (exact xbel)⟩
 case round=>
  intro l k W hl hk hi;rw [HPL.out] at hk;rw [HP.out k hk];have hv:=HV.out k hk;have h1:=HLE.out k;have h2:=popI_le (cutV ws a b (a/64+k));have h3:=HS.out k;have O1:=hid (fun W=>Ones_ok (cutV ws a b (a/64+k)) hv.1 hv.2 W);generalize cutV ws a b (a/64+k)=x at *;generalize popI x=px at *;gi_wp2
  refine ⟨rfl,?_⟩;intro W2 hi2;have hcb:=hi2.box;have hfz:=hi2.fz;generalize cntP ws a b k=s at *;have H3:=hid h3;clear h3;gi_wp2
  refine wpIn_region_facts 4 xk (N:=42) rfl xk xk xdd (fun w'=>w'=W2.drew) (Ext 29) (factAt [.is (.int .i64 s),.is (.int .u64 x),.is (.int .i64 px),.is (.int .i64 (s+px))]) (factAt_stays _) rfl ?steps ?fin
  case steps=>
   refine ⟨?o0,?o1,?o2,?o3,trivial⟩<;>intro u a w' ev hJ hd K hK
   case o0=>
    have e1:tg a 8= .pointer (some ⟨w.heap.size,0,none⟩):=ev 8 xdd;have HK:=hid hK;subst hJ;clear hK ev hd;rw [if_pos (wanted_free rfl)];go_simp;exact HK.out _ _ xzc rfl rfl (Ext.refl _ _)
   case o1=>
    have e1:tg a 12= .int .u64 x:=ev 12 xdd;have HK:=hid hK;subst hJ;clear hK ev hd;rw [if_pos (wanted_free rfl)];go_simp;exact HK.out _ _ xzc rfl rfl (Ext.refl _ _)
   case o2=>
    have e1:tg a 38= .int .u64 x:=(ev 38 xdd).trans (hd 1 _ xk rfl);have HK:=hid hK;subst hJ;clear hK ev hd;rw [if_pos (wanted_free rfl)];go_simp;refine ⟨trivial,rfl,(callsIn_wide.2 (O1.out _)).mono ?_⟩;rintro e w'' ⟨rfl,rfl⟩;exact HK.out _ _ xzc rfl rfl (Ext.refl _ _)
   case o3=>
    have e1:tg a 37= .int .i64 s:=(ev 37 xdd).trans (hd 0 _ xk rfl);have e2:tg a 39= .int .i64 px:=(ev 39 xdd).trans (hd 2 _ xk rfl);have HK:=hid hK;have hwr:IntKind.i64.wrap ((s:Int)+(px:Int))=(s:Int)+(px:Int):=IntWalk.i64_in _ xo;subst hJ;clear hK ev hd;rw [if_pos (wanted_free rfl)];go_simp;exact HK.out _ _ xzc rfl rfl (Ext.refl _ _)
  case fin=>
   intro u w2 hJ hG;have h3:u 40= .int .i64 (s+px):=hG 3 _ rfl;subst hJ;clear hG;simp only [mixFrame,mixL,dstsOf,List.take_succ_cons,List.take_zero,List.filterMap_cons,List.filterMap_nil,List.contains_cons,List.contains_nil,Nat.reduceBEq,Bool.or_false,Bool.false_or,Bool.or_true,Bool.true_or,if_true,if_false,Bool.false_eq_true,Nat.reduceAdd,Nat.zero_add,List.drop_succ_cons,List.drop_zero,h3];gi_wp2
   have e:((cntP ws a b (k+1):Nat):Int)=(s:Int)+(px:Int):=by rw [H3.out];push_cast;rfl
   refine ⟨(KeepsOthers.setCell W2 ⟨w.heap.size,0,none⟩ (.int .i64 ((s:Int)+px))).trans (keeps_drewN _ 1),fun i hi=>Below.heap_setCell W2 ⟨w.heap.size,0,none⟩ _ _ hi.1,⟨?_,?_,?_⟩⟩
   · rw [e];exact World.cell?_setCell_same _ _ _ hcb
   · rw [World.frozen?_drew,World.frozen?_setCell];exact hfz
   · exact (hi2.bel.setCell (Nat.le_refl _) _).drew
 case done=>
  intro D W hD hi hK;have hcb:=hi.box;have hfz:=hi.fz;rw [HPL.out,HC.out] at hcb;generalize cntW ws a b=s at *;go_wp2
  simp at hD;have hK2:(W.setCell ⟨w.heap.size,0,none⟩ (.int .i64 s)).heap[D]? =some (.deferred (some [])):=(Below.heap_setCell _ _ _ _ (by show D≠w.heap.size;omega)).trans hK;have hcalm:Calm (w.heap.size+1) (W.setCell ⟨w.heap.size,0,none⟩ (.int .i64 s)) ((W.setCell ⟨w.heap.size,0,none⟩ (.int .i64 s)).putObj D (.deferred none)):=Calm.putObj _ xo hK2 rfl;exact postM_one hK2 (results_ct rfl rfl (run_loadVar_one Tryz.underlying3 rfl (hcalm.cell (World.cell?_setCell_same _ _ _ hcb)))) ⟨rfl,hcalm.below xo (hi.bel.setCell (Nat.le_refl _) _)⟩
end
section
open Go.RowKit
end
section
open Go.RowKit Go.Shelf
attribute [local go_sem] Oper.semAt_some
def nx (ws:List Int) (a n:Nat):Option Nat:=(List.range' a (n-a)).find? (bitW ws)
structure NxI (ws:List Int) (a n b0 b1 B:Nat) (w:World) (k:Nat) (W:World):Prop where
 free:∀j,a≤j→j<64*(a/64+k)→j<n→bitW ws j=false
 box0:W.cell? ⟨b0,0,none⟩=some (.int .i64 0)
 box1:W.cell? ⟨b1,0,none⟩=some (.int .i64 0)
 fz0:W.frozen? ⟨b0,0,none⟩=false
 fz1:W.frozen? ⟨b1,0,none⟩=false
 bel:Below B w W
theorem NxI.calm {ws:List Int} {a n b0 b1 B M:Nat} {w:World} {k:Nat} {W W':World} (h:NxI ws a n b0 b1 B w k W) (hc:Calm M W W') (hB:B≤M):NxI ws a n b0 b1 B w k W':=
  ⟨h.free,hc.cell h.box0,hc.cell h.box1,hc.frozen h.box0 h.fz0,hc.frozen h.box1 h.fz1,hc.below hB h.bel⟩
structure NxX (ws:List Int) (a n b0 b1 B:Nat) (w:World) (c:Code) (W:World):Prop where
 code:c= .ret
 hit:∃i,nx ws a n=some i∧W.cell? ⟨b0,0,none⟩=some (.int .i64 i)
 box1:W.cell? ⟨b1,0,none⟩=some (.int .i64 0)
 bel:Below B w W
theorem NxX.calm {ws:List Int} {a n b0 b1 B M:Nat} {w:World} {c:Code} {W W':World} (h:NxX ws a n b0 b1 B w c W) (hc:Calm M W W') (hB:B≤M):NxX ws a n b0 b1 B w c W':=
  ⟨h.code,h.hit.imp fun i hi=>⟨hi.1,hc.cell hi.2⟩,hc.cell h.box1,hc.below hB h.bel⟩
end
section
def lay (L r:Nat):List Nat:=
  if h:L≤1 then [r] else lay (L/2) r++(List.range (2^(L/2))).flatMap fun i=>lay (L-L/2) (r*2^(L/2)+i)
termination_by L
decreasing_by all_goals omega
theorem lay_one (r:Nat):lay 1 r=[r]:=by rw [lay];simp
theorem lay_two {L:Nat} (h:2≤L) (r:Nat):lay L r=lay (L/2) r++(List.range (2^(L/2))).flatMap fun i=>lay (L-L/2) (r*2^(L/2)+i):=by
 rw [lay];simp [show ¬L≤1 by omega]
theorem length_flatMap_const {α : Type} (f:Nat→List α) (c:Nat) (hf:∀i,(f i).length=c):∀n,((List.range n).flatMap f).length=n*c:=by
 intro n;induction n with
 | zero=>simp
 | succ n ih=>rw [List.range_succ,List.flatMap_append,List.length_append,ih];simp [hf];rw [Nat.add_mul];simp
theorem lay_length:∀(m L r:Nat),L≤m→1≤L→(lay L r).length=2^L-1:=by
 intro m;induction m with
 | zero=>intro L r h1 h2;omega
 | succ m ih=>
  intro L r h1 h2;by_cases h:L=1
  · subst h;simp [lay_one]
  · rw [lay_two xo,List.length_append,ih _ _ xo xo,length_flatMap_const _ (2^(L-L/2)-1) (fun i=>ih _ _ xo xo)];have e:2^L=2^(L/2)*2^(L-L/2):=by rw [←Nat.pow_add];congr 1;omega
    have p1:=Nat.two_pow_pos (L/2);have p2:=Nat.two_pow_pos (L-L/2);rw [e,Nat.mul_sub];have:2^(L/2)*1≤2^(L/2)*2^(L-L/2):=Nat.mul_le_mul_left _ p2;omega
theorem lay_len {L:Nat} (r:Nat) (h:1≤L):(lay L r).length=2^L-1:=lay_length L L r (Nat.le_refl _) h
theorem lay_mem:∀(m L r:Nat),L≤m→1≤L→∀x ∈ lay L r,r≤x∧x<(r+1)*2^(L-1):=by
 intro m;induction m with
 | zero=>intro L r h1 h2;omega
 | succ m ih=>
  intro L r h1 h2 x hx;by_cases h:L=1
  · subst h;simp [lay_one] at hx;subst hx;simp
  · rw [lay_two xo,List.mem_append,List.mem_flatMap] at hx;rcases hx with hx | ⟨i,hi,hx⟩
    · obtain ⟨a,b⟩:=ih _ _ xo xo x hx;refine ⟨a,Nat.lt_of_lt_of_le b (Nat.mul_le_mul_left _ (Nat.pow_le_pow_right xo xo))⟩
    · rw [List.mem_range] at hi;obtain ⟨a,b⟩:=ih _ _ xo xo x hx;have p1:=Nat.two_pow_pos (L/2);constructor
      · have:=Nat.mul_le_mul_left r p1;omega
      · have e:2^(L-1)=2^(L/2)*2^(L-L/2-1):=by rw [←Nat.pow_add];congr 1;omega
        rw [e,←Nat.mul_assoc];refine Nat.lt_of_lt_of_le b (Nat.mul_le_mul_right _ ?_);rw [Nat.add_mul];omega
def fillTo (n:Nat) (l:List Nat):Nat→List Int
  | 0=>List.replicate n 0
  | k+1=>(fillTo n l k).set (l.getD k 0-1) (k:Int)
theorem fillTo_length (n:Nat) (l:List Nat):∀k,(fillTo n l k).length=n
  | 0=>by simp [fillTo]
  | k+1=>by simp [fillTo,fillTo_length n l k]
def plc (L:Nat):List Int:=fillTo (2^L-1) (lay L 1) (2^L-1)
theorem lay_in {L k:Nat} (h:1≤L) (hk:k<2^L-1):1≤(lay L 1).getD k 0∧(lay L 1).getD k 0≤2^L-1:=by
 have hl:=lay_len 1 h;have hm:(lay L 1).getD k 0 ∈ lay L 1:=by
  rw [List.getD_eq_getElem?_getD,List.getElem?_eq_getElem xo,Option.getD_some];exact List.getElem_mem _
 obtain ⟨a,b⟩:=lay_mem L L 1 (Nat.le_refl _) h _ hm;have e:(1+1)*2^(L-1)=2^L:=by rw [show L=L-1+1 by omega,Nat.pow_succ];simp [Nat.mul_comm]
 omega
end
section
open Go.RowKit
def flat3 (a b c:Nat→Int) (M:Nat):List Int:=(List.range (M*3)).map fun k=>if k%3=0 then a (k/3) else if k%3=1 then b (k/3) else c (k/3)
def putF (a:Nat→Int) (i:Nat) (v:Int):Nat→Int:=fun j=>if j=i then v else a j
variable {a b c a' b' c':Nat→Int} {M i:Nat} {v:Int}
theorem flat3_length:(flat3 a b c M).length=M*3:=by simp [flat3]
theorem flat3_getD {k:Nat} (h:k<M*3):(flat3 a b c M).getD k 0=if k%3=0 then a (k/3) else if k%3=1 then b (k/3) else c (k/3):=by
 simp [flat3,List.getD_eq_getElem?_getD,h]
theorem flat3_0 (h:i<M):(flat3 a b c M).getD (i*3) 0=a i:=by
 rw [flat3_getD xo,if_pos xo,Nat.mul_div_cancel _ xdd]
theorem flat3_1 (h:i<M):(flat3 a b c M).getD (i*3+1) 0=b i:=by
 rw [flat3_getD xo,if_neg xo,if_pos xo,show (i*3+1)/3=i by omega]
theorem flat3_2 (h:i<M):(flat3 a b c M).getD (i*3+2) 0=c i:=by
 rw [flat3_getD xo,if_neg xo,if_neg xo,show (i*3+2)/3=i by omega]
theorem list_ext_getD {xs ys:List Int} (hl:xs.length=ys.length) (h:∀k,k<xs.length→xs.getD k 0=ys.getD k 0):xs=ys:=by
 refine List.ext_getElem hl fun k h1 h2=> ?_
 have:=h k h1;simpa [List.getD_eq_getElem?_getD,h1,h2] using this
theorem set_getD {xs:List Int} {j k:Nat} {v:Int} (hk:k<xs.length):(xs.set j v).getD k 0=if j=k then v else xs.getD k 0:=by
 simp only [List.getD_eq_getElem?_getD,List.getElem?_set];by_cases e:j=k
 · subst e;simp [hk]
 · simp [e]
theorem flat3_congr (ha:∀i,i<M→a i=a' i) (hb:∀i,i<M→b i=b' i) (hc:∀i,i<M→c i=c' i):flat3 a b c M=flat3 a' b' c' M:=by
 refine list_ext_getD (by rw [flat3_length,flat3_length]) fun k hk=> ?_
 rw [flat3_length] at hk;rw [flat3_getD hk,flat3_getD hk,ha _ xo,hb _ xo,hc _ xo]
theorem flat3_set0 (h:i<M):(flat3 a b c M).set (i*3) v=flat3 (putF a i v) b c M:=by
 refine list_ext_getD (by rw [List.length_set,flat3_length,flat3_length]) fun k hk=> ?_
 rw [List.length_set] at hk;rw [set_getD hk];rw [flat3_length] at hk;rw [flat3_getD hk,flat3_getD hk];unfold putF;by_cases h0:k%3=0
 · by_cases h1:i*3=k
   · rw [if_pos h1,if_pos h0,if_pos xo]
   · rw [if_neg h1,if_pos h0,if_pos h0,if_neg xo]
 · rw [if_neg (by omega:¬i*3=k),if_neg h0,if_neg h0]
theorem flat3_set1 (h:i<M):(flat3 a b c M).set (i*3+1) v=flat3 a (putF b i v) c M:=by
 refine list_ext_getD (by rw [List.length_set,flat3_length,flat3_length]) fun k hk=> ?_
 rw [List.length_set] at hk;rw [set_getD hk];rw [flat3_length] at hk;rw [flat3_getD hk,flat3_getD hk];unfold putF;by_cases h0:k%3=1
 · by_cases h1:i*3+1=k
   · rw [if_pos h1,if_neg xo,if_pos h0,if_pos xo]
   · rw [if_neg h1,if_neg xo,if_pos h0,if_neg xo,if_pos h0,if_neg xo]
 · rw [if_neg (by omega:¬i*3+1=k),if_neg h0,if_neg h0]
theorem flat3_set2 (h:i<M):(flat3 a b c M).set (i*3+2) v=flat3 a b (putF c i v) M:=by
 refine list_ext_getD (by rw [List.length_set,flat3_length,flat3_length]) fun k hk=> ?_
 rw [List.length_set] at hk;rw [set_getD hk];rw [flat3_length] at hk;rw [flat3_getD hk,flat3_getD hk];unfold putF;by_cases h0:k%3=0
 · rw [if_neg (by omega:¬i*3+2=k),if_pos h0,if_pos h0]
 · by_cases h2:k%3=1
   · rw [if_neg (by omega:¬i*3+2=k),if_neg h0,if_pos h2,if_neg h0,if_pos h2]
   · rw [if_neg h0,if_neg h2,if_neg h0,if_neg h2];by_cases h1:i*3+2=k
     · rw [if_pos h1,if_pos xo]
     · rw [if_neg h1,if_neg xo]
theorem own_cell {k:IntKind} {w:World} {B g n cap s:Nat} {e:TypeId} {xs:List Int} (h:w.ownsRow B e s (.slice (some ⟨g,0,none⟩) n cap) n (xs.map (Value.int k))) {j:Nat} (hj:j<xs.length):
    w.cell? ⟨g,j,none⟩=some (.int k (xs.getD j 0))∧w.frozen? ⟨g,j,none⟩=false:=by
 have hl:xs.length=n*s:=by have:=h.1;simpa using this
 refine ⟨?_,h.frozenAt j⟩;rw [h.cellAt j xo,List.getElem?_map,List.getElem?_eq_getElem hj];simp [List.getD_eq_getElem?_getD,hj]
theorem own_set {k:IntKind} {w:World} {B g n cap s:Nat} {e:TypeId} {xs:List Int} (h:w.ownsRow B e s (.slice (some ⟨g,0,none⟩) n cap) n (xs.map (Value.int k))) (j:Nat) (y:Int):
    (w.setCell ⟨g,j,none⟩ (.int k y)).ownsRow B e s (.slice (some ⟨g,0,none⟩) n cap) n ((xs.set j y).map (Value.int k)):=by
 have:=(h.stored j (.int k y)).1;rw [List.map_set];exact this
theorem made_flat3 (n:Nat):(madeCells #[Value.int .i64 0,.int .i64 0,.int .i64 0] (n*3)).toList=(flat3 (fun _=>0) (fun _=>0) (fun _=>0) n).map (Value.int .i64):=by
 refine List.ext_getElem (by simp [madeCells,flat3]) fun k h1 h2=> ?_
 have h3:k%3=0∨k%3=1∨k%3=2:=xo;rcases h3 with h3|h3|h3<;>simp [madeCells,flat3,h3]
end
section
open Go.RowKit
theorem fillTo_bd (n:Nat) (l:List Nat):∀k i,0≤(fillTo n l k).getD i 0∧((fillTo n l k).getD i 0=0∨(fillTo n l k).getD i 0<k):=by
 intro k;induction k with
 | zero=>intro i;simp [fillTo,List.getD_eq_getElem?_getD,List.getElem?_replicate];split<;>simp
 | succ k ih=>
  intro i;have h:=ih i;by_cases hi:i<(fillTo n l k).length
  · rw [fillTo,set_getD hi];split
    · omega
    · omega
  · have:(fillTo n l (k+1)).getD i 0=0:=by
      rw [List.getD_eq_getElem?_getD,List.getElem?_eq_none (by rw [fillTo_length] at *;omega)];rfl
    omega
theorem plc_length (L:Nat):(plc L).length=2^L-1:=by rw [plc,fillTo_length]
theorem plc_bd {L:Nat} (h:1≤L) (i:Nat):0≤(plc L).getD i 0∧(plc L).getD i 0<((2^L-1:Nat):Int):=by
 have h1:=fillTo_bd (2^L-1) (lay L 1) (2^L-1) i;have h2:2^1≤2^L:=Nat.pow_le_pow_right xo h;rw [plc];omega
def pcF (L n:Nat):Int:=if n=0 then 0 else (plc L).getD (n-1) 0
def tlF (L:Nat) (ms:List Int) (n:Nat):Int:=if n=0 then 0 else ms.getD (pcF L n).toNat 0
def upTo (f:Nat→Int) (k:Nat):Nat→Int:=fun n=>if n≤k then f n else 0
theorem putF_upTo (f:Nat→Int) (k:Nat) (v:Int) (h:v=f (k+1)):putF (upTo f k) (k+1) v=upTo f (k+1):=by
 funext n
 unfold putF upTo;by_cases e:n=k+1
 · subst e;simp [h]
 · simp [e];by_cases h2:n≤k
   · rw [if_pos h2,if_pos xo]
   · rw [if_neg h2,if_neg xo]
theorem upTo_zero {f:Nat→Int} (h:f 0=0):upTo f 0=fun _=>0:=by
 funext n
 unfold upTo;split
 · rename_i h2;rw [show n=0 by omega,h]
 · rfl
theorem pcF_zero (L:Nat):pcF L 0=0:=rfl
theorem tlF_zero (L:Nat) (ms:List Int):tlF L ms 0=0:=rfl
theorem pcF_bd {L:Nat} (h:1≤L) (n:Nat):0≤pcF L n∧pcF L n<((2^L-1:Nat):Int):=by
 unfold pcF;have h2:2^1≤2^L:=Nat.pow_le_pow_right xo h;split
 · omega
 · exact plc_bd h _
def ownB (m c:Int):Bool:=decide (0≤c)&&decide (c≤65536)&&(decide (c≠0)||decide (m=0))
def abM (am bm bc:Int):Int:=if 0<bc then bm else am
def abC (ac bc:Int):Int:=if 0<bc then ac+bc else ac
def joinP (m c am ac bm bc:Int):Bool:=decide (ac≤c)&&decide (bc≤c)&&(decide (m=abM am bm bc)&&decide (c=abC ac bc))&& !(decide (0<ac)&&decide (0<bc)&&decide (bm≤am))
def joinR (m c am ac bm bc:Int):Bool:=decide (0≤ac)&&decide (0≤bc)&&decide (ac≤c)&&decide (bc=c-ac)&&(decide (m=abM am bm bc)&&decide (c=abC ac bc))&&(decide (ac=0)||decide (bc=0)||decide (am<bm))
theorem joinP_eq {m c am ac bm bc:Int} (ha:ownB am ac=true) (hb:ownB bm bc=true):joinP m c am ac bm bc=joinR m c am ac bm bc:=by
 simp only [ownB,Bool.and_eq_true,Bool.or_eq_true,decide_eq_true_eq] at ha hb;rw [Bool.eq_iff_iff];simp only [joinP,joinR,abM,abC,Bool.and_eq_true,Bool.or_eq_true,decide_eq_true_eq,Bool.not_eq_true',Bool.and_eq_false_iff,decide_eq_false_iff_not];obtain ⟨⟨a1,a2⟩,a3⟩:=ha;obtain ⟨⟨b1,b2⟩,b3⟩:=hb;by_cases h:0<bc
 · simp only [h,if_true,decide_eq_true_eq];constructor
   · rintro ⟨⟨⟨h1,h2⟩,h3,h4⟩,h5⟩;exact ⟨⟨⟨⟨⟨a1,b1⟩,h1⟩,by omega⟩,h3,h4⟩,by rcases h5 with (h5|h5)|h5<;>first|omega|exact absurd trivial h5⟩
   · rintro ⟨⟨⟨⟨⟨h0,h1⟩,h2⟩,h3⟩,h4,h5⟩,h6⟩;exact ⟨⟨⟨h2,by omega⟩,h4,h5⟩,by rcases h6 with (h6|h6)|h6<;>omega⟩
 · simp only [h,if_false,decide_eq_true_eq];constructor
   · rintro ⟨⟨⟨h1,h2⟩,h3,h4⟩,h5⟩;exact ⟨⟨⟨⟨⟨a1,b1⟩,h1⟩,by omega⟩,h3,h4⟩,by omega⟩
   · rintro ⟨⟨⟨⟨⟨h0,h1⟩,h2⟩,h3⟩,h4,h5⟩,h6⟩;exact ⟨⟨⟨h2,by omega⟩,h4,h5⟩,.inl (.inr fun h=>h)⟩
def ndB (L:Nat) (ms cs:List Int) (n:Nat):Bool:=ownB (tlF L ms n) (tlF L cs n)&&(decide (2^L-1<2*n)||joinR (tlF L ms n) (tlF L cs n) (tlF L ms (2*n)) (tlF L cs (2*n)) (tlF L ms (2*n+1)) (tlF L cs (2*n+1)))
def ixFit (l:Int) (ms cs:List Int):Prop:=1≤l∧l≤14∧ms.length=2^l.toNat-1∧cs.length=2^l.toNat-1
instance (l:Int) (ms cs:List Int):Decidable (ixFit l ms cs):=by unfold ixFit;infer_instance
def allFrom (p:Nat→Bool) (n k:Nat):Bool:=(List.range k).all fun i=>p (n+i)
theorem allFrom_iff {p:Nat→Bool} {n k:Nat}:allFrom p n k=true↔∀m,n≤m→m<n+k→p m=true:=by
 unfold allFrom;simp only [List.all_eq_true,List.mem_range];constructor
 · intro h m h1 h2;have:=h (m-n) xo;rwa [show n+(m-n)=m by omega] at this
 · intro h i hi;exact h _ xo xo
theorem allFrom_not {p:Nat→Bool} {n k m:Nat} (h1:n≤m) (h2:m<n+k) (h:p m=false):allFrom p n k=false:=by
 by_cases hh:allFrom p n k=true
 · rw [allFrom_iff.1 hh m h1 h2] at h;cases h
 · simpa using hh
def ixMay (l:Int) (ms cs:List Int):Bool:=decide (ixFit l ms cs)&&allFrom (ndB l.toNat ms cs) 1 (2^l.toNat-1)
def ixE (l:Int) (ms cs:List Int):Int:=if ixMay l ms cs=true then 0 else 8
end
section
def pos (L d j:Nat):Nat:=
  if h:L≤1 then 0 else
   if d<L/2 then pos (L/2) d j
   else 2^(L/2)-1+j/2^(d-L/2)*(2^(L-L/2)-1)+pos (L-L/2) (d-L/2) (j%2^(d-L/2))
termination_by L
decreasing_by all_goals omega
theorem pos_one (d j:Nat):pos 1 d j=0:=by rw [pos];simp
theorem pos_up {L d:Nat} (j:Nat) (h:2≤L) (hd:d<L/2):pos L d j=pos (L/2) d j:=by
 rw [pos];simp [show ¬L≤1 by omega,hd]
theorem pos_low {L d:Nat} (j:Nat) (h:2≤L) (hd:¬d<L/2):pos L d j=2^(L/2)-1+j/2^(d-L/2)*(2^(L-L/2)-1)+pos (L-L/2) (d-L/2) (j%2^(d-L/2)):=by
 rw [pos];simp [show ¬L≤1 by omega,hd]
theorem flatMap_get (f:Nat→List Nat) (c:Nat) (hf:∀i,(f i).length=c) (i p n:Nat) (hi:i<n) (hp:p<c):((List.range n).flatMap f).getD (i*c+p) 0=(f i).getD p 0:=by
 induction n with
 | zero=>omega
 | succ n ih=>
  rw [List.range_succ,List.flatMap_append];have hl:=length_flatMap_const f c hf n;by_cases e:i=n
  · subst e;rw [List.getD_eq_getElem?_getD,List.getElem?_append_right xo,hl,Nat.add_sub_cancel_left];simp
  · have hin:i<n:=xo;have h1:i*c+p<n*c:=by
     have:(i+1)*c≤n*c:=Nat.mul_le_mul_right _ hin;rw [Nat.add_mul,Nat.one_mul] at this;omega
    rw [List.getD_eq_getElem?_getD,List.getElem?_append_left xo,←List.getD_eq_getElem?_getD];exact ih hin
theorem pow_half (L:Nat):2^L=2^(L/2)*2^(L-L/2):=by rw [←Nat.pow_add];congr 1;omega
theorem size_half (L:Nat):2^L-1=2^(L/2)-1+2^(L/2)*(2^(L-L/2)-1):=by
 have p1:=Nat.two_pow_pos (L/2);have p2:2^(L/2)*1≤2^(L/2)*2^(L-L/2):=Nat.mul_le_mul_left _ (Nat.two_pow_pos _);rw [pow_half L,Nat.mul_sub,Nat.mul_one];omega
theorem lay_pos':∀(m L d j r:Nat),L≤m→1≤L→d<L→j<2^d→pos L d j<2^L-1∧(lay L r).getD (pos L d j) 0=r*2^d+j:=by
 intro m;induction m with
 | zero=>intro L d j r h1 h2;omega
 | succ m ih=>
  intro L d j r h1 h2 h3 h4;by_cases h:L=1
  · subst h;obtain rfl:d=0:=xo;obtain rfl:j=0:=by simpa using h4
    rw [pos_one,lay_one];simp
  · have hlen:=lay_len (L:=L/2) r xo;have hs:=size_half L;by_cases hd:d<L/2
    · obtain ⟨i1,i2⟩:=ih (L/2) d j r xo xo hd h4;rw [pos_up j xo hd,lay_two xo];refine ⟨by omega,?_⟩;rw [List.getD_eq_getElem?_getD,List.getElem?_append_left xo,←List.getD_eq_getElem?_getD];exact i2
    · have hq:j/2^(d-L/2)<2^(L/2):=by
        rw [Nat.div_lt_iff_lt_mul (Nat.two_pow_pos _),←Nat.pow_add,show L/2+(d-L/2)=d by omega];exact h4
      obtain ⟨i1,i2⟩:=ih (L-L/2) (d-L/2) (j%2^(d-L/2)) (r*2^(L/2)+j/2^(d-L/2)) xo xo xo (Nat.mod_lt _ (Nat.two_pow_pos _));rw [pos_low j xo hd,lay_two xo];constructor
      · have:(j/2^(d-L/2)+1)*(2^(L-L/2)-1)≤2^(L/2)*(2^(L-L/2)-1):=Nat.mul_le_mul_right _ hq;rw [Nat.add_mul,Nat.one_mul] at this;omega
      · rw [List.getD_eq_getElem?_getD,List.getElem?_append_right xo,←List.getD_eq_getElem?_getD,hlen];rw [show 2^(L/2)-1+j/2^(d-L/2)*(2^(L-L/2)-1)+pos (L-L/2) (d-L/2) (j%2^(d-L/2))-(2^(L/2)-1)=j/2^(d-L/2)*(2^(L-L/2)-1)+pos (L-L/2) (d-L/2) (j%2^(d-L/2)) by omega];rw [flatMap_get _ (2^(L-L/2)-1) (fun i=>lay_len _ xo) _ _ _ hq i1,i2];have e1:2^d=2^(L/2)*2^(d-L/2):=by rw [←Nat.pow_add];congr 1;omega
        have e2:=Nat.div_add_mod j (2^(d-L/2));rw [e1,Nat.add_mul,Nat.mul_assoc,Nat.add_assoc,Nat.mul_comm (j/2^(d-L/2)),e2]
theorem pos_surj:∀(m L p:Nat),L≤m→1≤L→p<2^L-1→∃d j,d<L∧j<2^d∧pos L d j=p:=by
 intro m;induction m with
 | zero=>intro L p h1 h2;omega
 | succ m ih=>
  intro L p h1 h2 h3;by_cases h:L=1
  · subst h;exact ⟨0,0,by omega,by simp,by rw [pos_one];simp at h3;omega⟩
  · have hs:=size_half L;by_cases hp:p<2^(L/2)-1
    · obtain ⟨d,j,k1,k2,k3⟩:=ih (L/2) p xo xo hp;exact ⟨d,j,by omega,k2,by rw [pos_up j xo k1];exact k3⟩
    · have hc:1≤2^(L-L/2)-1:=by
        have:2^1≤2^(L-L/2):=Nat.pow_le_pow_right xo xo;omega
      obtain ⟨q,hq⟩:∃q,q=p-(2^(L/2)-1):=⟨_,rfl⟩
      have hqlt:q<2^(L/2)*(2^(L-L/2)-1):=xo;obtain ⟨d,j,k1,k2,k3⟩:=ih (L-L/2) (q%(2^(L-L/2)-1)) xo xo (Nat.mod_lt _ xo);have hi:q/(2^(L-L/2)-1)<2^(L/2):=by rw [Nat.div_lt_iff_lt_mul xo];exact hqlt
      refine ⟨L/2+d,q/(2^(L-L/2)-1)*2^d+j,by omega,?_,?_⟩
      · rw [Nat.pow_add];have:(q/(2^(L-L/2)-1)+1)*2^d≤2^(L/2)*2^d:=Nat.mul_le_mul_right _ hi;rw [Nat.add_mul,Nat.one_mul] at this;omega
      · rw [pos_low _ xo xo,show L/2+d-L/2=d by omega];have e1:(q/(2^(L-L/2)-1)*2^d+j)/2^d=q/(2^(L-L/2)-1):=by
         rw [Nat.add_comm,Nat.add_mul_div_right _ _ (Nat.two_pow_pos d),Nat.div_eq_of_lt k2,Nat.zero_add]
        have e2:(q/(2^(L-L/2)-1)*2^d+j)%2^d=j:=by
         rw [Nat.add_comm,Nat.add_mul_mod_self_right,Nat.mod_eq_of_lt k2]
        rw [e1,e2,k3];have e3:=Nat.div_add_mod q (2^(L-L/2)-1);rw [Nat.mul_comm] at e3;omega
theorem node_dj {n:Nat} (h:1≤n):2^n.log2≤n∧n-2^n.log2<2^n.log2:=by
 have h1:2^n.log2≤n:=(Nat.le_log2 xo).1 (Nat.le_refl _);have h2:n<2^(n.log2+1):=(Nat.log2_lt xo).1 (Nat.lt_succ_self _);rw [Nat.pow_succ] at h2;exact ⟨h1,by omega⟩
theorem log2_dj {d j:Nat} (h:j<2^d):(2^d+j).log2=d:=by
 have h1:1≤2^d:=Nat.two_pow_pos d;have h2:(2^d+j).log2<d+1:=(Nat.log2_lt xo).2 (by rw [Nat.pow_succ];omega);have h3:d≤(2^d+j).log2:=(Nat.le_log2 xo).2 xo;omega
def vpos (L n:Nat):Nat:=pos L n.log2 (n-2^n.log2)
theorem vpos_lay {L n:Nat} (h1:1≤L) (hn:1≤n) (h:n<2^L):vpos L n<2^L-1∧(lay L 1).getD (vpos L n) 0=n:=by
 obtain ⟨d1,d2⟩:=node_dj hn;obtain ⟨a,b⟩:=lay_pos' L L n.log2 (n-2^n.log2) 1 (Nat.le_refl _) h1 (log2_lt_of hn h) d2;exact ⟨a,by rw [vpos,b];omega⟩
theorem lay_vpos {L p:Nat} (h1:1≤L) (hp:p<2^L-1):vpos L ((lay L 1).getD p 0)=p:=by
 obtain ⟨d,j,k1,k2,k3⟩:=pos_surj L L p (Nat.le_refl _) h1 hp;obtain ⟨a,b⟩:=lay_pos' L L d j 1 (Nat.le_refl _) h1 k1 k2;rw [k3,Nat.one_mul] at b;rw [b,vpos,log2_dj k2,Nat.add_sub_cancel_left,k3]
theorem fillTo_get {N:Nat} {l:List Nat} (hin:∀k,k<N→1≤l.getD k 0∧l.getD k 0≤N) (hinj:∀k p,k<N→p<N→l.getD k 0=l.getD p 0→k=p) (p:Nat) (hp:p<N):
    ∀k,k≤N→p<k→(fillTo N l k).getD (l.getD p 0-1) 0=(p:Int):=by
 intro k;induction k with
 | zero=>intro _ h;omega
 | succ k ih=>
  intro hk h;obtain ⟨a1,a2⟩:=hin p hp;obtain ⟨b1,b2⟩:=hin k xo;rw [fillTo,List.getD_eq_getElem?_getD,List.getElem?_set];by_cases e:k=p
  · subst e;rw [if_pos rfl,if_pos (by rw [fillTo_length];omega)];rfl
  · have hne:l.getD k 0-1≠l.getD p 0-1:=fun h2=>e (hinj k p xo hp xo)
    rw [if_neg hne,←List.getD_eq_getElem?_getD];exact ih xo xo
theorem plc_get {L n:Nat} (h1:1≤L) (hn:1≤n) (h:n<2^L):(plc L).getD (n-1) 0=(vpos L n:Nat):=by
 obtain ⟨a,b⟩:=vpos_lay h1 hn h;have:=fillTo_get (N:=2^L-1) (l:=lay L 1) (fun k hk=>lay_in h1 hk) (fun k p hk hp e=>by rw [←lay_vpos h1 hk,←lay_vpos h1 hp,e]) (vpos L n) a (2^L-1) (Nat.le_refl _) a;rw [b] at this;exact this
end
end Go.Proofs.YtbedhbpgnfffmaaGreat

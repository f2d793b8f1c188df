/- Merged: Occ, InvIn, OccCnt, F64, FracW. -/
import Derived.Test.YtjhpblejlchhjaaGreatDoorOmMovesP2
import Derived.Sort.LoopGhostIn
import Derived.Test.YtjhpblejlchhjaaGreatDoorOmMovesP1
import Derived.OrdersIn
import Derived.Laws.ComplexArith
namespace Go.Proofs.YtjhpblejlchhjaaGreatDoor
set_option maxRecDepth 100000
set_option maxHeartbeats 40000000
set_option linter.unusedVariables false
set_option linter.unusedSimpArgs false
section
open Go.RowKit Go.Shelf
attribute [local go_sem] Oper.semAt_some
theorem occCheck_ok (wa:Option Addr) (wc:Nat) (ws:List Int) (hu:U64s ws) (n:Nat) (hn:n≤65536) (hl:ws.length≤1000000000000) (w:World) (hw:IsRow .u64 w wa ws):
    Calls Tryz.prog 119 #[.slice wa ws.length wc,.int .i64 n] w fun e w'=>e= .returned (.int .i64 (if wMayB ws n=true then 0 else 8))∧w=w':=by
 by_cases c1:ws.length=(n+63)/64
 · have hi:=wMayB_iff hu c1;have e1:((ws.length:Int) != ((n:Int)+64-1)/64)=false:=by simp;omega
   by_cases c2:n%64=0
   · have e:wMayB ws n=true:=hi.2 (.inl c2);rw [if_pos e];have hr:(n:Int)%64=0:=xo;have hd:((n:Int)+64-1)/64=(ws.length:Int):=xo;generalize ws.length=m at *;clear hi e c1;go_enter Tryz.func119,Tryz.ntmps119
     go_wp2
     go_ret
     exact ⟨rfl,rfl⟩
   · obtain ⟨b,off,x,rfl,hx,hc,-⟩:=hw.get (i:=ws.length-1) xo;have hg:=hu.get (ws.length-1);rw [hx.out] at hi hg;obtain ⟨r,hr⟩:∃r,n%64=r:=⟨_,rfl⟩
     rw [hr] at hi c2;have hrI:(n:Int)%64=(r:Int):=xo;have hr64:r<64:=xo;have hr0:0<r:=xo;have hd:((n:Int)+64-1)/64=(ws.length:Int):=xo;have hm0:0<ws.length:=xo;obtain ⟨q,hq⟩:∃q,x/2^r=q:=⟨_,rfl⟩
     rw [hq] at hi;by_cases c3:q=0
     · have e:wMayB ws n=true:=hi.2 (.inr c3);rw [if_pos e];subst c3;generalize ws.length=m at *;obtain ⟨m',rfl⟩:∃m',m=m'+1:=⟨m-1,by omega⟩
       rw [Nat.add_sub_cancel] at hc;clear hi e c1 hu hw hx;go_enter Tryz.func119,Tryz.ntmps119
       go_wp2
       go_ret
       exact ⟨rfl,rfl⟩
     · have e:¬wMayB ws n=true:=fun h=>by rcases hi.1 h with h|h<;>omega
       rw [if_neg e];have hq2:(q != 0)=true:=by simpa using c3
       generalize ws.length=m at *;obtain ⟨m',rfl⟩:∃m',m=m'+1:=⟨m-1,by omega⟩
       rw [Nat.add_sub_cancel] at hc;clear hi e c1 hu hw hx;go_enter Tryz.func119,Tryz.ntmps119
       go_wp2
       go_ret
       exact ⟨rfl,rfl⟩
 · have e:¬wMayB ws n=true:=by simp [wMayB,c1]
   rw [if_neg e];have hd:((ws.length:Int) != ((n:Int)+64-1)/64)=true:=by simp;omega
   generalize ws.length=m at *;clear e;go_enter Tryz.func119,Tryz.ntmps119
   go_wp2
   go_ret
   exact ⟨rfl,rfl⟩
theorem asked_ok (wa:Option Addr) (wc:Nat) (ws:List Int) (hu:U64s ws) (n:Nat) (hn:n≤65536) (hl:ws.length≤1000000000000) (hmay:wMayB ws n=true) (w:World) (hw:IsRow .u64 w wa ws):
    Calls Tryz.prog 116 #[.slice wa ws.length wc,.int .i64 n,.bool true] w fun e w'=>e= .returned (.int .i64 0)∧w=w':=by
 have CK:=hid (fun w hw=>occCheck_ok wa wc ws hu n hn hl w hw);rw [if_pos hmay] at CK;have HW:=hid hw;generalize ws.length=m at *;clear hw hmay;go_enter Tryz.func116,Tryz.ntmps116
 go_wp2_with (go_at_call 119;refine (CK.out _ HW.out).mono ?_;rintro e w' ⟨rfl,rfl⟩)
 go_ret
 exact ⟨rfl,rfl⟩
theorem cut_ok (wa:Option Addr) (wc:Nat) (ws:List Int) (hu:U64s ws) (a b k:Nat) (hk:k<ws.length) (ha:a<64*k+64) (hb:64*k<b) (hbb:b≤65536) (w:World) (hw:IsRow .u64 w wa ws) (b1 b2 b3:Nat)
    (c1:w.cell? ⟨b1,0,none⟩=some (.slice wa ws.length wc)) (c2:w.cell? ⟨b2,0,none⟩=some (.int .i64 a)) (c3:w.cell? ⟨b3,0,none⟩=some (.int .i64 b)):
    Calls Tryz.prog 156 #[.int .i64 k,.pointer (some ⟨b1,0,none⟩),.pointer (some ⟨b2,0,none⟩),.pointer (some ⟨b3,0,none⟩)] w fun e w'=>e= .returned (.int .u64 (cutV ws a b k))∧w=w':=by
 have hg:=hu.get k;have hA:=cutA_bd hu a k;obtain ⟨bb,off,x,rfl,hx,hc,-⟩:=hw.get hk;have hV:cutV ws a b k=if b<64*k+64 then cutHi (cutA ws a k) (64*k+64-b) else cutA ws a k:=rfl
 have hAd:cutA ws a k=if 64*k<a then cutLo x (a-64*k) else x:=by unfold cutA;rw [hx.out]
 rw [hx.out] at hg;obtain ⟨y,hy⟩:∃y,cutA ws a k=y:=⟨_,rfl⟩
 obtain ⟨z,hz⟩:∃z,cutV ws a b k=z:=⟨_,rfl⟩
 rw [hy] at hA hV hAd;rw [hz] at hV ⊢;generalize ws.length=m at *;have HX:=hid hx;clear hx hw hu hy hz;by_cases q1:64*k<a
 · rw [if_pos q1] at hAd;obtain ⟨lo,hlo⟩:∃lo,a-64*k=lo:=⟨_,rfl⟩
   have hloI:(a:Int)-(k:Int)*64=(lo:Int):=xo;have hlo64:lo<64:=xo;have hlo0:0<lo:=xo;rw [hlo] at hAd;have hbd:=cutLo_bd hg.1 lo;rw [←hAd] at hbd;have hyw:IntKind.u64.wrap (x/2^lo*2^lo)=y:=by rw [hAd] at hA ⊢;unfold cutLo at hA ⊢;rw [IntKind.wrap_u64];omega
   by_cases q2:b<64*k+64
   · rw [if_pos q2] at hV;obtain ⟨hi,hhi⟩:∃hi,64*k+64-b=hi:=⟨_,rfl⟩
     have hhiI:((k:Int)+1)*64-(b:Int)=(hi:Int):=xo;have hhi64:hi<64:=xo;have hhi0:0<hi:=xo;rw [hhi] at hV;have hzw:IntKind.u64.wrap (y*2^hi)/2^hi=z:=by rw [hV,IntKind.wrap_u64];rfl
     clear hAd hV hbd hlo hhi;go_enter Tryz.func156,Tryz.ntmps156
     go_wp2
     go_ret
     exact ⟨by rw [←hzw];rfl,rfl⟩
   · rw [if_neg q2] at hV;have hhiI:((k:Int)+1)*64-(b:Int)≤0:=xo;clear hAd hbd hlo;subst hV;go_enter Tryz.func156,Tryz.ntmps156
     go_wp2
     go_ret
     exact ⟨rfl,rfl⟩
 · rw [if_neg q1] at hAd;subst hAd;have hloI:(a:Int)-(k:Int)*64≤0:=xo;by_cases q2:b<64*k+64
   · rw [if_pos q2] at hV;obtain ⟨hi,hhi⟩:∃hi,64*k+64-b=hi:=⟨_,rfl⟩
     have hhiI:((k:Int)+1)*64-(b:Int)=(hi:Int):=xo;have hhi64:hi<64:=xo;have hhi0:0<hi:=xo;rw [hhi] at hV;have hzw:IntKind.u64.wrap (y*2^hi)/2^hi=z:=by rw [hV,IntKind.wrap_u64];rfl
     clear hV hhi;go_enter Tryz.func156,Tryz.ntmps156
     go_wp2
     go_ret
     exact ⟨by rw [←hzw];rfl,rfl⟩
   · rw [if_neg q2] at hV;have hhiI:((k:Int)+1)*64-(b:Int)≤0:=xo;subst hV;go_enter Tryz.func156,Tryz.ntmps156
     go_wp2
     go_ret
     exact ⟨rfl,rfl⟩
def KpS (S:Nat→Prop) (W W':World):Prop:=∀k,S k→W'.heap[k]? =W.heap[k]?
theorem KpS.cell {S:Nat→Prop} {W W':World} (h:KpS S W W') {a:Addr} {v:Value} (ha:S a.block) (hc:W.cell? a=some v):W'.cell? a=some v:=by
 rw [World.cell?_of_block (w:=W) (h _ ha)];exact hc
theorem KpS.row {S:Nat→Prop} {W W':World} (h:KpS S W W') {k:IntKind} {a:Option Addr} {xs:List Int} (ha:∀x,a=some x→0<xs.length→S x.block) (hr:IsRow k W a xs):IsRow k W' a xs:=by
 intro i hi;obtain ⟨b,off,rfl,hlt,hc⟩:=hr i hi;have hb:S b:=ha ⟨b,off,none⟩ rfl xo;refine ⟨b,off,rfl,?_,fun j hj=>h.cell (a:=⟨b,off+j,none⟩) hb (hc j hj)⟩;exact World.block_lt_of_cell? _ _ (h.cell (a:=⟨b,off+i,none⟩) hb (hc i hi))
theorem parts1_iter (wa:Option Addr) (wc:Nat) (ws:List Int) (hu:U64s ws) (a b:Nat) (hab:a≤b) (hbb:b≤65536) (hl:b≤64*ws.length) (hl2:ws.length≤1000000000000) (S:Nat→Prop) (b1 b2 b3:Nat) (s1:S b1) (s2:S b2) (s3:S b3) (sw:∀x,wa=some x→0<ws.length→S x.block) (w:World) (hw:IsRow .u64 w wa ws)
    (c1:w.cell? ⟨b1,0,none⟩=some (.slice wa ws.length wc)) (c2:w.cell? ⟨b2,0,none⟩=some (.int .i64 a)) (c3:w.cell? ⟨b3,0,none⟩=some (.int .i64 b)):
    Iter Tryz.prog 155 #[.pointer (some ⟨b1,0,none⟩),.pointer (some ⟨b2,0,none⟩),.pointer (some ⟨b3,0,none⟩)] (partsL ws a b) (KpS S) w:=by
 intro l J Jx W hW hJ hJx hY h0;have d1:=(hW.cell (World.block_lt_of_cell? _ _ c1)).trans c1;have d2:=(hW.cell (World.block_lt_of_cell? _ _ c2)).trans c2;have d3:=(hW.cell (World.block_lt_of_cell? _ _ c3)).trans c3;have hw':=hw.below hW;have HY:=hid hY;have HW:=hid hw';have HC:=hid (fun k hk ha hb W hw c1 c2 c3=>cut_ok wa wc ws hu a b k hk ha hb hbb W hw b1 b2 b3 c1 c2 c3);have SW:=hid sw;have HL:=hid hl;obtain ⟨m,hm⟩:∃m,(b+63)/64-a/64=m:=⟨_,rfl⟩
 have HP:=hid (fun k (hk:k<m)=>partsL_get ws (a:=a) (b:=b) (k:=k) xo);have HPL:=hid ((partsL_length ws a b).trans hm);obtain ⟨q,hq⟩:∃q,a/64=q:=⟨_,rfl⟩
 have hqI:(a:Int)/64=(q:Int):=xo;rw [hq] at HP hm;have hqm:q+m≤2048:=xo;have HM:=hid (And.intro hm hq);obtain ⟨M,hML⟩:∃M,ws.length=M:=⟨_,rfl⟩
 rw [hML] at d1 HC HL hl2;clear hY hJ hJx c1 c2 c3 hw hw' sw hm hq hl hu hML;refine callsIn_of_wp Tryz.func155 rfl trivial ?_ rfl;simp only [Tryz.ntmps155,List.size_toArray,List.length_cons,List.length_nil,Nat.reduceAdd,Nat.reduceSub,Array.replicate_succ,Array.replicate_zero,List.push_toArray,List.append_toArray,List.nil_append,List.cons_append];gi_wp2
 gi_loopg [6] m (fun g iv wr=>∃k p:Nat,k+g=m∧Hid (p=q+k)∧p≤2048∧iv= .int .i64 (p:Int)∧J k wr∧wr.cell? ⟨b1,0,none⟩=some (.slice wa M wc)∧wr.cell? ⟨b2,0,none⟩=some (.int .i64 a)∧wr.cell? ⟨b3,0,none⟩=some (.int .i64 b)∧Hid (IsRow .u64 wr wa ws))
 case atStart=>exact ⟨0,q,by omega,hid rfl,by omega,rfl,h0,d1,d2,d3,HW⟩
 case round=>
  obtain ⟨k,p,hk,HP2,hp2,rfl,hJk,e1,e2,e3,HR⟩:=hrel;by_cases hlt:k<m
  · obtain ⟨fn,tmps,assign,body,hy,hR⟩:=HY.out k wr (by rw [HPL.out];exact hlt) hJk;rw [HP.out k hlt,←HP2.out] at hy;have hqb:64*p<b:=by have:=HM.out;have:=HP2.out;omega
    have hcut:=HC.out p (by have:=HL.out;omega) (by have:=HM.out;have:=HP2.out;omega) hqb wr HR.out e1 e2 e3;have HCU:=hid hcut;have hqI2:((64*p:Nat):Int)=(p:Int)*64:=xo;have hqI3:(p:Int)*64<(b:Int):=xo;obtain ⟨x,hx⟩:∃x,cutV ws a b p=x:=⟨_,rfl⟩
    rw [hx,hqI2] at hy;rw [hx] at HCU;have HK:=hid hk;clear hcut hx hJk hqI2 hk;gi_wp2_with fail
    refine ⟨trivial,rfl,(callsIn_wide.2 HCU.out).mono ?_⟩;rintro e w' ⟨rfl,rfl⟩;gi_wp2
    refine ⟨rfl,hR.mono ?_⟩;rintro e W3 (⟨rfl,hJ3,hk3⟩ | ⟨rfl,hJx3⟩)
    · have g1:=hk3.cell (a:=⟨b1,0,none⟩) s1 e1;have g2:=hk3.cell (a:=⟨b2,0,none⟩) s2 e2;have g3:=hk3.cell (a:=⟨b3,0,none⟩) s3 e3;have HR3:=hid (hk3.row SW.out HR.out);have HJ3:=hid hJ3;clear hk3 hJ3 e1 e2 e3 HCU;gi_wp2
      gi_roundg (gk-1)
      case measure=>have:=HK.out;omega
      case rel=>exact ⟨k+1,p+1,by have:=HK.out;omega,hid (by have:=HP2.out;omega),by have:=HM.out;have:=HP2.out;omega,by go_num,HJ3.out,g1,g2,g3,HR3⟩
    · have HJ3:=hid hJx3;clear hJx3;gi_wp2
      exact bodyPost_ret (results_none rfl _ _ _) rfl ⟨⟨_,rfl⟩,.inr ⟨k+1,by rw [HPL.out];omega,HJ3.out⟩⟩
  · have hkm:k=m:=xo;have hqb:b≤64*p:=by have:=HM.out;have:=HP2.out;omega
    have hqI3:(b:Int)≤(p:Int)*64:=xo;have HJ:=hid hJk;clear hJk;gi_wp2
    refine bodyPost_end (results_none rfl _ _ _) rfl ⟨⟨_,rfl⟩,.inl ?_⟩;rw [HPL.out,←hkm];exact HJ.out
theorem parts_ok (wa:Option Addr) (n wc:Nat) (a b:Int) (w:World):
    Calls Tryz.prog 117 #[.slice wa n wc,.int .i64 a,.int .i64 b] w fun e w'=>e= .returned (.func (.func 155) #[] #[.pointer (some ⟨w.heap.size,0,none⟩),.pointer (some ⟨w.heap.size+1,0,none⟩),.pointer (some ⟨w.heap.size+2,0,none⟩)])∧
      w'=((w.alloc (.cells #[.slice wa n wc] 24)).alloc (.cells #[.int .i64 a] 3)).alloc (.cells #[.int .i64 b] 3):=by
 go_enter Tryz.func117,Tryz.ntmps117
 go_wp2
 go_ret
 exact ⟨rfl,rfl⟩
end
section
open Go.RowKit
section
variable {F:Fence} {dp:Nat} {P:Program} {ops:Array Oper} {Q:Exit→Act→World→Prop}
def ClosedL (ops:Array Oper) (L:Array Bool):Prop:=∀(j:Nat) (p:Oper),ops[j]? =some p→L.getD j false=true→∀e ∈ p.after,Region.binds .any e=true→L.getD e.on false=true
theorem ClosedL.set {L:Array Bool} {i:Nat} {o:Oper} (h:ClosedL ops L) (hi:i<L.size) (ho:ops[i]? =some o) (hall:∀e ∈ o.after,Region.binds .any e=true→L.getD e.on false=true):ClosedL ops (L.setIfInBounds i true):=by
 have keep:∀k,L.getD k false=true→(L.setIfInBounds i true).getD k false=true:=by
  intro k hk;by_cases e:k=i
  · subst e;exact set_same hi
  · rw [set_else e];exact hk
 intro j p hp hj e he hb;by_cases ej:j=i
 · subst ej;obtain rfl:p=o:=Option.some.inj (hp.symm.trans ho);exact keep _ (hall e he hb)
 · rw [set_else ej] at hj;exact keep _ (h j p hp hj e he hb)
def maskOf (acc:List Nat) (o:Oper):Nat:=o.after.toList.foldl (fun m e=>if Region.binds .any e then m ||| (2^e.on ||| acc.getD e.on 0) else m) 0
def masksOf:List Oper→List Nat→List Nat
  | [],acc=>acc
  | o::r,acc=>masksOf r (acc++[maskOf acc o])
theorem mask_bit (acc:List Nat):∀(es:List Edge) (m j:Nat),(es.foldl (fun m e=>if Region.binds .any e then m ||| (2^e.on ||| acc.getD e.on 0) else m) m).testBit j=true→
    m.testBit j=true∨∃e ∈ es,Region.binds .any e=true∧(j=e.on∨(acc.getD e.on 0).testBit j=true):=by
 intro es;induction es with
 | nil=>intro m j h;exact .inl h
 | cons e r ih=>
  intro m j h;rw [List.foldl_cons] at h;rcases ih _ j h with h1 | ⟨e',he',hb,h1⟩
  · by_cases hb:Region.binds .any e=true
    · rw [if_pos hb,Nat.testBit_or,Nat.testBit_or,Bool.or_eq_true,Bool.or_eq_true] at h1;rcases h1 with h1|h1|h1
      · exact .inl h1
      · refine .inr ⟨e,by simp,hb,.inl ?_⟩;rw [Nat.testBit_two_pow,decide_eq_true_eq] at h1;exact h1.symm
      · exact .inr ⟨e,by simp,hb,.inr h1⟩
    · rw [if_neg hb] at h1;exact .inl h1
  · exact .inr ⟨e',by simp [he'],hb,h1⟩
def GoodM (l:List Oper) (L:Array Bool) (i m:Nat):Prop:=∀o,l[i]? =some o→(∀e ∈ o.after,Region.binds .any e=true→L.getD e.on false=true)→∀j,m.testBit j=true→L.getD j false=true
theorem masks_sound {l:List Oper} {L:Array Bool} (hcl:ClosedL l.toArray L):∀(r:List Oper) (acc:List Nat) (k:Nat),acc.length=k→(∀j,r[j]? =l[k+j]?)→(∀i,i<k→GoodM l L i (acc.getD i 0))→∀i,GoodM l L i ((masksOf r acc).getD i 0):=by
 intro r;induction r with
 | nil=>
  intro acc k hk hr hg i;by_cases h:i<k
  · exact hg i h
  · intro o ho _ j hj;rw [masksOf,List.getD_eq_getElem?_getD,List.getElem?_eq_none xo] at hj;simp at hj
 | cons o r ih=>
  intro acc k hk hr hg;rw [masksOf];refine ih _ (k+1) (by simp [hk]) (fun j=>by have:=hr (j+1);rw [List.getElem?_cons_succ] at this;rw [this];congr 1;omega) ?_;intro i hi;by_cases h:i<k
  · rw [List.getD_eq_getElem?_getD,List.getElem?_append_left xo,←List.getD_eq_getElem?_getD];exact hg i h
  · have hik:i=k:=xo;subst hik;rw [List.getD_eq_getElem?_getD,List.getElem?_append_right xo];intro o' ho' hall j hj;have ho:l[i]? =some o:=by have:=hr 0;simpa using this.symm
    obtain rfl:o'=o:=Option.some.inj (ho'.symm.trans ho);simp only [hk,Nat.sub_self,List.getElem?_cons_zero,Option.getD_some] at hj;rcases mask_bit acc _ _ _ hj with h0 | ⟨e,he,hb,h1⟩
    · simp at h0
    · have hl:=hall e (by simpa using he) hb;rcases h1 with rfl|h1
      · exact hl
      · by_cases hek:e.on<i
        · have hlen:i<l.length:=(List.getElem?_eq_some_iff.1 ho).1;have hoe:l[e.on]? =some (l[e.on]'xo):=List.getElem?_eq_getElem xo;exact hg e.on hek _ hoe (fun e2 he2 hb2=>hcl e.on _ (by rw [List.getElem?_toArray];exact hoe) hl e2 he2 hb2) j h1
        · rw [List.getD_eq_getElem?_getD,List.getElem?_eq_none xo] at h1;simp at h1
def tailM (l:List Oper) (n:Nat):Bool:=
  (List.range l.length).all fun i=>decide (i<n)||(decide ((masksOf l []).getD i 0%2^i=2^i-1)&&match l[i]? with|some o=>o.after.all (fun e=>decide (e.on<i))|none=>true)
theorem wpAnyIn_inv (I:Array Bool→Act→World→Prop)
    (hac:∀(i:Nat) (o:Oper),ops[i]? =some o→∀e ∈ o.after,e.on<i)
    (step:∀(L:Array Bool) (a:Act) (w:World) (i:Nat) (o:Oper),L.size=ops.size→ops[i]? =some o→L.getD i false=false→
      (∀e ∈ o.after,Region.binds .any e=true→L.getD e.on false=true)→ClosedL ops L→I L a w→wpOpIn F dp P ops Q i (I (L.setIfInBounds i true)) a w)
    (done:∀(L:Array Bool) (a:Act) (w:World),L.size=ops.size→(∀i,i<ops.size→L.getD i false=true)→I L a w→Q .normal a w):
    ∀(f:Nat) (L:Array Bool) (a:Act) (w:World),L.size=ops.size→leftOf L ops.size≤f→ClosedL ops L→I L a w→wpAnyIn F dp P .any ops Q f L a w:=by
 have none_ready:∀(L:Array Bool),L.size=ops.size→Region.ready .any ops L=[]→∀i,i<ops.size→L.getD i false=true:=by
  intro L hs hr i;induction i using Nat.strongRecOn with
  | ind i ih=>
   intro hi;cases hc:L.getD i false with
   | true=>rfl
   | false=>
    have hm:i ∈ Region.ready .any ops L:=by
     refine mem_ready.2 ⟨?_,ops[i],Array.getElem?_eq_some_iff.2 ⟨hi,rfl⟩,fun e he _=> ?_⟩
     · have h1:i<L.size:=xo;simp [h1] at hc ⊢;exact hc
     · have:=hac i ops[i] (Array.getElem?_eq_some_iff.2 ⟨hi,rfl⟩) e he;exact ih e.on this xo
    rw [hr] at hm;cases hm
 intro f;induction f with
 | zero=>
  intro L a w hs hl hcl hI;have hall:=leftOf_zero (L:=L) ops.size xo;refine ⟨?_,done L a w hs hall hI⟩;rw [List.eq_nil_iff_forall_not_mem];intro i hi;obtain ⟨h1,o,ho,_⟩:=mem_ready.1 hi;have hlt:=(Array.getElem?_eq_some_iff.1 ho).1;have h2:=hall i hlt;have h3:i<L.size:=xo;simp [h3] at h1 h2;rw [h1] at h2;cases h2
 | succ f ih=>
  intro L a w hs hl hcl hI;refine ⟨fun hr=>done L a w hs (none_ready L hs hr) hI,fun i hi=> ?_⟩;obtain ⟨h1,o,ho,hall⟩:=mem_ready.1 hi;have hlt:=(Array.getElem?_eq_some_iff.1 ho).1;have h3:i<L.size:=xo;have h4:L.getD i false=false:=by simp [h3] at h1 ⊢;exact h1
  refine wpOpIn_mono (fun a' w' hI'=>ih _ a' w' (by simpa using hs) ?_ (hcl.set h3 ho hall) hI') (step L a w i o hs ho h4 hall hcl hI);have:=leftOf_set h3 h4 ops.size hlt;omega
def OpOkG (F:Fence) (dp:Nat) (P:Program) (ops:Array Oper) (Q:Exit→Act→World→Prop) (D:List Nat) (t0:Array Value) (n:Nat) (ds:List Deferred) (J:World→Prop) (Ext:World→World→Prop) (G:Nat→Value→World→Prop) (k:Nat) (o:Oper):Prop:=
  ∀ (u:Nat→Value) (a:Act) (w:World),(∀t,t<n→a.tmps.getD t undef=mixAt D u t0 t)→J w→
    (∀(j:Nat) (p:Oper),(o.after.any fun e=>Region.binds .any e&&e.on==j)=true→ops[j]? =some p→G j (valOf u p) w)→
    ∀K:Act→World→Prop,(∀v w',(o.dst=none→v=undef)→J w'→G k v w'→Ext w w'→K (a.put o.dst v) w')→if Region.wanted o (yielded ops a.tmps) then o.wpIn F dp P a w K Q else (∀f,o.about P w a.eval=some f→F.fn f)∧K (a.put o.dst undef) w
def OpsOkG (F:Fence) (dp:Nat) (P:Program) (ops:Array Oper) (Q:Exit→Act→World→Prop) (D:List Nat) (t0:Array Value) (n:Nat) (ds:List Deferred) (J:World→Prop) (Ext:World→World→Prop) (G:Nat→Value→World→Prop):Nat→List Oper→Prop
  | _,[]=>True
  | k,o::rest=>OpOkG F dp P ops Q D t0 n ds J Ext G k o∧OpsOkG F dp P ops Q D t0 n ds J Ext G (k+1) rest
theorem OpsOkG.at {D:List Nat} {t0:Array Value} {n:Nat} {ds:List Deferred} {J:World→Prop} {Ext:World→World→Prop} {G:Nat→Value→World→Prop}:∀ {l:List Oper} {k:Nat},OpsOkG F dp P ops Q D t0 n ds J Ext G k l→∀ {i:Nat} {o:Oper},l[i]? =some o→OpOkG F dp P ops Q D t0 n ds J Ext G (k+i) o
  | [],_,_,i,o,ho=>by simp at ho
  | x::rest,k,h,0,o,ho=>by simp at ho;subst ho;exact h.1
  | x::rest,k,h,i+1,o,ho=>by
   have:=OpsOkG.at h.2 (i:=i) (o:=o) (by simpa using ho);rwa [Nat.add_assoc,Nat.add_comm 1 i] at this
theorem wpOpIn_of_list {l:List Oper} {i:Nat} {o:Oper} {a:Act} {w:World} (ho:l[i]? =some o) (h:wpListIn F dp P l.toArray Q (l.drop i) a w):wpOpIn F dp P l.toArray Q i (wpListIn F dp P l.toArray Q (l.drop (i+1))) a w:=by
 have hi:=(List.getElem?_eq_some_iff.1 ho).1;have hd:l.drop i=o::l.drop (i+1):=by
  rw [List.drop_eq_getElem_cons hi];congr 1
  exact (List.getElem?_eq_some_iff.1 ho).2
 rw [hd] at h;unfold wpOpIn;simp only [List.getElem?_toArray,ho];exact h
def regionG (l:List Oper) (n:Nat):Bool:=
  (dstsOf l).Nodup&&(dstsOf l).all (fun d=>decide (d<n)) &&
  (List.range l.length).all fun i=>match l[i]? with|some o=>o.after.all fun e=>decide (e.on<i)|none=>true
theorem wpIn_region_facts {id:Nat} {l:List Oper} {t0:Array Value} {ds:List Deferred} {w0:World} {N:Nat} (n:Nat) (hm:P.follows .mixedOrders=true) (hn:t0.size=N) (hB:regionG (l.take n) N=true) (hT:tailM l n=true) (hle:n≤l.length)
    (J:World→Prop) (Ext:World→World→Prop) (G:Nat→Value→World→Prop) (hst:∀k x w w',Ext w w'→G k x w→G k x w') (hJ:J w0.drew)
    (hop:OpsOkG F dp P l.toArray Q (dstsOf (l.take n)) t0 N ds J Ext G 0 (l.take n))
    (hdone:∀(u:Nat→Value) (w:World),J w→(∀(k:Nat) (o:Oper),(l.take n)[k]? =some o→G k (valOf u o) w)→wpListIn F dp P l.toArray Q (l.drop n) {tmps:=mixFrame (dstsOf (l.take n)) u t0,defers:=ds} w):
    (Code.region id l.toArray true).wpIn F dp P Q {tmps:=t0,defers:=ds} w0:=by
 subst hn;simp only [regionG,Bool.and_eq_true,List.all_eq_true,decide_eq_true_eq] at hB;obtain ⟨⟨hnd,hlt⟩,hac⟩:=hB;simp only [tailM,List.all_eq_true,List.mem_range,Bool.or_eq_true,decide_eq_true_eq] at hT;have htk:∀ {k:Nat} {o:Oper},(l.take n)[k]? =some o↔k<n∧l[k]? =some o:=by
  intro k o;rw [List.getElem?_take];by_cases h:k<n
  · rw [if_pos h];exact ⟨fun h1=>⟨h,h1⟩,fun h1=>h1.2⟩
  · rw [if_neg h];exact ⟨fun h1=>(by cases h1),fun h1=>absurd h1.1 h⟩
 refine wpIn_region_any hm (wpAnyIn_inv (F:=F) (dp:=dp) (ops:=l.toArray)
   (fun L a w=>((∀i,n≤i→L.getD i false=false)∧∃u:Nat→Value,a= {tmps:=mixFrame (dstsOf (l.take n)) u t0,defers:=ds}∧J w∧∀(k:Nat) (o:Oper),(l.take n)[k]? =some o→L.getD k false=true→G k (valOf u o) w) ∨
     (∃m,n≤m∧m≤l.length∧(∀i,i<m→L.getD i false=true)∧(∀i,m≤i→L.getD i false=false)∧wpListIn F dp P l.toArray Q (l.drop m) a w))
   ?_ ?_ ?_ _ _ _ _ xsi (leftOf_le _ _) (fun j p hp hj=>by simp [Array.getD] at hj) (.inl ⟨fun i _=>by rw [List.size_toArray];simp [Array.getD],fun t=>t0.getD t undef,by rw [mixFrame_start],hJ,fun k o _ h=> ?_⟩))
 · intro i o ho e he;have hi:i<l.length:=(Array.getElem?_eq_some_iff.1 ho).1;rw [List.getElem?_toArray] at ho;by_cases hin:i<n
   · have h1:(l.take n)[i]? =some o:=htk.2 ⟨hin,ho⟩;have:=hac i (List.mem_range.2 (List.getElem?_eq_some_iff.1 h1).1);rw [h1] at this;have h2:=Array.all_eq_true_iff_forall_mem.1 this e he;simpa using h2
   · have h1:=hT i hi;rcases h1 with h1|h1
     · omega
     · rw [ho] at h1;simp only [Bool.and_eq_true] at h1;have h2:=Array.all_eq_true_iff_forall_mem.1 h1.2 e he;simpa using h2
 · rintro L a w i o hs ho hi hall hcl hI;rw [List.getElem?_toArray] at ho;have hil:i<l.length:=(List.getElem?_eq_some_iff.1 ho).1;have hilt:i<L.size:=by rw [hs];simpa using hil
   have ahead:n≤i→∀j,j<i→L.getD j false=true:=by
    intro hin j hj;have h1:=hT i hil;rcases h1 with h1|h1
    · omega
    · simp only [Bool.and_eq_true,decide_eq_true_eq] at h1;have hbit:((masksOf l []).getD i 0).testBit j=true:=by
       have h2:=congrArg (fun m=>Nat.testBit m j) h1.1;simp only [Nat.testBit_mod_two_pow,Nat.testBit_two_pow_sub_one,decide_eq_true hj,Bool.true_and] at h2;exact h2
      exact masks_sound hcl l [] 0 rfl (fun j=>by rw [Nat.zero_add]) (fun i hi=>by omega) i o ho hall j hbit
   have later:∀(m:Nat),n≤m→m=i→(∀j,m≤j→L.getD j false=false)→(∀j,j<m→L.getD j false=true)→wpListIn F dp P l.toArray Q (l.drop m) a w→
       wpOpIn F dp P l.toArray Q i (fun a' w'=>((∀k,n≤k→(L.setIfInBounds i true).getD k false=false)∧∃u:Nat→Value,a'= {tmps:=mixFrame (dstsOf (l.take n)) u t0,defers:=ds}∧J w'∧∀(k:Nat) (o:Oper),(l.take n)[k]? =some o→(L.setIfInBounds i true).getD k false=true→G k (valOf u o) w') ∨
         (∃m,n≤m∧m≤l.length∧(∀k,k<m→(L.setIfInBounds i true).getD k false=true)∧(∀k,m≤k→(L.setIfInBounds i true).getD k false=false)∧wpListIn F dp P l.toArray Q (l.drop m) a' w')) a w:=by
    rintro m hnm rfl hno hyes hw;refine wpOpIn_mono (fun a' w' h=> .inr ⟨m+1,by omega,by omega,fun k hk=> ?_,fun k hk=> ?_,h⟩) (wpOpIn_of_list ho hw)
    · by_cases e:k=m
      · subst e;exact set_same hilt
      · rw [set_else e];exact hyes k xo
    · rw [set_else xo];exact hno k xo
   rcases hI with ⟨hno,u,rfl,hJw,hG⟩ | ⟨m,hnm,hml,hyes,hno,hw⟩
   · by_cases hin:i<n
     · have htki:(l.take n)[i]? =some o:=htk.2 ⟨hin,ho⟩;have hok:=hop.at htki;rw [Nat.zero_add] at hok;unfold wpOpIn;simp only [List.getElem?_toArray,ho];refine hok u {tmps:=mixFrame (dstsOf (l.take n)) u t0,defers:=ds} w (fun t ht=>mixFrame_get ht) hJw (fun j p hj hp=> ?_) _ (fun v w' hv hJ' hG' hE=> ?_)
       · rw [List.getElem?_toArray] at hp;obtain ⟨e,he,hbe⟩:=Array.any_eq_true.1 hj;simp only [Bool.and_eq_true,beq_iff_eq] at hbe;have hl:=hall _ (Array.getElem_mem he) hbe.1;rw [hbe.2] at hl;have hjn:j<n:=by
          by_cases h:j<n
          · exact h
          · rw [hno j xo] at hl;cases hl
         exact hG j p (htk.2 ⟨hjn,hp⟩) hl
       · refine Or.inl ⟨fun k hk=>by rw [set_else xo];exact hno k hk,?_⟩;cases hd:o.dst with
         | none=>
          refine ⟨u,rfl,hJ',fun k p hp hk=> ?_⟩;by_cases e:k=i
          · subst e;obtain rfl:p=o:=Option.some.inj (hp.symm.trans htki);have:valOf u p=undef:=by simp [valOf,hd]
            rw [this,←hv hd];exact hG'
          · rw [set_else e] at hk;exact hst _ _ _ _ hE (hG k p hp hk)
         | some d=>
          have hdm:(dstsOf (l.take n)).contains d=true:=by
           simp only [List.contains_iff_mem];exact List.mem_filterMap.2 ⟨o,List.mem_of_getElem? htki,hd⟩
          refine ⟨fun t=>if t=d then v else u t,by simp only [Act.put,mixFrame_put hdm],hJ',fun k p hp hk=> ?_⟩;by_cases e:k=i
          · subst e;obtain rfl:p=o:=Option.some.inj (hp.symm.trans htki);simpa [valOf,hd] using hG'
          · rw [set_else e] at hk;have hne:=nodup_slot hnd htki hp (fun h=>e h.symm) hd;have:valOf (fun t=>if t=d then v else u t) p=valOf u p:=by
             unfold valOf;cases hpd:p.dst with
             | none=>rfl
             | some d'=>exact if_neg (fun h=>hne (by rw [hpd,h]))
            rw [this];exact hst _ _ _ _ hE (hG k p hp hk)
     · have hin':n=i:=by
         by_cases e:n=i
         · exact e
         · have:=ahead xo n xo;rw [hno n (Nat.le_refl _)] at this;cases this
       refine later n (Nat.le_refl _) hin' hno (fun j hj=>ahead xo j xo) (hdone u w hJw fun k p hp=>hG k p hp (ahead xo k ?_));have:=(htk.1 hp).1;omega
   · have him:m≤i:=by
       by_cases h:m≤i
       · exact h
       · have:=hyes i xo;rw [hi] at this;cases this
     have hmi:m=i:=by
      by_cases e:m=i
      · exact e
      · have:=ahead xo m xo;rw [hno m (Nat.le_refl _)] at this;cases this
     exact later m hnm hmi hno hyes hw
 · rintro L a w hs hall hI;rw [List.size_toArray] at hall;rcases hI with ⟨hno,u,rfl,hJw,hG⟩ | ⟨m,hnm,hml,hyes,hno,hw⟩
   · have hnl:n=l.length:=by
       by_cases e:n=l.length
       · exact e
       · have:=hall n xo;rw [hno n (Nat.le_refl _)] at this;cases this
     have hq:=hdone u w hJw fun k p hp=>hG k p hp (hall k (by have:=(htk.1 hp).1;omega))
     have hd:l.drop n=[]:=by rw [hnl];exact List.drop_length
     rw [hd] at hq;exact hq
   · have hml':m=l.length:=by
       by_cases e:m=l.length
       · exact e
       · have:=hall m xo;rw [hno m (Nat.le_refl _)] at this;cases this
     rw [hml',List.drop_length] at hw;exact hw
 · rw [List.size_toArray] at h;simp [Array.getD] at h
end
theorem wanted_yes {ops:Array Oper} {tmps:Array Value} {o:Oper} {j t:Nat} {b:Bool} (hg:o.guard=some (j,b)) (hd:(ops[j]?).bind (·.dst)=some t) (h:tmps.getD t undef= .bool b):Region.wanted o (yielded ops tmps)=true:=by
 have h2:tmps[t]? =some (.bool b):=by
  cases hx:tmps[t]? with
  | none=>rw [Array.getD_eq_getD_getElem?,hx] at h;cases h
  | some v=>rw [Array.getD_eq_getD_getElem?,hx] at h;simp at h;rw [h]
 simp [Region.wanted,hg,yielded,hd,h2]
theorem wanted_no {ops:Array Oper} {tmps:Array Value} {o:Oper} {j t:Nat} {b:Bool} (hg:o.guard=some (j,b)) (hd:(ops[j]?).bind (·.dst)=some t) (h:tmps.getD t undef= .bool (!b)):Region.wanted o (yielded ops tmps)=false:=by
 have h2:tmps[t]? =some (.bool (!b)):=by
  cases hx:tmps[t]? with
  | none=>rw [Array.getD_eq_getD_getElem?,hx] at h;cases h
  | some v=>rw [Array.getD_eq_getD_getElem?,hx] at h;simp at h;rw [h]
 simp [Region.wanted,hg,yielded,hd,h2]
theorem wanted_free {ops:Array Oper} {tmps:Array Value} {o:Oper} (hg:o.guard=none):Region.wanted o (yielded ops tmps)=true:=by simp [Region.wanted,hg]
end
section
open Go.RowKit Go.Shelf
attribute [local go_sem] Oper.semAt_some
def AnsB (w:World) (v:Value) (e:Ending) (w':World):Prop:=e= .returned v∧Below w.heap.size w w'
structure CntI (ws:List Int) (a b bo B:Nat) (w:World) (k:Nat) (W:World):Prop where
 box:W.cell? ⟨bo,0,none⟩=some (.int .i64 (cntP ws a b k))
 fz:W.frozen? ⟨bo,0,none⟩=false
 bel:Below B w W
theorem CntI.calm {ws:List Int} {a b bo B M:Nat} {w:World} {k:Nat} {W W':World} (h:CntI ws a b bo B w k W) (hc:Calm M W W') (hB:B≤M):CntI ws a b bo B w k W':=
  ⟨hc.cell h.box,hc.frozen h.box h.fz,hc.below hB h.bel⟩
theorem Count_ok (wa:Option Addr) (wc:Nat) (ws:List Int) (hu:U64s ws) (n a b:Nat) (hn:n≤65536) (hl:ws.length≤1000000000000) (hmay:wMayB ws n=true) (hab:a≤b) (hbn:b≤n) (w:World) (hw:IsRow .u64 w wa ws):
    Calls Tryz.prog 67 #[.slice wa ws.length wc,.int .i64 n,.int .i64 a,.int .i64 b] w (AnsB w (.tuple #[.int .i64 (cntW ws a b),.int .i64 0])):=by
 have AK:=hid (fun w hw=>asked_ok wa wc ws hu n hn hl hmay w hw);have hlen:n≤64*ws.length:=by
  simp only [wMayB,Bool.and_eq_true,decide_eq_true_eq] at hmay;omega
 have IT:=hid (fun S b1 b2 b3 s1 s2 s3 sw w hw c1 c2 c3=>parts1_iter wa wc ws hu a b hab xo xo hl S b1 b2 b3 s1 s2 s3 sw w hw c1 c2 c3);have HW:=hid hw;have HC:=hid (cntP_all hu hab);have HLT:=hid (fun x (h:wa=some x) (h0:0<ws.length)=>(show x.block<w.heap.size from by
  obtain ⟨bb,off,x',hx,-,-,hlt⟩:=hw.get h0;rw [hx] at h;cases h;exact hlt))
 obtain ⟨m,hm⟩:∃m,(b+63)/64-a/64=m:=⟨_,rfl⟩
 have HP:=hid (fun k (hk:k<m)=>partsL_get ws (a:=a) (b:=b) (k:=k) xo);have HPL:=hid ((partsL_length ws a b).trans hm);have HV:=hid (fun k (hk:k<m)=>cutV_bd hu (a:=a) (b:=b) (k:=a/64+k) xo);have HLE:=hid (cntP_le (ws:=ws) a b);have HS:=hid (cntP_succ ws a b);have hmb:m≤1024:=xo;rw [hm] at HC;obtain ⟨M,hM⟩:∃M,ws.length=M:=⟨_,rfl⟩
 have HM:=hid hM;rw [hM] at hlen hl AK IT HLT ⊢;clear hw hmay hM hu hm;refine calls_of_wp_m Tryz.func67 rfl ?_;simp only [Tryz.ntmps67,List.size_toArray,List.length_cons,List.length_nil,Nat.reduceAdd,Nat.reduceSub,Array.replicate_succ,Array.replicate_zero,List.push_toArray,List.append_toArray,List.nil_append,List.cons_append];go_wp2_with fail
 refine (AK.out _ (HW.out.below (br.alloc (Nat.le_refl _) _))).mono ?_;rintro e w' ⟨rfl,rfl⟩;go_wp2_with fail
 refine (parts_ok wa M wc a b _).mono ?_;rintro e w2 ⟨rfl,rfl⟩;go_wp2
 refine wp_range (xs:=partsL ws a b) (Kp:=KpS (fun k=>k≠w.heap.size∧k<w.heap.size+4)) rfl (enters_of Tryz.func155 xk rfl)
   (IT.out (fun k=>k≠w.heap.size∧k<w.heap.size+4) (w.heap.size+1) (w.heap.size+1+1) (w.heap.size+1+2) xo xo xo ?sw _ ?hw ?c1 ?c2 ?c3) br (fun _ _ _=>rfl) (fun h k=>fun i hi=>(k i hi).trans (h i hi)) ?kb ?ps
   (CntI ws a b w.heap.size w.heap.size w) (fun _ _=>False) ?hI (fun _ _ _ h _=>h) ?h0 ?round ?done (fun _ _ _ _ h _=>h.elim)
 case sw=>intro x hx h0;have:=HLT.out x hx h0;omega
 case hw=>exact HW.out.below xbel
 case c1=>(exact xcn)
 case c2=>(exact xcn)
 case c3=>(exact xcn)
 case kb=>
  intro W l o o' hl _ _ k hk;simp at hl;exact World.putObj_heap_other xo
 case ps=>
  intro x hx;simp only [partsL,List.mem_map] at hx;obtain ⟨k,_,rfl⟩:=hx;rfl
 case hI=>
  intro k W W' h hc;exact h.calm hc (by simp;omega)
 case h0=>
  exact ⟨by rw [cntP_zero];(exact xcn),by (exact xcn),by (exact xbel)⟩
 case round=>
  intro l k W hl hk hi;rw [HPL.out] at hk;rw [HP.out k hk];have hv:=HV.out k hk;have h1:=HLE.out k;have h2:=popI_le (cutV ws a b (a/64+k));have h3:=HS.out k;have O1:=hid (fun W=>Ones_ok (cutV ws a b (a/64+k)) hv.1 hv.2 W);generalize cutV ws a b (a/64+k)=x at *;generalize popI x=px at *;gi_wp2
  refine ⟨rfl,?_⟩;intro W2 hi2;have hcb:=hi2.box;have hfz:=hi2.fz;generalize cntP ws a b k=s at *;have H3:=hid h3;clear h3;gi_wp2
  refine wpIn_region_facts 4 xk (N:=42) rfl xk xk xdd (fun w'=>w'=W2.drew) (Ext 29) (factAt [.is (.int .i64 s),.is (.int .u64 x),.is (.int .i64 px),.is (.int .i64 (s+px))]) (factAt_stays _) rfl ?steps ?fin
  case steps=>
   refine ⟨?o0,?o1,?o2,?o3,trivial⟩
   case o0=>
    intro u a w' ev hJ hd K hK;have e1:tg a 8= .pointer (some ⟨w.heap.size,0,none⟩):=ev 8 xdd;have HK:=hid hK;subst hJ;clear hK ev hd;rw [if_pos (wanted_free rfl)];go_simp;exact HK.out _ _ xzc rfl rfl (Ext.refl _ _)
   case o1=>
    intro u a w' ev hJ hd K hK;have e1:tg a 12= .int .u64 x:=ev 12 xdd;have HK:=hid hK;subst hJ;clear hK ev hd;rw [if_pos (wanted_free rfl)];go_simp;exact HK.out _ _ xzc rfl rfl (Ext.refl _ _)
   case o2=>
    intro u a w' ev hJ hd K hK;have e1:tg a 38= .int .u64 x:=(ev 38 xdd).trans (hd 1 _ xk rfl);have HK:=hid hK;subst hJ;clear hK ev hd;rw [if_pos (wanted_free rfl)];go_simp;refine ⟨trivial,rfl,(callsIn_wide.2 (O1.out _)).mono ?_⟩;rintro e w'' ⟨rfl,rfl⟩;exact HK.out _ _ xzc rfl rfl (Ext.refl _ _)
   case o3=>
    intro u a w' ev hJ hd K hK;have e1:tg a 37= .int .i64 s:=(ev 37 xdd).trans (hd 0 _ xk rfl);have e2:tg a 39= .int .i64 px:=(ev 39 xdd).trans (hd 2 _ xk rfl);have HK:=hid hK;have hwr:IntKind.i64.wrap ((s:Int)+(px:Int))=(s:Int)+(px:Int):=IntWalk.i64_in _ xo;subst hJ;clear hK ev hd;rw [if_pos (wanted_free rfl)];go_simp;exact HK.out _ _ xzc rfl rfl (Ext.refl _ _)
  case fin=>
   intro u w2 hJ hG;have h3:u 40= .int .i64 (s+px):=hG 3 _ rfl;subst hJ;clear hG;simp only [mixFrame,mixL,dstsOf,List.take_succ_cons,List.take_zero,List.filterMap_cons,List.filterMap_nil,List.contains_cons,List.contains_nil,Nat.reduceBEq,Bool.or_false,Bool.false_or,Bool.or_true,Bool.true_or,if_true,if_false,Bool.false_eq_true,Nat.reduceAdd,Nat.zero_add,List.drop_succ_cons,List.drop_zero,h3];gi_wp2
   have e:((cntP ws a b (k+1):Nat):Int)=(s:Int)+(px:Int):=by rw [H3.out];push_cast;rfl
   refine ⟨(KeepsOthers.setCell W2 ⟨w.heap.size,0,none⟩ (.int .i64 ((s:Int)+px))).trans (keeps_drewN _ 1),fun i hi=>Below.heap_setCell W2 ⟨w.heap.size,0,none⟩ _ _ hi.1,⟨?_,?_,?_⟩⟩
   · rw [e];exact World.cell?_setCell_same _ _ _ hcb
   · rw [World.frozen?_drew,World.frozen?_setCell];exact hfz
   · exact (hi2.bel.setCell (Nat.le_refl _) _).drew
 case done=>
  intro D W hD hi hK;have hcb:=hi.box;have hfz:=hi.fz;rw [HPL.out,HC.out] at hcb;generalize cntW ws a b=s at *;go_wp2
  simp at hD;have hK2:(W.setCell ⟨w.heap.size,0,none⟩ (.int .i64 s)).heap[D]? =some (.deferred (some [])):=(Below.heap_setCell _ _ _ _ (by show D≠w.heap.size;omega)).trans hK;have hcalm:Calm (w.heap.size+1) (W.setCell ⟨w.heap.size,0,none⟩ (.int .i64 s)) ((W.setCell ⟨w.heap.size,0,none⟩ (.int .i64 s)).putObj D (.deferred none)):=Calm.putObj _ xo hK2 rfl;exact postM_one hK2 (results_ct rfl rfl (run_loadVar_one Tryz.underlying3 rfl (hcalm.cell (World.cell?_setCell_same _ _ _ hcb)))) ⟨rfl,hcalm.below xo (hi.bel.setCell (Nat.le_refl _) _)⟩
end
section
open Go
def Rep (d:Ieee.Datum) (n:Int):Prop:=∃s m i b,d= .number s m i∧b≤i∧b≤0∧Ieee.signed s m (i-b).toNat=n*2^(-b).toNat
theorem sg_mul (s:Bool) (m u v:Nat):Ieee.signed s m (u+v)=Ieee.signed s m u*2^v:=by
 unfold Ieee.signed;rw [Nat.shiftLeft_eq,Nat.shiftLeft_eq,Nat.pow_add,←Nat.mul_assoc];cases s<;>simp [Int.neg_mul]
theorem sg_xor (s t:Bool) (m n u v:Nat):Ieee.signed (s ^^ t) (m*n) (u+v)=Ieee.signed s m u*Ieee.signed t n v:=by
 unfold Ieee.signed;rw [Nat.shiftLeft_eq,Nat.shiftLeft_eq,Nat.shiftLeft_eq,Nat.pow_add];have e:m*n*(2^u*2^v)=(m*2^u)*(n*2^v):=by
  rw [Nat.mul_assoc,Nat.mul_assoc,←Nat.mul_assoc n,Nat.mul_comm n (2^u),Nat.mul_assoc]
 rw [e];cases s<;>cases t<;>simp [Int.neg_mul,Int.mul_neg]
theorem two_ne (k:Nat):(2:Int)^k≠0:=by
 have:(2:Int)^k=((2^k:Nat):Int):=by push_cast;rfl
 rw [this];have:=Nat.two_pow_pos k;omega
theorem rep_at {s:Bool} {m:Nat} {i:Int} {n:Int} (h:Rep (.number s m i) n) {b:Int} (h1:b≤i) (h2:b≤0):Ieee.signed s m (i-b).toNat=n*2^(-b).toNat:=by
 obtain ⟨s',m',i',b',e,h3,h4,h5⟩:=h;cases e;rcases Int.le_total b b' with hb|hb
 · obtain ⟨k,hk⟩:∃k:Nat,b'-b=k:=⟨(b'-b).toNat,by omega⟩
   rw [show (i-b).toNat=(i-b').toNat+k by omega,sg_mul,h5,show (-b).toNat=(-b').toNat+k by omega,Int.pow_add,Int.mul_assoc]
 · obtain ⟨k,hk⟩:∃k:Nat,b-b'=k:=⟨(b-b').toNat,by omega⟩
   rw [show (i-b').toNat=(i-b).toNat+k by omega,sg_mul,show (-b').toNat=(-b).toNat+k by omega,Int.pow_add,←Int.mul_assoc] at h5;exact Int.eq_of_mul_eq_mul_right (two_ne k) h5
theorem rep_num {d:Ieee.Datum} {n:Int} (h:Rep d n):∃s m i,d= .number s m i:=by
 obtain ⟨s,m,i,b,e,-⟩:=h;exact ⟨s,m,i,e⟩
theorem rep_product {d d':Ieee.Datum} {n n':Int} (h:Rep d n) (h':Rep d' n'):∃r,d.product d'=some r∧Rep r (n*n'):=by
 obtain ⟨s,m,i,b,rfl,h1,h2,h3⟩:=h;obtain ⟨t,k,j,c,rfl,g1,g2,g3⟩:=h';refine ⟨_,rfl,s ^^ t,m*k,i+j,b+c,rfl,by omega,by omega,?_⟩;rw [show (i+j-(b+c)).toNat=(i-b).toNat+(j-c).toNat by omega,sg_xor,h3,g3,show (-(b+c)).toNat=(-b).toNat+(-c).toNat by omega,Int.pow_add];rw [Int.mul_assoc,Int.mul_assoc,←Int.mul_assoc _ n',Int.mul_comm (2^(-b).toNat) n',Int.mul_assoc]
theorem sg_abs (x:Int) (z:Bool) (u:Nat):Ieee.signed (if x=0 then z else x<0) x.natAbs u=x*2^u:=by
 unfold Ieee.signed;rw [Nat.shiftLeft_eq];have e:((x.natAbs*2^u:Nat):Int)=(x.natAbs:Int)*2^u:=by push_cast;rfl
 rw [e];by_cases h0:x=0
 · subst h0;cases z<;>simp
 · rw [if_neg h0];by_cases h:x<0
   · simp only [h,decide_true,if_true];rw [←Int.neg_mul];congr 1
     omega
   · simp only [h,decide_false,Bool.false_eq_true,if_false];congr 1
     omega
theorem rep_sum {d d':Ieee.Datum} {n n':Int} (h:Rep d n) (h':Rep d' n'):∃r,d.sum d'=some r∧Rep r (n+n'):=by
 obtain ⟨s,m,i,rfl⟩:=rep_num h;obtain ⟨t,k,j,rfl⟩:=rep_num h';refine ⟨_,rfl,?_⟩;obtain ⟨b,hb⟩:∃b,min (min i j) 0=b:=⟨_,rfl⟩
 have r1:=rep_at h (b:=b) xo xo;have r2:=rep_at h' (b:=b) xo xo;refine ⟨_,_,_,b,rfl,by omega,by omega,?_⟩;rw [sg_abs];obtain ⟨c,hc⟩:∃c:Nat,min i j-b=c:=⟨(min i j-b).toNat,by omega⟩
 rw [Int.add_mul,show (min i j-b).toNat=c by omega,←sg_mul,←sg_mul,show (i-min i j).toNat+c=(i-b).toNat by omega,show (j-min i j).toNat+c=(j-b).toNat by omega,r1,r2,Int.add_mul]
theorem rep_opposite {d:Ieee.Datum} {n:Int} (h:Rep d n):Rep d.opposite (-n):=by
 obtain ⟨s,m,i,b,rfl,h1,h2,h3⟩:=h;refine ⟨!s,m,i,b,rfl,h1,h2,?_⟩;rw [Int.neg_mul,←h3];unfold Ieee.signed;cases s<;>simp
theorem rep_order {d d':Ieee.Datum} {n n':Int} (h:Rep d n) (h':Rep d' n'):d.order d'=some (compare n n'):=by
 obtain ⟨s,m,i,rfl⟩:=rep_num h;obtain ⟨t,k,j,rfl⟩:=rep_num h';obtain ⟨b,hb⟩:∃b,min (min i j) 0=b:=⟨_,rfl⟩
 have r1:=rep_at h (b:=b) xo xo;have r2:=rep_at h' (b:=b) xo xo;obtain ⟨c,hc⟩:∃c:Nat,min i j-b=c:=⟨(min i j-b).toNat,by omega⟩
 rw [show (i-b).toNat=(i-min i j).toNat+c by omega,sg_mul] at r1;rw [show (j-b).toNat=(j-min i j).toNat+c by omega,sg_mul] at r2;unfold Ieee.Datum.order;simp only [Option.some.injEq];generalize Ieee.signed s m (i-min i j).toNat=x at *;generalize Ieee.signed t k (j-min i j).toNat=y at *;have p1:(0:Int)<2^c:=by
  have:(2:Int)^c=((2^c:Nat):Int):=by push_cast;rfl
  rw [this];have:=Nat.two_pow_pos c;omega
 have p2:(0:Int)<2^(-b).toNat:=by
  have:(2:Int)^(-b).toNat=((2^(-b).toNat:Nat):Int):=by push_cast;rfl
  rw [this];have:=Nat.two_pow_pos (-b).toNat;omega
 have key:x<y↔n<n':=by
  constructor
  · intro hlt;have:=Int.mul_lt_mul_of_pos_right hlt p1;rw [r1,r2] at this;exact Int.lt_of_mul_lt_mul_right this (Int.le_of_lt p2)
  · intro hlt;have:=Int.mul_lt_mul_of_pos_right hlt p2;rw [←r1,←r2] at this;exact Int.lt_of_mul_lt_mul_right this (Int.le_of_lt p1)
 have key2:x=y↔n=n':=by
  constructor
  · rintro rfl;rw [r1] at r2;exact Int.eq_of_mul_eq_mul_right (Int.ne_of_gt p2) r2
  · rintro rfl;rw [←r2] at r1;exact Int.eq_of_mul_eq_mul_right (Int.ne_of_gt p1) r1
 simp only [compare,compareOfLessAndEq,key,key2]
theorem log2_mul_two (m:Nat) (hm:0<m) (u:Nat):(m*2^u).log2=m.log2+u:=by
 have hp:=Nat.two_pow_pos u;have h1:2^m.log2≤m:=(Nat.le_log2 xo).1 (Nat.le_refl _);have h2:m<2^(m.log2+1):=(Nat.log2_lt xo).1 (Nat.lt_succ_self _);have hne:m*2^u≠0:=Nat.mul_ne_zero xo xo;refine (Nat.log2_eq_iff hne).2 ⟨?_,?_⟩
 · rw [Nat.pow_add];exact Nat.mul_le_mul_right _ h1
 · rw [show m.log2+u+1=(m.log2+1)+u by omega,Nat.pow_add];exact (Nat.mul_lt_mul_right hp).2 h2
theorem read_at (w r:Nat) (neg:Bool) (h1:(w/Ieee.double.signWeight%2==1)=neg) (h2:w%Ieee.double.signWeight=r) (h3:¬r<Ieee.double.binade) (h4:r<Ieee.double.infRung):
    Ieee.double.read w= .number neg (Ieee.double.binade+r%Ieee.double.binade) (Ieee.double.leastPlace+(r/Ieee.double.binade-1:Nat)):=by
 unfold Ieee.Format.read;simp only [h1,h2,if_neg h3,if_pos h4]
theorem read_rung {s:Bool} {t K:Nat} (ht:t≤52) (h1:4503599627370496≤K) (h2:K<9007199254740992):
    Ieee.double.read (Ieee.double.word s (min ((1074-t)*4503599627370496+K) Ieee.double.infRung))= .number s K (-(t:Int)):=by
 have e1:Ieee.double.infRung=9218868437227405312:=by decide
 have e2:Ieee.double.signWeight=9223372036854775808:=by decide
 have e3:Ieee.double.binade=4503599627370496:=by decide
 have e4:Ieee.double.leastPlace= -1074:=by decide
 obtain ⟨r,hr⟩:∃r,(1074-t)*4503599627370496+K=r:=⟨_,rfl⟩
 have hm:min r Ieee.double.infRung=r:=Nat.min_eq_left (by rw [e1];omega);rw [hr,hm];have a1:Ieee.double.binade+r%Ieee.double.binade=K:=by rw [e3];omega
 have a2:Ieee.double.leastPlace+((r/Ieee.double.binade-1:Nat):Int)= -(t:Int):=by rw [e3,e4];omega
 have h3:¬r<Ieee.double.binade:=by rw [e3];omega
 have h4:r<Ieee.double.infRung:=by rw [e1];omega
 have hw:Ieee.double.word s r=if s then 9223372036854775808+r else r:=by unfold Ieee.Format.word;rw [e2]
 rw [hw];cases s with
 | true=>
  rw [if_pos rfl,read_at _ r true (by rw [e2,beq_iff_eq];omega) (by rw [e2];omega) h3 h4,a1,a2]
 | false=>
  rw [if_neg xdd,read_at _ r false (by rw [e2,beq_eq_false_iff_ne];omega) (by rw [e2];omega) h3 h4,a1,a2]
theorem cut_none (s:Bool) (n:Nat):Ieee.Toward.cut .even s n 0=n:=by
 simp [Ieee.Toward.cut,Nat.mod_one]
theorem cut_exact (s:Bool) (n d:Nat):Ieee.Toward.cut .even s (n*2^d) d=n:=by
 have hp:=Nat.two_pow_pos d;by_cases h0:n=0
 · subst h0;simp [Ieee.Toward.cut]
 · have hg:(1 <<< min d ((n*2^d).log2+2))=2^d:=by
     rw [log2_mul_two n xo,Nat.shiftLeft_eq,Nat.one_mul,Nat.min_eq_left xo]
   unfold Ieee.Toward.cut;simp only [hg,Nat.mul_div_cancel _ hp,Nat.mul_mod_left];simp
theorem rep_write {d:Ieee.Datum} {n:Int} (h:Rep d n) (hn:n.natAbs<9007199254740992):Rep (Ieee.double.read (Ieee.double.write d)) n:=by
 obtain ⟨s,m,e,rfl⟩:=rep_num h;obtain ⟨b,hb⟩:∃b,min e 0=b:=⟨_,rfl⟩
 have r:=rep_at h (b:=b) xo xo;obtain ⟨u,hu⟩:∃u,(e-b).toNat=u:=⟨_,rfl⟩
 obtain ⟨v,hv⟩:∃v,(-b).toNat=v:=⟨_,rfl⟩
 rw [hu,hv] at r;have huv:u=0∨v=0:=xo;have hev:e=(u:Int)-v:=xo
 -- the sizes alone
 have ra:m*2^u=n.natAbs*2^v:=by
  have:=congrArg Int.natAbs r;rw [Int.natAbs_mul] at this;have e2:((2:Int)^v).natAbs=2^v:=by
   have:(2:Int)^v=((2^v:Nat):Int):=by push_cast;rfl
   rw [this];rfl
  rw [e2] at this;rw [←this];unfold Ieee.signed;rw [Nat.shiftLeft_eq];cases s
  · rfl
  · simp only [if_true];omega
 have rs:s=true→n≤0:=fun hs=>by
  subst hs;apply Int.not_lt.1;intro hpos;unfold Ieee.signed at r;simp only [if_true] at r;have:(0:Int)<n*2^v:=Int.mul_pos hpos (by
   have:(2:Int)^v=((2^v:Nat):Int):=by push_cast;rfl
   rw [this];have:=Nat.two_pow_pos v;omega)
  omega
 have rs2:s=false→0≤n:=fun hs=>by
  subst hs;apply Int.not_lt.1;intro hneg;unfold Ieee.signed at r;simp only [Bool.false_eq_true,if_false] at r;have:n*2^v<0:=Int.mul_neg_of_neg_of_pos hneg (by
   have:(2:Int)^v=((2^v:Nat):Int):=by push_cast;rfl
   rw [this];have:=Nat.two_pow_pos v;omega)
  omega
 have hsn:∀K:Nat,∀t:Nat,K=n.natAbs*2^t→Rep (.number s K (-(t:Int))) n:=fun K t hK=>by
  refine ⟨s,K,_,-(t:Int),rfl,Int.le_refl _,by omega,?_⟩;rw [Int.sub_self,Int.neg_neg];unfold Ieee.signed;simp only [Int.toNat_zero,Nat.shiftLeft_zero,Int.toNat_natCast];have e2:((n.natAbs*2^t:Nat):Int)=(n.natAbs:Int)*2^t:=by push_cast;rfl
  rw [hK,e2];cases s with
  | true=>
   have:=rs rfl;simp only [if_true];rw [←Int.neg_mul];congr 1
   omega
  | false=>
   have:=rs2 rfl;simp only [Bool.false_eq_true,if_false];congr 1
   omega
 unfold Ieee.Format.write Ieee.Format.nearest;simp only;by_cases hm:m=0
 · rw [if_pos hm];have hn0:n=0:=by
    rw [hm,Nat.zero_mul] at ra;have:=Nat.two_pow_pos v;have:n.natAbs=0:=by
     rcases Nat.mul_eq_zero.1 ra.symm with h|h<;>omega
    omega
   subst hn0;refine ⟨s,0,-1074,-1074,?_,Int.le_refl _,by decide,?_⟩
   · cases s<;>decide
   · rw [Int.zero_mul];unfold Ieee.signed;rw [Nat.zero_shiftLeft];cases s<;>rfl
 · rw [if_neg hm];have hN:0<n.natAbs:=by
    apply Nat.pos_of_ne_zero;intro h0;rw [h0,Nat.zero_mul] at ra;have:=Nat.two_pow_pos u;rcases Nat.mul_eq_zero.1 ra with h|h<;>omega
   have hl:=congrArg Nat.log2 ra;rw [log2_mul_two m xo,log2_mul_two n.natAbs hN] at hl;have hN52:n.natAbs.log2≤52:=by
    have:n.natAbs.log2<53:=(Nat.log2_lt xo).2 (by simpa using hn);omega
   obtain ⟨t,ht⟩:∃t:Nat,52-n.natAbs.log2=t:=⟨_,rfl⟩
   have hlast:max (e+(m.log2:Int)-(Ieee.double.fractionBits:Nat)) Ieee.double.leastPlace= -(t:Int):=by
    have e4:Ieee.double.leastPlace= -1074:=by decide
    have e5:((Ieee.double.fractionBits:Nat):Int)=52:=by decide
    rw [e4,e5];omega
   rw [hlast]
   have hkept:Ieee.Toward.cut .even s (m <<< (e - -(t:Int)).toNat) (-(t:Int)-e).toNat=n.natAbs*2^t:=by
    rw [Nat.shiftLeft_eq];by_cases hc: -(t:Int)≤e
    · rw [show (-(t:Int)-e).toNat=0 by omega,cut_none];rcases huv with h|h
      · subst h;rw [Nat.pow_zero,Nat.mul_one] at ra;rw [ra,Nat.mul_assoc,←Nat.pow_add];congr 2
        omega
      · subst h;rw [Nat.pow_zero,Nat.mul_one] at ra;rw [←ra,Nat.mul_assoc,←Nat.pow_add];congr 2
        omega
    · rw [show (e - -(t:Int)).toNat=0 by omega,Nat.pow_zero,Nat.mul_one];obtain ⟨dp,hdp⟩:∃dp,(-(t:Int)-e).toNat=dp:=⟨_,rfl⟩
      rw [hdp];have hu0:u=0:=xo;subst hu0;rw [Nat.pow_zero,Nat.mul_one] at ra;have em:m=(n.natAbs*2^t)*2^dp:=by
       rw [ra,Nat.mul_assoc,←Nat.pow_add];congr 2
       omega
      rw [em];exact cut_exact s _ dp
   rw [hkept];have hK1:4503599627370496≤n.natAbs*2^t∧n.natAbs*2^t<9007199254740992:=by
    have h1:2^n.natAbs.log2≤n.natAbs:=(Nat.le_log2 xo).1 (Nat.le_refl _);have h2:n.natAbs<2^(n.natAbs.log2+1):=(Nat.log2_lt xo).1 (Nat.lt_succ_self _);have hp:=Nat.two_pow_pos t;constructor
    · have:=Nat.mul_le_mul_right (2^t) h1;rw [←Nat.pow_add,show n.natAbs.log2+t=52 by omega] at this;exact this
    · have:=(Nat.mul_lt_mul_right hp).2 h2;rw [←Nat.pow_add,show n.natAbs.log2+1+t=53 by omega] at this;exact this
   have e3:Ieee.double.binade=4503599627370496:=by decide
   have e4:(-(t:Int)-Ieee.double.leastPlace).toNat=1074-t:=by
    have e4:Ieee.double.leastPlace= -1074:=by decide
    rw [e4];omega
   rw [e3,e4,read_rung xo hK1.1 hK1.2];exact hsn _ t rfl
theorem read_neg (x:Nat):Ieee.double.read (x ^^^ 2^63)=(Ieee.double.read x).opposite:=by
 have e2:Ieee.double.signWeight=2^63:=by decide
 have h1:((x ^^^ 2^63)/Ieee.double.signWeight%2==1)= !(x/Ieee.double.signWeight%2==1):=by
  rw [e2];have t:∀y:Nat,(y/2^63%2==1)=y.testBit 63:=fun y=>by
   rw [Nat.testBit_eq_decide_div_mod_eq];rfl
  rw [t,t,Nat.testBit_xor,Nat.testBit_two_pow_self];simp
 have h2:(x ^^^ 2^63)%Ieee.double.signWeight=x%Ieee.double.signWeight:=by
  rw [e2];apply Nat.eq_of_testBit_eq;intro i;rw [Nat.testBit_mod_two_pow,Nat.testBit_mod_two_pow,Nat.testBit_xor,Nat.testBit_two_pow];by_cases h:i<63
  · have:¬63=i:=xo;simp [this]
  · simp [h]
 unfold Ieee.Format.read;simp only [h1,h2];split
 · rfl
 · split
   · rfl
   · split<;>rfl
theorem rep_neg {x:Nat} {n:Int} (h:Rep (Ieee.double.read x) n):Rep (Ieee.double.read (x ^^^ 2^63)) (-n):=by
 rw [read_neg];exact rep_opposite h
theorem rep_of (n:Int) (hn:n.natAbs<9007199254740992):Rep (Ieee.double.read (floatOfInt .f64 n)) n:=by
 refine rep_write (d:= .number (n<0) n.natAbs 0) ⟨_,_,0,0,rfl,Int.le_refl _,Int.le_refl _,?_⟩ hn;unfold Ieee.signed;by_cases h:n<0
 · simp [h];omega
 · simp [h];omega
theorem f64_mul {x y:Nat} {n m:Int} (hx:Rep (Ieee.double.read x) n) (hy:Rep (Ieee.double.read y) m) (h:(n*m).natAbs<9007199254740992):∃r,floatBits .mul .f64 x y=some r∧Rep (Ieee.double.read r) (n*m):=by
 obtain ⟨d,h1,h2⟩:=rep_product hx hy;exact ⟨_,by show ((Ieee.double.read x).product (Ieee.double.read y)).map _=_;rw [h1];rfl,rep_write h2 h⟩
theorem f64_add {x y:Nat} {n m:Int} (hx:Rep (Ieee.double.read x) n) (hy:Rep (Ieee.double.read y) m) (h:(n+m).natAbs<9007199254740992):∃r,floatBits .add .f64 x y=some r∧Rep (Ieee.double.read r) (n+m):=by
 obtain ⟨d,h1,h2⟩:=rep_sum hx hy;exact ⟨_,by show ((Ieee.double.read x).sum (Ieee.double.read y)).map _=_;rw [h1];rfl,rep_write h2 h⟩
theorem f64_sub {x y:Nat} {n m:Int} (hx:Rep (Ieee.double.read x) n) (hy:Rep (Ieee.double.read y) m) (h:(n-m).natAbs<9007199254740992):∃r,floatBits .sub .f64 x y=some r∧Rep (Ieee.double.read r) (n-m):=by
 obtain ⟨d,h1,h2⟩:=rep_sum hx (rep_opposite hy);rw [←Int.sub_eq_add_neg] at h2;exact ⟨_,by show ((Ieee.double.read x).sum (Ieee.double.read y).opposite).map _=_;rw [h1];rfl,rep_write h2 h⟩
theorem abs_mul_lt {a b:Int} (ha:a.natAbs<67108864) (hb:b.natAbs<67108864):(a*b).natAbs<4503599627370496:=by
 rw [Int.natAbs_mul];have h1:a.natAbs*b.natAbs≤67108863*67108863:=Nat.mul_le_mul xo xo;omega
theorem cross_bits {a b c d:Nat} {A B C D:Int} (ha:Rep (Ieee.double.read a) A) (hb:Rep (Ieee.double.read b) B) (hc:Rep (Ieee.double.read c) C) (hd:Rep (Ieee.double.read d) D)
    (bA:A.natAbs<67108864) (bB:B.natAbs<67108864) (bC:C.natAbs<67108864) (bD:D.natAbs<67108864):
    ∃re im,cMulBits a b c (d ^^^ 2^63)=some (re,im)∧Rep (Ieee.double.read im) (B*C-A*D):=by
 have hd':=rep_neg hd;have bD':(-D).natAbs<67108864:=xo;have p1:=abs_mul_lt bA bC;have p2:=abs_mul_lt bB bD';have p3:=abs_mul_lt bA bD';have p4:=abs_mul_lt bB bC;obtain ⟨ac,e1,r1⟩:=f64_mul ha hc xo;obtain ⟨bd,e2,r2⟩:=f64_mul hb hd' xo;obtain ⟨re,e3,r3⟩:=f64_sub r1 r2 xo;obtain ⟨ad,e4,r4⟩:=f64_mul ha hd' xo;obtain ⟨bc,e5,r5⟩:=f64_mul hb hc xo;obtain ⟨im,e6,r6⟩:=f64_add r4 r5 xo;refine ⟨re,im,?_,?_⟩
 · unfold cMulBits;simp only [e1,e2,e3,e4,e5,e6,Option.bind_some]
 · rw [show B*C-A*D=A * -D+B*C by rw [Int.mul_neg];omega];exact r6
theorem order_zero {x:Nat} {n:Int} (h:Rep (Ieee.double.read x) n):Ieee.double.order x 0=some (compare n 0):=by
 have h0:Rep (Ieee.double.read 0) 0:=by
  refine ⟨false,0,-1074,-1074,by decide,Int.le_refl _,by decide,?_⟩;rw [Int.zero_mul];unfold Ieee.signed;rw [Nat.zero_shiftLeft];rfl
 exact rep_order h h0
end
section
open Go.RowKit
theorem row_alloc (k:IntKind) (w:World) (xs:List Int) (t:TypeId):IsRow k (w.alloc (.cells (xs.map (Value.int k)).toArray t)) (some ⟨w.heap.size,0,none⟩) xs:=by
 intro i hi;refine ⟨w.heap.size,0,rfl,by simp,fun j hj=> ?_⟩;rw [World.cell?_alloc_at _ _ _ _ rfl,Nat.zero_add];simp [List.getD_eq_getElem?_getD,hj]
theorem small_ok (xs:List Int) (ca:Nat) (hl:xs.length≤100) (p:Option Addr) (w:World) (hw:IsRow .i64 w p xs) (hs:∀i,-67108864<xs.getD i 0∧xs.getD i 0<67108864):
    Calls Tryz.prog 173 #[.slice p xs.length ca] w fun e w'=>e= .returned (.bool true)∧w=w':=by
 have HW:=hid hw;have HS:=hid hs;obtain ⟨m,hm⟩:∃m,xs.length=m:=⟨_,rfl⟩
 have HM:=hid hm;rw [hm] at hl ⊢;clear hw hs hm;go_enter Tryz.func173,Tryz.ntmps173
 go_wp2
 go_loopg [7] m (fun gk iv wr=>∃i:Nat,i+gk=m∧iv= .int .i64 i∧wr=w)
 case atStart=>exact ⟨0,by omega,rfl,rfl⟩
 case round=>
  obtain ⟨i,hi,rfl,rfl⟩:=hrel;by_cases hlt:i<m
  · obtain ⟨b,off,x,rfl,hx,hc,-⟩:=HW.out.get (i:=i) (by rw [HM.out];exact hlt);have hb:=HS.out i;rw [hx.out] at hb;obtain ⟨hb1,hb2⟩:=hb;clear hx;go_wp2
    go_roundg (gk-1)
    case measure=>omega
    case rel=>exact ⟨i+1,by omega,by go_num,rfl⟩
  · go_wp2
    go_ret
    exact ⟨rfl,rfl⟩
def IsBools (w:World) (b:Nat) (l:List Bool):Prop:=∀i,i<l.length→w.cell? ⟨b,i,none⟩=some (.bool (l.getD i false))
theorem bools_alloc (w:World) (l:List Bool) (t:TypeId):IsBools (w.alloc (.cells (l.map Value.bool).toArray t)) w.heap.size l:=by
 intro i hi;rw [World.cell?_alloc_at _ _ _ _ rfl];simp [List.getD_eq_getElem?_getD,hi]
theorem all_ok (l:List Bool) (ca b:Nat) (hl:l.length≤100) (w:World) (hw:IsBools w b l):
    Calls Tryz.prog 136 #[.slice (some ⟨b,0,none⟩) l.length ca] w fun e w'=>e= .returned (.bool (l.all id))∧w=w':=by
 have HW:=hid hw;obtain ⟨m,hm⟩:∃m,l.length=m:=⟨_,rfl⟩
 have HM:=hid hm;obtain ⟨z,hz⟩:∃z,l.all id=z:=⟨_,rfl⟩
 have HZ:=hid hz;rw [hm] at hl ⊢;rw [hz];clear hw hm hz;go_enter Tryz.func136,Tryz.ntmps136
 go_wp2
 go_loopg [7] m (fun gk iv wr=>∃i:Nat,i+gk=m∧iv= .int .i64 i∧wr=w∧Hid (∀j,j<i→l.getD j false=true))
 case atStart=>exact ⟨0,by omega,rfl,rfl,hid fun j hj=>by omega⟩
 case round=>
  obtain ⟨i,hi,rfl,rfl,HF⟩:=hrel;by_cases hlt:i<m
  · have hc:=HW.out i (by rw [HM.out];exact hlt);cases hb:l.getD i false with
    | true=>
     rw [hb] at hc;have HB:=hid hb;clear hb;go_wp2
     go_roundg (gk-1)
     case measure=>omega
     case rel=>
      refine ⟨i+1,by omega,by go_num,rfl,hid fun j hj=> ?_⟩;by_cases e:j=i
      · rw [e];exact HB.out
      · exact HF.out j xo
    | false=>
     rw [hb] at hc;have hzf:z=false:=by
      rw [←HZ.out,List.all_eq_false];have hlm:i<l.length:=by rw [HM.out];exact hlt
      refine ⟨l[i],List.getElem_mem _,?_⟩;rw [List.getD_eq_getElem?_getD,List.getElem?_eq_getElem hlm,Option.getD_some] at hb;simp [hb]
     subst hzf;clear hb;go_wp2
     go_ret
     exact ⟨rfl,rfl⟩
  · have hzt:z=true:=by
      rw [←HZ.out,List.all_eq_true];intro x hx;obtain ⟨j,hj,rfl⟩:=List.mem_iff_getElem.1 hx;have:=HF.out j (by rw [HM.out] at hj;omega);rw [List.getD_eq_getElem?_getD,List.getElem?_eq_getElem hj,Option.getD_some] at this;exact this
    subst hzt;go_wp2
    go_ret
    exact ⟨rfl,rfl⟩
theorem cpower_ok (n lo hi:Int) (hh:hi≤9223372036854775807) (w:World):
    Calls Tryz.prog 137 #[.int .i64 n,.int .i64 lo,.int .i64 hi] w fun e w'=>e= .returned (.bool (powB n lo hi))∧w=w':=by
 by_cases c1:lo≤n
 · by_cases c2:n≤hi
   · have e:powB n lo hi=pwB n:=by simp [powB,c1,c2]
     rw [e];have PW:=hid (fun w=>Power_ok n xo w);generalize pwB n=b at *;clear e;go_enter Tryz.func137,Tryz.ntmps137
     go_wp2_with (go_at_call 166;refine (PW.out _).mono ?_;rintro e w' ⟨rfl,rfl⟩)
     go_ret
     exact ⟨rfl,rfl⟩
   · have e:powB n lo hi=false:=by simp [powB,c2]
     rw [e];clear e;go_enter Tryz.func137,Tryz.ntmps137
     go_wp2
     go_ret
     exact ⟨rfl,rfl⟩
 · have e:powB n lo hi=false:=by simp [powB,c1]
   rw [e];clear e;go_enter Tryz.func137,Tryz.ntmps137
   go_wp2
   go_ret
   exact ⟨rfl,rfl⟩
def SmI (n:Int):Prop:= -67108864<n∧n<67108864
theorem sm4 {a b c d:Int} (ha:SmI a) (hb:SmI b) (hc:SmI c) (hd:SmI d):∀i,-67108864 < [a,b,c,d].getD i 0∧ [a,b,c,d].getD i 0<67108864
  | 0=>ha
  | 1=>hb
  | 2=>hc
  | 3=>hd
  | _+4=>by simp
theorem Between_ok (a b c d:Int) (ha:SmI a) (hb:SmI b) (hc:SmI c) (hd:SmI d) (h1:1≤d) (h2:0≤c) (h3:c≤d) (r:Int) (hr:a*d+(b-a)*c=r) (w1:IntKind.i64.wrap (a*d)=a*d) (w2:IntKind.i64.wrap ((b-a)*c)=(b-a)*c) (w3:IntKind.i64.wrap (a*d+(b-a)*c)=a*d+(b-a)*c) (w4:IntKind.i64.wrap (b-a)=b-a) (w:World):
    Calls Tryz.prog 158 #[.int .i64 a,.int .i64 b,.int .i64 c,.int .i64 d] w (AnsB w (.tuple #[.int .i64 r,.int .i64 0])):=by
 have SM:=hid (fun W hw=>small_ok [a,b,c,d] 4 xsi (some ⟨w.heap.size,0,none⟩) W hw (sm4 ha hb hc hd));have HR:=hid hr;clear ha hb hc hd hr;go_enter Tryz.func158,Tryz.ntmps158
 go_wp2_with fail
 refine (SM.out _ (row_alloc .i64 w [a,b,c,d] _)).mono ?_;rintro e w' ⟨rfl,rfl⟩;go_wp2
 go_ret2
 exact ⟨by rw [←HR.out];rfl,br.alloc (Nat.le_refl _) _⟩
theorem Cross_ok (a b c d:Int) (ha:SmI a) (hb:SmI b) (hc:SmI c) (hd:SmI d) (w:World):
    Calls Tryz.prog 159 #[.int .i64 a,.int .i64 b,.int .i64 c,.int .i64 d] w (AnsB w (.tuple #[.int .i64 (crossV a b c d),.int .i64 0])):=by
 have ba:a.natAbs<67108864:=by have:=ha.1;have:=ha.2;omega
 have bb:b.natAbs<67108864:=by have:=hb.1;have:=hb.2;omega
 have bc:c.natAbs<67108864:=by have:=hc.1;have:=hc.2;omega
 have bd:d.natAbs<67108864:=by have:=hd.1;have:=hd.2;omega
 obtain ⟨re,im,hm,hi⟩:=cross_bits (rep_of a xo) (rep_of b xo) (rep_of c xo) (rep_of d xo) ba bb bc bd;have ho:=order_zero hi;rw [show (2:Nat)^63=9223372036854775808 by decide] at hm;have hop:=fun t w=>run_complex_mul (P:=Tryz.prog) w t _ _ _ _ re im hm
 have hng:∀x:Nat,Op.unary .neg (.float .f64 x)=pure (.float .f64 (x ^^^ 9223372036854775808)):=fun _=>rfl
 have SM:=hid (fun W hw=>small_ok [a,b,c,d] 4 xsi (some ⟨w.heap.size,0,none⟩) W hw (sm4 ha hb hc hd));unfold crossV;generalize b*c-a*d=z at *;clear ha hb hc hd ba bb bc bd hm hi;have hgt:∀t,binOp .gtr t (.float .f64 im) (.float .f64 0)=pure (.bool (decide (0<z))):=fun t=>by
  rw [binOp_float_cmp_gtr,show FloatKind.f64.format.order im 0=some (compare z 0) from ho];congr 2
  rcases Int.lt_trichotomy z 0 with h|h|h
  · rw [show compare z 0= .lt by simp [compare,compareOfLessAndEq,h]];simp;omega
  · subst h;rfl
  · rw [show compare z 0= .gt by simp [compare,compareOfLessAndEq,show ¬z<0 by omega,show ¬z=0 by omega]];simp;omega
 have hlt:∀t,binOp .lss t (.float .f64 im) (.float .f64 0)=pure (.bool (decide (z<0))):=fun t=>by
  rw [binOp_float_cmp_lss,show FloatKind.f64.format.order im 0=some (compare z 0) from ho];congr 2
  rcases Int.lt_trichotomy z 0 with h|h|h
  · rw [show compare z 0= .lt by simp [compare,compareOfLessAndEq,h]];simp;omega
  · subst h;rfl
  · rw [show compare z 0= .gt by simp [compare,compareOfLessAndEq,show ¬z<0 by omega,show ¬z=0 by omega]];simp;omega
 clear ho;by_cases c1:0<z
 · rw [if_pos c1];go_enter Tryz.func159,Tryz.ntmps159
   go_wp2_with fail
   refine (SM.out _ (row_alloc .i64 w [a,b,c,d] _)).mono ?_;rintro e w' ⟨rfl,rfl⟩;go_wp2_with (first|(simp only [hop])|(simp only [hng])|(simp only [hgt])|(simp only [hlt]))
   go_ret2
   exact ⟨rfl,br.alloc (Nat.le_refl _) _⟩
 · rw [if_neg c1];by_cases c2:z<0
   · rw [if_pos c2];go_enter Tryz.func159,Tryz.ntmps159
     go_wp2_with fail
     refine (SM.out _ (row_alloc .i64 w [a,b,c,d] _)).mono ?_;rintro e w' ⟨rfl,rfl⟩;go_wp2_with (first|(simp only [hop])|(simp only [hng])|(simp only [hgt])|(simp only [hlt]))
     go_ret2
     exact ⟨rfl,br.alloc (Nat.le_refl _) _⟩
   · rw [if_neg c2];go_enter Tryz.func159,Tryz.ntmps159
     go_wp2_with fail
     refine (SM.out _ (row_alloc .i64 w [a,b,c,d] _)).mono ?_;rintro e w' ⟨rfl,rfl⟩;go_wp2_with (first|(simp only [hop])|(simp only [hng])|(simp only [hgt])|(simp only [hlt]))
     go_ret2
     exact ⟨rfl,br.alloc (Nat.le_refl _) _⟩
end
end Go.Proofs.YtjhpblejlchhjaaGreatDoor

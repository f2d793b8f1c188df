/- Merged: DenPl, DenW, RangeE, Path, OccNx, OccNth. -/
import Derived.Test.YtjhpblejlchhjaaGreatDoorOmMovesP12
import Derived.Test.YtjhpblejlchhjaaGreatDoorOmMovesP11
import Derived.Test.YtjhpblejlchhjaaGreatDoorOmMovesP2
import Derived.Test.YtjhpblejlchhjaaGreatDoorOmMovesP6
import Derived.Test.YtjhpblejlchhjaaGreatDoorOmMovesP9
import Derived.Test.YtjhpblejlchhjaaGreatDoorOmMovesP3
namespace Go.Proofs.YtjhpblejlchhjaaGreatDoor
set_option maxRecDepth 100000
set_option maxHeartbeats 40000000
set_option linter.unusedVariables false
set_option linter.unusedSimpArgs false
section
open Go.RowKit
def okW (c:Cfg) (n:Int) (H h:Nat) (x:Int):Prop:=fulB c H h x=true∧sprB c n H h x=true
def cntH (ws:List Int) (a h i:Nat):Nat:=cntW ws (i*2^(a+h)) ((i+1)*2^(a+h))
def denW (c:Cfg) (n:Int) (a H:Nat) (ws:List Int):Prop:=∀h,h≤H→∀i,i<2^(H-h)→okW c n H h (cntH ws a h i)
theorem seg_pow (a h i:Nat):i*2^(a+h)=i*2^h*2^a:=by rw [Nat.pow_add,Nat.mul_comm (2^a),Nat.mul_assoc]
theorem denB_iff {c:Cfg} {s:SlC} {a H lw n:Nat} (g:SlGd s (2^a) lw n (2^H)):denB c s H=true↔denW c s.ks.length a H s.ws:=by
 have e:∀h,h≤H→∀i,i<2^(H-h)→sumC s.cs (i*2^h) ((i+1)*2^h)=(cntH s.ws a h i:Int):=by
  intro h hh i hi;have hb:(i+1)*2^h≤2^H:=by
   have:(i+1)*2^h≤2^(H-h)*2^h:=Nat.mul_le_mul_right _ hi;rwa [←Nat.pow_add,Nat.sub_add_cancel hh] at this
  rw [sumC_cnt2 g (Nat.mul_le_mul_right _ xo) hb,cntH,seg_pow,seg_pow]
 have ed:∀h,h≤H→s.cs.length/2^h=2^(H-h):=by
  intro h hh;rw [g.elc,Nat.pow_div hh xo]
 unfold denB denW rowB winB okW;simp only [List.all_eq_true,List.mem_range,Bool.and_eq_true];constructor
 · intro q h hh i hi;have:=q h xo i (by rw [ed h hh];exact hi);rwa [e h hh i hi] at this
 · intro q h hh i hi;have hh':h≤H:=xo;rw [ed h hh'] at hi;rw [e h hh' i hi];exact q h hh' i hi
theorem wnd_wide {a h j at_:Nat} (hj:h≤j):wnd a j at_*2^(a+j)≤wnd a h at_*2^(a+h)∧(wnd a h at_+1)*2^(a+h)≤(wnd a j at_+1)*2^(a+j):=by
 have e:2^(a+j)=2^(j-h)*2^(a+h):=by rw [←Nat.pow_add];congr 1;omega
 have e2:wnd a j at_=wnd a h at_/2^(j-h):=by
  unfold wnd;rw [e,Nat.mul_comm,Nat.div_div_eq_div_mul]
 have hp:=Nat.two_pow_pos (j-h);have h1:=Nat.lt_div_mul_add hp (a:=wnd a h at_);constructor
 · rw [e,e2,←Nat.mul_assoc];exact Nat.mul_le_mul_right _ (Nat.div_mul_le_self _ _)
 · rw [e,e2,←Nat.mul_assoc];refine Nat.mul_le_mul_right _ ?_;rw [Nat.succ_mul];exact h1
theorem win_apart {w i i':Nat} (h:i≠i'):(i+1)*w≤i'*w∨(i'+1)*w≤i*w:=by
 rcases Nat.lt_or_ge i i' with q|q
 · exact .inl (Nat.mul_le_mul_right _ q)
 · exact .inr (Nat.mul_le_mul_right _ xo)
theorem ok_share {c:Cfg} {size:Int} {a H j h m x:Nat} (k:CapC c size a H) (hjh:j<h) (hh:h≤H) (ok:okW c size H h (m:Int)) (h1:x*2^(h-j)<m+2^(h-j)) (h2:m<(x+1)*2^(h-j)):okW c size H j (x:Int):=by
 have e:j+(h-j)=h:=xo;obtain ⟨o1,o2⟩:=ok;rw [←e] at o1 o2;refine ⟨full_share k xo xo o1 h1,?_⟩;rw [sprB_or] at o2 ⊢;rcases o2 with o2|o2
 · exact .inl o2
 · exact .inr (spr_share k xo o2 h2)
theorem den_sp {c:Cfg} {z:SlC} {a H lw n at_ h:Nat} (k:CapC c n a H) (g:SlGd z (2^a) lw n (2^H)) (hh:h≤H) (hat:at_<n) {L:List (Int×Int)} (hL:L.length≤2^(a+h))
    (hout:∀j,j≤H→∀i,i<2^(H-j)→i≠wnd a j at_→okW c n H j (cntH z.ws a j i))
    (hup:∀j,h≤j→j≤H→∀x:Nat,x+cntH z.ws a h (wnd a h at_)=cntH z.ws a j (wnd a j at_)+L.length→okW c n H j (x:Int)):
    denW c n a H (spC z (wnd a h at_*2^(a+h)) ((wnd a h at_+1)*2^(a+h)) L).ws:=by
 have hn:n=2^a*2^H:=by have:=k.all;omega
 obtain ⟨b1,b2,b3,b4⟩:=wnd_bd (a:=a) (at_:=at_) hh (by rw [←hn];exact hat);have hlo:wnd a h at_*2^(a+h)≤(wnd a h at_+1)*2^(a+h):=Nat.mul_le_mul_right _ xo;have hhi:(wnd a h at_+1)*2^(a+h)≤n:=by rw [hn];exact b4
 have hw:(wnd a h at_+1)*2^(a+h)-wnd a h at_*2^(a+h)=2^(a+h):=by rw [Nat.succ_mul];omega
 have hLw:L.length≤(wnd a h at_+1)*2^(a+h)-wnd a h at_*2^(a+h):=by rw [hw];exact hL
 intro j hj i hi;obtain ⟨-,c2,c3,-⟩:=wnd_bd (a:=a) (at_:=at_) hj (by rw [←hn];exact hat);have hdis:(i+1)*2^(a+j)≤wnd a h at_*2^(a+h)∨(wnd a h at_+1)*2^(a+h)≤i*2^(a+j)→okW c n H j (cntH (spC z (wnd a h at_*2^(a+h)) ((wnd a h at_+1)*2^(a+h)) L).ws a j i):=by
  intro hd;have e:=cnt_out g hlo hhi hLw hd;unfold cntH;rw [e];refine hout j hj i hi fun e=> ?_
  rw [e] at hd;omega
 rcases Nat.lt_or_ge j h with q|q
 · have eP:2^(a+h)=2^(h-j)*2^(a+j):=by rw [←Nat.pow_add];congr 1;omega
   have hP:=Nat.two_pow_pos (h-j);have hwj:=Nat.two_pow_pos (a+j);rcases Nat.lt_trichotomy (i/2^(h-j)) (wnd a h at_) with r|r|r
   · have h1:i<wnd a h at_*2^(h-j):=(Nat.div_lt_iff_lt_mul hP).1 r;refine hdis (.inl ?_);rw [eP,←Nat.mul_assoc];exact Nat.mul_le_mul_right _ h1
   · obtain ⟨x,ex,x1,x2⟩:=cnt_part (lo:=wnd a h at_*2^(a+h)) (w:=2^(a+j)) (P:=2^(h-j)) (q:=i%2^(h-j)) g (by rw [←eP,←Nat.succ_mul];exact hhi) (by rw [←eP];exact hL) hwj hP (Nat.mod_lt _ hP);have ei:i*2^(a+j)=wnd a h at_*2^(a+h)+i%2^(h-j)*2^(a+j):=by
      rw [eP,←r,←Nat.mul_assoc,←Nat.add_mul,Nat.mul_comm (i/_),Nat.div_add_mod]
     have ei2:(i+1)*2^(a+j)=wnd a h at_*2^(a+h)+(i%2^(h-j)+1)*2^(a+j):=by
      rw [Nat.succ_mul,ei,Nat.succ_mul,Nat.add_assoc]
     have hs:(wnd a h at_+1)*2^(a+h)=wnd a h at_*2^(a+h)+2^(h-j)*2^(a+j):=by rw [Nat.succ_mul,←eP]
     have hm:=hup h (Nat.le_refl _) hh L.length xo;unfold cntH;rw [ei,ei2,hs,ex];exact ok_share k q hh hm x1 x2
   · have h1:(wnd a h at_+1)*2^(h-j)≤i:=(Nat.le_div_iff_mul_le hP).1 r;refine hdis (.inr ?_);rw [eP,←Nat.mul_assoc];exact Nat.mul_le_mul_right _ h1
 · obtain ⟨w1,w2⟩:=wnd_wide (a:=a) (at_:=at_) q;by_cases e:i=wnd a j at_
   · subst e;refine hup j q hj _ ?_;unfold cntH;have t1:=cntW_add (spC z (wnd a h at_*2^(a+h)) ((wnd a h at_+1)*2^(a+h)) L).ws w1 (Nat.le_trans hlo w2);have t2:=cntW_add (spC z (wnd a h at_*2^(a+h)) ((wnd a h at_+1)*2^(a+h)) L).ws hlo w2;have u1:=cntW_add z.ws w1 (Nat.le_trans hlo w2);have u2:=cntW_add z.ws hlo w2;have v1:=cnt_out g hlo hhi hLw (x:=wnd a j at_*2^(a+j)) (y:=wnd a h at_*2^(a+h)) (.inl (Nat.le_refl _));have v2:=cnt_out g hlo hhi hLw (x:=(wnd a h at_+1)*2^(a+h)) (y:=(wnd a j at_+1)*2^(a+j)) (.inr (Nat.le_refl _));have v3:=cnt_all g hlo hhi hLw;omega
   · rcases win_apart (w:=2^(a+j)) e with r|r
     · exact hdis (.inl (Nat.le_trans r w1))
     · exact hdis (.inr (Nat.le_trans w2 r))
theorem gapN_mk {c:Cfg} {z:SlC} {a H n:Nat} (k:CapC c n a H) (g:SlGd z (2^a) ((n+63)/64) n (2^H)):GapN c z a H:=by
 have hm:=gd_may g (pwB_two a) (pwB_two H) rfl;have hn:n=2^a*2^H:=by have:=k.all;omega
 have hm':=hm;simp only [slMay,Bool.and_eq_true] at hm';exact ⟨by rw [g.elk];exact k,g.seg,by rw [g.elk,hn],by rw [g.elv,hn],g.elc,cntB_bd g.seg hm'.2,hm⟩
theorem gapE_den {c:Cfg} {z:SlC} {a H n:Nat} (k:CapC c n a H) (g:SlGd z (2^a) ((n+63)/64) n (2^H)) (hmany:(cntW z.ws 0 n:Int)≤c.most) (hd:denW c n a H z.ws):gapE c z=0:=by
 have kn:=gapN_mk k g;have hs:sumC z.cs 0 z.cs.length=(cntW z.ws 0 n:Int):=by
  have:=sum_many kn g.u;rwa [manyC,g.elk] at this
 rw [gapE_may kn (by rw [g.seg,k.seg]) (by rw [hs];exact hmany),if_pos];rw [denB_iff g,g.elk];exact hd
theorem ok_more {c:Cfg} {size:Int} {a H h:Nat} (k:CapC c size a H) {x y:Int} (hf:fulB c H h y=true) (ok:okW c size H h x) (hxy:x≤y):okW c size H h y:=by
 obtain ⟨d0,d1,d2,d3,d4,d5,d6,d7,d8,d9,d10,d11,d12,d13,d14,d15,d16,d17⟩:=cfHead_num (cfMay_head k.may);refine ⟨hf,?_⟩;have o:=ok.2;rw [sprB_or] at o ⊢;rcases o with o|o
 · exact .inl o
 · exact .inr (sprN_more xo hxy o)
theorem ok_less {c:Cfg} {size:Int} {a H h:Nat} (k:CapC c size a H) {x y:Int} (hs:sprB c size H h y=true) (ok:okW c size H h x) (hxy:y≤x):okW c size H h y:=by
 obtain ⟨d0,d1,d2,d3,d4,d5,d6,d7,d8,d9,d10,d11,d12,d13,d14,d15,d16,d17⟩:=cfHead_num (cfMay_head k.may);exact ⟨fulB_less xo hxy ok.1,hs⟩
theorem cntH_in {c:Cfg} {s:SlC} {a H h at_:Nat} (k:GapN c s a H) (hu:U64s s.ws) (hh:h≤H) (hat:at_<s.ks.length):inH s a h at_=(cntH s.ws a h (wnd a h at_):Int):=in_cnt k hu hh hat
theorem wnd_lt {a H h at_:Nat} (hh:h≤H) (hat:at_<2^a*2^H):wnd a h at_<2^(H-h):=by
 have e1:2^a*2^H=2^(H-h)*2^(a+h):=by rw [←Nat.pow_add,←Nat.pow_add];congr 1;omega
 unfold wnd;rw [Nat.div_lt_iff_lt_mul (Nat.two_pow_pos _),←e1];exact hat
theorem many_sp {z:SlC} {S lw n lc lo hi:Nat} (g:SlGd z S lw n lc) (hlo:lo≤hi) (hhi:hi≤n) {L:List (Int×Int)} (hL:L.length≤hi-lo):cntW (spC z lo hi L).ws 0 n+cntW z.ws lo hi=cntW z.ws 0 n+L.length:=by
 have t1:=cntW_add (spC z lo hi L).ws (a:=0) (b:=lo) (d:=n) xo xo;have t2:=cntW_add (spC z lo hi L).ws (a:=lo) (b:=hi) (d:=n) hlo hhi;have u1:=cntW_add z.ws (a:=0) (b:=lo) (d:=n) xo xo;have u2:=cntW_add z.ws (a:=lo) (b:=hi) (d:=n) hlo hhi;have v1:=cnt_out g hlo hhi hL (x:=0) (y:=lo) (.inl (Nat.le_refl _));have v2:=cnt_out g hlo hhi hL (x:=hi) (y:=n) (.inr (Nat.le_refl _));have v3:=cnt_all g hlo hhi hL;omega
theorem put_den {c:Cfg} {s:SlC} {a H:Nat} (k:GapN c s a H) (hu:U64s s.ws) (hd:denB c s H=true) (hmost:(manyC s:Int)<c.most) {at_ h:Nat} (hat:at_<s.ks.length) (eh:topI (ovB c s a H at_) (H+1)+1=h) (hh:h≤H) {L:List (Int×Int)} (hL:L.length=cntH s.ws a h (wnd a h at_)+1) (hL2:L.length≤2^(a+h)):
    gapE c (spC s (wnd a h at_*2^(a+h)) ((wnd a h at_+1)*2^(a+h)) L)=0:=by
 obtain ⟨g,-⟩:=gapN_gd k hu;have hn:=k.nk;obtain ⟨-,-,-,b4⟩:=wnd_bd (a:=a) (at_:=at_) hh (by rw [←hn];exact hat);have hlo:wnd a h at_*2^(a+h)≤(wnd a h at_+1)*2^(a+h):=Nat.mul_le_mul_right _ xo;have hhi:(wnd a h at_+1)*2^(a+h)≤s.ks.length:=by rw [hn];exact b4
 have hw:(wnd a h at_+1)*2^(a+h)-wnd a h at_*2^(a+h)=2^(a+h):=by rw [Nat.succ_mul];omega
 rw [denB_iff g] at hd;have hov:∀j,h≤j→j≤H→fulB c H j (inH s a j at_+1)=true:=by
  intro j h1 h2;have:ovB c s a H at_ j=false:=by
   rcases topI_cases (ovB c s a H at_) (H+1) with ⟨e,hn⟩ | ⟨q,hq,e,hp,hn⟩
   · exact hn j xo
   · exact hn j xo xo
  unfold ovB at this;rwa [Bool.not_eq_false'] at this
 refine gapE_den k.cap (g.sp hlo hhi (by rw [hw];exact hL2)) ?_ (den_sp k.cap g hh hat hL2 (fun j hj i hi _=>hd j hj i hi) fun j h1 h2 x hx=> ?_)
 · have:=many_sp g hlo hhi (L:=L) (by rw [hw];exact hL2);unfold manyC at hmost;unfold cntH at hL;omega
 · have hf:=hov j h1 h2;rw [cntH_in k hu h2 hat] at hf;have hx2:x=cntH s.ws a j (wnd a j at_)+1:=xo;rw [hx2];exact ok_more k.cap (by push_cast;exact hf) (hd j h2 _ (wnd_lt h2 (by rw [←hn];exact hat))) (by push_cast;omega)
theorem cnt_tk {c:SlC} {S lw n lc:Nat} (h:SlGd c S lw n lc) {i:Nat} (hi:i<n) (hb:bitW c.ws i=true) (x y:Nat):cntW c.ws x y=cntW (tkC c i).ws x y+if x≤i∧i<y then 1 else 0:=
  cntW_clr h.u (by rw [h.elw];have:=h.wn;omega) hb x y
theorem take_in {c:Cfg} {s:SlC} {a H:Nat} (k:GapN c s a H) (hu:U64s s.ws) {at_:Nat} (hat:at_<s.ks.length) (hb:bitW s.ws at_=true):
    GapN c (tkC s at_) a H∧SlGd (tkC s at_) (2^a) ((s.ks.length+63)/64) s.ks.length (2^H)∧(tkC s at_).ks.length=s.ks.length∧
    (∀j,j≤H→∀i,i≠wnd a j at_→cntH (tkC s at_).ws a j i=cntH s.ws a j i)∧(∀j,j≤H→cntH (tkC s at_).ws a j (wnd a j at_)+1=cntH s.ws a j (wnd a j at_))∧manyC (tkC s at_)+1=manyC s:=by
 obtain ⟨g,-⟩:=gapN_gd k hu;have gt:=g.tk hat;have hn:=k.nk;refine ⟨gapN_mk k.cap gt,gt,gt.elk,fun j hj i hi=> ?_,fun j hj=> ?_,?_⟩
 · obtain ⟨-,c2,c3,-⟩:=wnd_bd (a:=a) (at_:=at_) hj (by rw [←hn];exact hat);have:=cnt_tk g hat hb (i*2^(a+j)) ((i+1)*2^(a+j));rw [if_neg (by rcases win_apart (w:=2^(a+j)) hi with r|r<;>omega)] at this;exact this.symm
 · obtain ⟨-,c2,c3,-⟩:=wnd_bd (a:=a) (at_:=at_) hj (by rw [←hn];exact hat);have:=cnt_tk g hat hb (wnd a j at_*2^(a+j)) ((wnd a j at_+1)*2^(a+j));rw [if_pos ⟨c2,c3⟩] at this;exact this.symm
 · have:=cnt_tk g hat hb 0 s.ks.length;rw [if_pos ⟨by omega,hat⟩] at this;unfold manyC;rw [gt.elk];exact this.symm
theorem take_den {c:Cfg} {s:SlC} {a H:Nat} (k:GapN c s a H) (hu:U64s s.ws) (hd:denB c s H=true) (hmost:(manyC s:Int)≤c.most) {at_:Nat} (hat:at_<s.ks.length) (hb:bitW s.ws at_=true):
    (topI (unfB c (tkC s at_) a H at_) (H+1)= -1→gapE c (tkC s at_)=0)∧
    (∀h:Nat,topI (unfB c (tkC s at_) a H at_) (H+1)+1=h→h≤H→∀L:List (Int×Int),L.length=cntH (tkC s at_).ws a h (wnd a h at_)→L.length≤2^(a+h)→
      gapE c (spC (tkC s at_) (wnd a h at_*2^(a+h)) ((wnd a h at_+1)*2^(a+h)) L)=0):=by
 obtain ⟨g,-⟩:=gapN_gd k hu;have hn:=k.nk;obtain ⟨kt,gt,ekt,t1,t2,t3⟩:=take_in k hu hat hb;rw [denB_iff g] at hd;have hsp:∀j,j≤H→topI (unfB c (tkC s at_) a H at_) (H+1)<(j:Int)→okW c s.ks.length H j (cntH (tkC s at_).ws a j (wnd a j at_)):=by
  intro j hj htop;have:unfB c (tkC s at_) a H at_ j=false:=by
   rcases topI_cases (unfB c (tkC s at_) a H at_) (H+1) with ⟨e,hn⟩ | ⟨q,hq,e,hp,hn⟩
   · exact hn j xo
   · exact hn j xo xo
  unfold unfB at this;rw [Bool.not_eq_false',cntH_in kt gt.u hj (by rw [ekt];exact hat),ekt] at this;have h2:=t2 j hj;exact ok_less k.cap this (hd j hj _ (wnd_lt hj (by rw [←hn];exact hat))) xo
 have hout:∀j,j≤H→∀i,i<2^(H-j)→i≠wnd a j at_→okW c s.ks.length H j (cntH (tkC s at_).ws a j i):=by
  intro j hj i hi hne;rw [t1 j hj i hne];exact hd j hj i hi
 have hmm:(cntW (tkC s at_).ws 0 s.ks.length:Int)≤c.most:=by
  unfold manyC at hmost t3;rw [ekt] at t3;omega
 constructor
 · intro e;refine gapE_den k.cap gt hmm fun j hj i hi=> ?_
   by_cases q:i=wnd a j at_
   · rw [q];exact hsp j hj xo
   · exact hout j hj i hi q
 · intro h eh hh L hL hL2;obtain ⟨-,-,-,b4⟩:=wnd_bd (a:=a) (at_:=at_) hh (by rw [←hn];exact hat);have hlo:wnd a h at_*2^(a+h)≤(wnd a h at_+1)*2^(a+h):=Nat.mul_le_mul_right _ xo;have hhi:(wnd a h at_+1)*2^(a+h)≤s.ks.length:=by rw [hn];exact b4
   have hw:(wnd a h at_+1)*2^(a+h)-wnd a h at_*2^(a+h)=2^(a+h):=by rw [Nat.succ_mul];omega
   refine gapE_den k.cap (gt.sp hlo hhi (by rw [hw];exact hL2)) ?_ (den_sp k.cap gt hh hat hL2 hout fun j h1 h2 x hx=> ?_)
   · have:=many_sp gt hlo hhi (L:=L) (by rw [hw];exact hL2);unfold cntH at hL;omega
   · have hx2:x=cntH (tkC s at_).ws a j (wnd a j at_):=xo;rw [hx2];exact hsp j h2 xo
end
section
open Go.RowKit
theorem wide_den {c:Cfg} {n a H:Nat} (k:CapC c n a H) (laid:Int) {L:List (Int×Int)} (hL:L.length≤n) (hmost:(L.length:Int)≤c.most) (ok:okW c n H H (L.length:Int)):gapE c (wideC (2^a) (2^H) laid L)=0:=by
 unfold wideC;have hn:n=2^a*2^H:=by have:=k.all;omega
 have ha4:2^2≤2^a:=Nat.pow_le_pow_right xo k.a2;have ha6:2^a≤2^6:=Nat.pow_le_pow_right xo k.a6;have g:=emptyL_gd (S:=2^a) (M:=2^H) xo xo (Nat.two_pow_pos H) k.big laid;subst hn;have hall:=cnt_all g (Nat.zero_le _) (Nat.le_refl _) (L:=L) xo;refine gapE_den k (g.sp (Nat.zero_le _) (Nat.le_refl _) xo) ?_ fun j hj i hi=> ?_
 · rw [hall];exact hmost
 · unfold cntH;have e:2^a*2^H=2^(H-j)*2^(a+j):=by rw [←Nat.pow_add,←Nat.pow_add];congr 1;omega
   rcases Nat.eq_or_lt_of_le hj with q|q
   · subst q;have:i=0:=by rw [Nat.sub_self] at hi;simpa using hi
     subst this;rw [Nat.zero_mul,Nat.zero_add,Nat.one_mul,Nat.pow_add];rw [hall];exact ok
   · obtain ⟨x,ex,x1,x2⟩:=cnt_part (lo:=0) (w:=2^(a+j)) (P:=2^(H-j)) (q:=i) g (by rw [Nat.zero_add,←e];exact Nat.le_refl _) (by rw [←e];exact hL) (Nat.two_pow_pos _) (Nat.two_pow_pos _) hi;simp only [Nat.zero_add] at ex;rw [←e] at ex;rw [ex];exact ok_share k q (Nat.le_refl _) ok x1 x2
theorem CapC.wtop {c:Cfg} {size:Int} {a H:Nat} (k:CapC c size a H):wdC c H=size:=by rw [wdC,k.seg,k.all];push_cast;rfl
theorem ful_top {c:Cfg} {size:Int} {a H:Nat} (k:CapC c size a H) {m:Int} (h:m*c.den≤c.rh*size):fulB c H H m=true:=by
 unfold fulB;rw [k.wtop];split
 · rw [decide_eq_true_eq,Int.mul_comm size];exact h
 · rw [decide_eq_true_eq,Int.sub_self,Int.mul_zero,Int.zero_add,Int.mul_right_comm,←Int.mul_assoc,Int.mul_comm size];exact Int.mul_le_mul_of_nonneg_right h xo
theorem spr_top {c:Cfg} {size:Int} {a H:Nat} (k:CapC c size a H) {m:Int} (h:size=c.least∨size*c.rl≤(m+1)*c.den):sprB c size H H m=true:=by
 rw [sprB_or];rcases h with h|h
 · exact .inl h
 · right;unfold sprN;rw [k.wtop,Int.sub_self,Int.mul_zero,Int.zero_add,Int.mul_right_comm,←Int.mul_assoc];exact Int.mul_le_mul_of_nonneg_right h xo
theorem takF_min (c:Cfg) (n:Int):∀(k:Nat) (size:Int),0≤size→takF c n k size=size∨∃t,takF c n k size=2*t∧0≤t∧c.rh*t<n*c.den
  | 0,size,_=> .inl rfl
  | k+1,size,h0=>by
   rw [takF];split
   · rename_i h
     rcases takF_min c n k (2*size) xo with e | ⟨t,e,h1,h2⟩
     · exact .inr ⟨size,e,h0,h⟩
     · exact .inr ⟨t,e,h1,h2⟩
   · exact .inl rfl
theorem takF_mono {c:Cfg} {n m:Int} (hd:0≤c.den) (hnm:n≤m):∀(k:Nat) (size:Int),0≤size→takF c n k size≤takF c m k size
  | 0,size,_=>Int.le_refl _
  | k+1,size,h0=>by
   have h1:=Int.mul_le_mul_of_nonneg_right hnm hd;have hb:=(takF_bd (c:=c) (n:=m) (k+1) size h0).1;rw [takF];split
   · rename_i h
     rw [takF,if_pos xo];exact takF_mono hd hnm k (2*size) xo
   · exact hb
theorem cap_taks {c:Cfg} {a:Nat} (hm:cfMay c=true) (hs:c.seg=((2^a:Nat):Int)) {n:Nat} (hn:(n:Int)≤c.most):∃H,CapC c (taks c n) a H∧okW c (taks c n) H H n∧(n:Int)≤taks c n:=by
 have hd:=cfMay_head hm;obtain ⟨d0,d1,d2,d3,d4,d5,d6,d7,d8,d9,d10,d11,d12,d13,d14,d15,d16,d17⟩:=cfHead_num hd;obtain ⟨H',e,hb,hle⟩:=cap_nat hd hs (n:=(n:Int)) xo xo;have tb:=taks_bd hd (n:=(n:Int)) xo xo;have hp:powB (taks c n) c.least (taks c c.most)=true:=by
  refine powB_iff.2 ⟨tb.2.2,takF_mono xo hn 20 c.least xo,?_⟩;rw [e,←Nat.pow_add];exact pwB_two _
 obtain ⟨a',H,k⟩:=capC_of hm hp;have haa:a'=a:=by
  have h1:=k.seg;rw [hs] at h1;have h2:2^a=2^a':=xo;exact Nat.le_antisymm ((Nat.pow_le_pow_iff_right (a:=2) xo).1 xo) ((Nat.pow_le_pow_iff_right (a:=2) xo).1 xo)
 subst haa;refine ⟨H,k,⟨ful_top k ?_,spr_top k ?_⟩,hle⟩
 · exact takF_takes (c:=c) (n:=(n:Int)) xo 20 c.least xo (tak_start xo xo xo d8 d9).1
 · rcases takF_min c n 20 c.least xo with q | ⟨t,q,h1,h2⟩
   · exact .inl q
   · right;have e1:taks c n=2*t:=q;rw [e1];have h3:4*c.rl≤c.rh:=xo;have h4:=Int.mul_le_mul_of_nonneg_right h3 h1;have h5:2*t*c.rl≤4*c.rl*t:=by
      have:0≤c.rl*t:=Int.mul_nonneg xo h1;have e2:2*t*c.rl=2*(c.rl*t):=by rw [Int.mul_assoc,Int.mul_comm t]
      have e3:4*c.rl*t=4*(c.rl*t):=Int.mul_assoc ..;omega
     have h6:(n:Int)*c.den≤((n:Int)+1)*c.den:=Int.mul_le_mul_of_nonneg_right xo xo;omega
theorem capM_pow {c:Cfg} {a H:Nat} {n:Nat} (k:CapC c (taks c n) a H):capM c n=2^H:=by
 rw [capM,k.all,k.seg,Int.toNat_natCast,Int.toNat_natCast,Nat.mul_div_cancel_left _ (Nat.two_pow_pos a)]
theorem cap_den {c:Cfg} {a:Nat} (hm:cfMay c=true) (hs:c.seg=((2^a:Nat):Int)) (laid:Int) {L:List (Int×Int)} (hn:(L.length:Int)≤c.most):gapE c (wideC (2^a) (capM c L.length) laid L)=0:=by
 obtain ⟨H,k,ok,hle⟩:=cap_taks hm hs hn;rw [capM_pow k];have e:=k.all;generalize taks c L.length=size at *;subst e;exact wide_den k laid xo hn ok
theorem nar_den {c:Cfg} {m:Nat}:∀(f:Nat) (size:Int) (a H:Nat),CapC c size a H→H<f→(m:Int)≤size→(m:Int)*c.den≤c.rh*size→∃H',H'≤H∧CapC c (narF c m f size) a H'∧(m:Int)≤narF c m f size∧okW c (narF c m f size) H' H' m
  | 0,_,_,_,_,h,_,_=>by omega
  | f+1,size,a,H,k,h,hm,hf=>by
   rw [narF,k.hgt];cases hs:sprB c size H H m with
   | true=>rw [if_pos rfl];exact ⟨H,Nat.le_refl _,k,hm,ful_top k hf,hs⟩
   | false=>
    rw [if_neg xdd];obtain ⟨H',rfl,k',h8⟩:=nar_step k hs;obtain ⟨d0,d1,d2,d3,d4,d5,d6,d7,d8,d9,d10,d11,d12,d13,d14,d15,d16,d17⟩:=cfHead_num (cfMay_head k.may);obtain ⟨H2,q1,q2,q3,q4⟩:=nar_den (m:=m) f (size/2) a H' k' xo xo (by
     have h1:(m:Int)*c.den≤(m:Int)*(2*c.rh):=Int.mul_le_mul_of_nonneg_left xo xo;have h2:c.rh*(2*(m:Int))≤c.rh*(size/2):=Int.mul_le_mul_of_nonneg_left xo xo;have e:(m:Int)*(2*c.rh)=c.rh*(2*(m:Int)):=by rw [Int.mul_comm,Int.mul_comm 2,Int.mul_assoc]
     omega)
    exact ⟨H2,by omega,q2,q3,q4⟩
end
section
open Go.RowKit
def IterE (P:Program) (gf:Nat) (lb:Array Value) (xs:List (Array Value)) (Kp:World→World→Prop) (w:World):Prop:=
  ∀ (l:Nat) (J Jx:Nat→World→Prop) (W:World),Below w.heap.size w W→(∀W1,¬J xs.length W1)→
    (∀k W1 W2,J k W1→Below W1.heap.size W1 W2→J k W2)→(∀k W1 W2,Jx k W1→Below W1.heap.size W1 W2→Jx k W2)→
    (∀k W1,k<xs.length→J k W1→YieldAt Fence.wide 0 P l (xs.getD k #[]) W1 fun e W'=>
     (e= .returned (.bool true)∧J (k+1) W'∧Kp W1 W')∨(e= .returned (.bool false)∧Jx (k+1) W'))→
    J 0 W→
    CallsIn Fence.wide 0 P gf (#[.func (.yield l) #[] #[]]++lb) W fun e W'=>(∃v,e= .returned v)∧(J xs.length W'∨∃k,k≤xs.length∧Jx k W')
theorem wp_range_e {P:Program} {g:Operand} {ps:Array Tmp} {assign body:Code} {Q:Exit→Act→World→Prop} {a:Act} {w:World}
    {gf:Nat} {lb:Array Value} (hg:a.eval g= .func (.func gf) #[] lb) (eg:∀args w,(callFunc gf args).run P w= .ok (.enter gf args) w)
    {xs:List (Array Value)} {Kp:World→World→Prop} {w0:World} (hseq:IterE P gf lb xs Kp w0) (hb0:Below w0.heap.size w0 w)
    (hKt:∀ {A B C:World},Kp A B→Kp B C→Kp A C) (hKb:∀(W:World) (l:Nat) (o o':Obj),w.heap.size≤l→W.heap[l]? =some o→o.isCells=false→Kp W (W.putObj l o'))
    (hps:∀x ∈ xs,x.size=ps.size)
    (I:Nat→World→Prop) (Ix:Code→World→Prop) (hI:∀k W W',I k W→Calm w.heap.size W W'→I k W') (hIx:∀c W W',Ix c W→Calm w.heap.size W W'→Ix c W') (h0:I 0 w)
    (hround:∀(l k:Nat) (W:World),w.heap.size≤l→k<xs.length→I k W→
      assign.wpIn (inRd l) 0 P (Exit.then (BodyOkW P l body w.heap.size Kp I Ix k W) (fun _ _ _=>False))
        {tmps:=(ps.zip (xs.getD k #[])).foldl (fun t (p,v)=>t.setIfInBounds p v) a.tmps,defers:=[]} W)
    (hno:∀W,¬I xs.length W)
    (hstop:∀(D:Nat) (c:Code) (W:World),w.heap.size≤D→Ix c W→W.heap[D]? =some (.deferred (some []))→c.wp P Q {a with defers:= {target:= .collected D,args:= #[]}::a.defers} W):
    (Code.rangeFunc g ps assign body).wp P Q a w:=by
 refine wpIn_wide (n:=0).1 (wpIn_rangeFunc ?_);intro fn hfn;obtain ⟨rec,hrec⟩:∃rec:LoopState→Option Code→Loop,rec=fun st pe=> {state:=st,pending:=pe,fn,tmps:=a.tmps,params:=ps,assign,body,defers:=w.heap.size}:=⟨_,rfl⟩
 obtain ⟨W1,hW1⟩:∃W1,(w.alloc (.deferred (some []))).alloc (.loop (rec .ready none))=W1:=⟨_,rfl⟩
 have hL1:W1.heap[w.heap.size+1]? =some (.loop (rec .ready none)):=by
  rw [←hW1];have:=World.alloc_heap_new (w.alloc (.deferred (some []))) (.loop (rec .ready none));rwa [World.size_alloc] at this
 have hK1:W1.heap[w.heap.size]? =some (.deferred (some [])):=by
  rw [←hW1];exact (Below.heap_alloc _ _ _ xsi).trans (World.alloc_heap_new w _)
 have hI1:I 0 W1:=by rw [←hW1];exact hI _ _ _ h0 ((Calm.alloc _ (Nat.le_refl _)).trans (Calm.alloc _ xsi))
 have hb1:Below w0.heap.size w0 W1:=by
  rw [←hW1];exact hb0.trans ((((Below.refl _ w).alloc (Nat.le_refl _) _).alloc xsi _).mono hb0.size)
 have calmOf:∀ {A C:World},w.heap.size≤A.heap.size→Below A.heap.size A C→Calm w.heap.size A C:=fun hs hb=>
  ⟨hb.os,hb.tape,hb.output,hb.size,fun k hk=>hb.block k xo,fun k o hk _=>(hb.block k (Array.getElem?_eq_some_iff.1 hk).1).trans hk⟩
 refine ⟨w.heap.size+1,[{target:= .collected w.heap.size,args:= #[]}],W1,{target:= .fn (.func gf) lb,args:= #[.func (.yield (w.heap.size+1)) #[] #[]]},W1,gf,
   #[.func (.yield (w.heap.size+1)) #[] #[]]++lb,W1,?_,?_,fun _ _=>trivial,?_,fun h=>(by cases h),?_⟩
 · rw [←hW1,hrec];exact run_enterLoop_outer _ _ _ _ _
 · simp only [resolve,hg];simp [go_sem]
 · simp [invoke,go_sem,eg]
 · refine (hseq (w.heap.size+1)
     (fun k W=>I k W∧W.heap[w.heap.size+1]? =some (.loop (rec .ready none))∧W.heap[w.heap.size]? =some (.deferred (some [])))
     (fun _ W=>∃c,Ix c W∧W.heap[w.heap.size+1]? =some (.loop (rec .done (some c)))∧W.heap[w.heap.size]? =some (.deferred (some [])))
     W1 hb1 (fun W h=>hno W h.1) ?_ ?_ ?_ ⟨hI1,hL1,hK1⟩).mono ?_
   · rintro k A C ⟨h1,h2,h3⟩ hb;have l2:=(Array.getElem?_eq_some_iff.1 h2).1;exact ⟨hI _ _ _ h1 (calmOf xo hb),(hb.block _ l2).trans h2,(hb.block _ xo).trans h3⟩
   · rintro k A C ⟨c,h1,h2,h3⟩ hb;have l2:=(Array.getElem?_eq_some_iff.1 h2).1;exact ⟨c,hIx _ _ _ h1 (calmOf xo hb),(hb.block _ l2).trans h2,(hb.block _ xo).trans h3⟩
   · -- one round
     rintro k W hkl ⟨hi,hl,hk⟩;have hlt:w.heap.size+1<W.heap.size:=(Array.getElem?_eq_some_iff.1 hl).1;have hsz:(xs.getD k #[]).size=ps.size:=by
      rw [List.getD_eq_getElem?_getD,List.getElem?_eq_getElem hkl];exact hps _ (List.getElem_mem _)
     have hy:=run_yield (P:=P) (args:=xs.getD k #[]) hl (by rw [hrec];exact hsz);rw [hrec] at hy;refine ⟨fn,_,assign,body,hy,roundIn_of_wpIn trivial (wpIn_mono (hround _ k W xo hkl hi) ?_)⟩;intro e a1 Wa hq;cases e with
     | normal=>
      obtain ⟨hks,hkpa,hbody⟩:=hq;have hl0:=hl;have hlt0:=hlt;replace hl:Wa.heap[w.heap.size+1]? =some (.loop (rec .ready none)):=hks.same _ _ hl0 (by rfl);replace hk:Wa.heap[w.heap.size]? =some (.deferred (some [])):=hks.same _ _ hk (by rfl);replace hlt:w.heap.size+1<Wa.heap.size:=(Array.getElem?_eq_some_iff.1 hl).1;refine ⟨_,run_beginRound hl (by rw [hrec]),?_⟩;have hl2:(Wa.putObj (w.heap.size+1) (.loop {rec .ready none with state:= .busy})).heap[w.heap.size+1]? =some (.loop {rec .ready none with state:= .busy}):=World.putObj_heap_same hlt;have hk2:(Wa.putObj (w.heap.size+1) (.loop {rec .ready none with state:= .busy})).heap[w.heap.size]? =some (.deferred (some [])):=(World.putObj_heap_other xo).trans hk;have hw2:Kp Wa (Wa.putObj (w.heap.size+1) (.loop {rec .ready none with state:= .busy})):=hKb _ _ _ _ xo hl rfl;have hi2:Calm w.heap.size Wa (Wa.putObj (w.heap.size+1) (.loop {rec .ready none with state:= .busy})):=Calm.putObj _ xo hl rfl;refine wpIn_mono (hbody _ hi2) ?_;have fin:∀(jump:Option Code) (W3:World),KeepsOthers (Wa.putObj (w.heap.size+1) (.loop {rec .ready none with state:= .busy})) W3→
          (Instr.endRound (w.heap.size+1) jump).run P W3= .ok (.bool jump.isNone) (W3.putObj (w.heap.size+1) (.loop (rec (if jump.isNone then .ready else .done) jump)))∧
          W3.heap[w.heap.size+1]? =some (.loop {rec .ready none with state:= .busy})∧
          (W3.putObj (w.heap.size+1) (.loop (rec (if jump.isNone then .ready else .done) jump))).heap[w.heap.size+1]? =some (.loop (rec (if jump.isNone then .ready else .done) jump))∧
          (W3.putObj (w.heap.size+1) (.loop (rec (if jump.isNone then .ready else .done) jump))).heap[w.heap.size]? =some (.deferred (some [])):=fun jump W3 hk3=>by
       have hl3:=hk3.same _ _ hl2 rfl;have:=run_endRound (P:=P) jump hl3;rw [hrec] at this ⊢;exact ⟨this,by rw [hrec] at hl3;exact hl3,World.putObj_heap_same (Array.getElem?_eq_some_iff.1 hl3).1,(World.putObj_heap_other xo).trans (hk3.same _ _ hk2 rfl)⟩
      rintro e a3 W3 hp;cases e with
      | normal=>
       obtain ⟨hk3,hkp3,hi3⟩:=hp;obtain ⟨hr,hl3,hl4,hk4⟩:=fin none W3 hk3;exact ⟨_,_,hr,.inl ⟨rfl,⟨hI _ _ _ hi3 (Calm.putObj _ xo hl3 rfl),hl4,hk4⟩,hKt (hKt (hKt hkpa hw2) hkp3) (hKb _ _ _ _ xo hl3 rfl)⟩⟩
      | ret=>
       obtain ⟨hk3,hi3⟩:=hp;obtain ⟨hr,hl3,hl4,hk4⟩:=fin (some .ret) W3 hk3;exact ⟨_,_,hr,.inr ⟨rfl,.ret,hIx _ _ _ hi3 (Calm.putObj _ xo hl3 rfl),hl4,hk4⟩⟩
      | exit id=>
       obtain ⟨hk3,hi3⟩:=hp;obtain ⟨hr,hl3,hl4,hk4⟩:=fin (some (.exit id)) W3 hk3;exact ⟨_,_,hr,.inr ⟨rfl,.exit id,hIx _ _ _ hi3 (Calm.putObj _ xo hl3 rfl),hl4,hk4⟩⟩
      | goto t=>
       obtain ⟨hk3,hi3⟩:=hp;obtain ⟨hr,hl3,hl4,hk4⟩:=fin (some (.goto t)) W3 hk3;exact ⟨_,_,hr,.inr ⟨rfl,.goto t,hIx _ _ _ hi3 (Calm.putObj _ xo hl3 rfl),hl4,hk4⟩⟩
      | panic ch=>exact hp.elim
      | outgrown=>exact hp.elim
     | ret=>exact hq.elim
     | exit id=>exact hq.elim
     | goto t=>exact hq.elim
     | panic ch=>exact hq.elim
     | outgrown=>exact hq.elim
   · -- behind the iterator
     rintro e W2 ⟨⟨v,rfl⟩,(⟨hi,hl,hk⟩ | ⟨k,_,c,hi,hl,hk⟩)⟩
     · exact (hno _ hi).elim
     · exact ⟨some c,_,by have:=run_endLoop (P:=P) hl (by rw [hrec];simp);rw [hrec] at this;exact this,wpIn_wide.2 (hstop _ c _ (Nat.le_refl _) (hIx _ _ _ hi (Calm.putObj _ xo hl rfl)) ((World.putObj_heap_other xo).trans hk))⟩
end
section
open Go.RowKit Go.Shelf
attribute [local go_sem] Oper.semAt_some
def winsL (a at_ N:Nat):List (Int×Int):=(List.range N).map fun h=>(((wnd a h at_*2^(a+h):Nat):Int),((wnd a h at_*2^(a+h):Nat):Int)+((2^(a+h):Nat):Int))
theorem winsL_length (a at_ N:Nat):(winsL a at_ N).length=N:=by simp [winsL]
theorem winsL_succ (a at_ N:Nat):winsL a at_ (N+1)=winsL a at_ N++[(((wnd a N at_*2^(a+N):Nat):Int),((wnd a N at_*2^(a+N):Nat):Int)+((2^(a+N):Nat):Int))]:=by simp [winsL,List.range_succ]
theorem winsL_get {a at_ N i:Nat} (h:i<N):(winsL a at_ N).getD i (0,0)=(((wnd a i at_*2^(a+i):Nat):Int),((wnd a i at_*2^(a+i):Nat):Int)+((2^(a+i):Nat):Int)):=by
 rw [List.getD_eq_getElem?_getD,winsL,List.getElem?_map,List.getElem?_range h];rfl
def winX (a at_ N:Nat):List (Array Value):=(List.range N).map fun (h:Nat)=> #[.int .i64 (h:Int),.agg #[.int .i64 ((wnd a h at_*2^(a+h):Nat):Int),.int .i64 (((wnd a h at_*2^(a+h):Nat):Int)+((2^(a+h):Nat):Int))]]
theorem winX_length (a at_ N:Nat):(winX a at_ N).length=N:=by simp [winX]
theorem winX_get {a at_ N i:Nat} (h:i<N):(winX a at_ N).getD i #[]= #[.int .i64 (i:Int),.agg #[.int .i64 ((wnd a i at_*2^(a+i):Nat):Int),.int .i64 (((wnd a i at_*2^(a+i):Nat):Int)+((2^(a+i):Nat):Int))]]:=by
 rw [List.getD_eq_getElem?_getD,winX,List.getElem?_map,List.getElem?_range h];rfl
theorem wnd_around {a h at_:Nat} (hat:at_≤65536) (hah:a+h≤16) (w:World):
    Calls Tryz.prog 142 #[.int .i64 ((2^(a+h):Nat):Int),.int .i64 at_] w (AnsB w (.agg #[.int .i64 ((wnd a h at_*2^(a+h):Nat):Int),.int .i64 (((wnd a h at_*2^(a+h):Nat):Int)+((2^(a+h):Nat):Int))])):=by
 have hp:=Nat.two_pow_pos (a+h);have hb:2^(a+h)≤2^16:=Nat.pow_le_pow_right xo hah;have hd:=Nat.div_mul_le_self at_ (2^(a+h));have e:=i64_andNot_pow (n:=at_) (e:=a+h) xo xo;refine around_ok _ _ _ ?_ xo xo xo ?_ w
 · unfold wnd;rw [←e];congr 1
   omega
 · unfold wnd;omega
theorem windows1_iter (a at_ N:Nat) (hat:at_≤65536) (hN:a+N≤17) (S:Nat→Prop) (b1 b2:Nat) (s1:S b1) (s2:S b2) (w:World) (c1:w.cell? ⟨b1,0,none⟩=some (.int .i64 ((2^a:Nat):Int))) (c2:w.cell? ⟨b2,0,none⟩=some (.int .i64 at_)):
    IterE Tryz.prog 174 #[.pointer (some ⟨b1,0,none⟩),.pointer (some ⟨b2,0,none⟩)] (winX a at_ N) (KpS S) w:=by
 intro l J Jx W hW hno hJ hJx hY h0;have HY:=hid hY;have HJ:=hid hJ;have HNO:=hid hno;have HLN:=hid (winX_length a at_ N);have HGT:=hid (fun k (h:k<N)=>winX_get (a:=a) (at_:=at_) h);have AR0:=hid (fun h (hh:h<N) W=>wnd_around (a:=a) (h:=h) hat xo W);have HSH:=hid (fun h (hh:h<N)=>(show IntKind.i64.wrap (((2^a:Nat):Int)*2^h)=((2^(a+h):Nat):Int) by
  have hb:2^(a+h)≤2^17:=Nat.pow_le_pow_right xo xo;have e:((2^a:Nat):Int)*2^h=((2^(a+h):Nat):Int):=by rw [Nat.pow_add];push_cast;rfl
  rw [e];generalize 2^(a+h)=P at hb;exact IntWalk.i64_in _ xo))
 have hc1:W.cell? ⟨b1,0,none⟩=some (.int .i64 ((2^a:Nat):Int)):=(hW.cell (p:=⟨b1,0,none⟩) (World.block_lt_of_cell? _ _ c1)).trans c1;have hc2:W.cell? ⟨b2,0,none⟩=some (.int .i64 at_):=(hW.cell (p:=⟨b2,0,none⟩) (World.block_lt_of_cell? _ _ c2)).trans c2;have HH0:=hid h0;clear hY hJ hJx hno h0 c1 c2;generalize winX a at_ N=xs at *;generalize ((2^a:Nat):Int)=sg at *;refine callsIn_of_wp Tryz.func174 rfl trivial ?_ rfl;simp only [Tryz.ntmps174,List.size_toArray,List.length_cons,List.length_nil,Nat.reduceAdd,Nat.reduceSub,Array.replicate_succ,Array.replicate_zero,List.push_toArray,List.append_toArray,List.nil_append,List.cons_append];gi_wp2
 gi_loopg [4] N (fun g iv wr=>∃i:Nat,i+g=N∧iv= .int .i64 i∧Hid (J i wr)∧wr.cell? ⟨b1,0,none⟩=some (.int .i64 sg)∧wr.cell? ⟨b2,0,none⟩=some (.int .i64 at_))
 case atStart=>exact ⟨0,by omega,rfl,HH0,hc1,hc2⟩
 case round=>
  obtain ⟨i,hi',rfl,HJ0,q1,q2⟩:=hrel;clear HH0 hc1 hc2;by_cases hlt:i<N
  · have AR:=hid (AR0.out i hlt);have hsh:=HSH.out i hlt;have hpa:=HGT.out i hlt;generalize ((2^(a+i):Nat):Int)=ww at *;generalize ((wnd a i at_*2^(a+i):Nat):Int)=lo at *;have hsd:decide (i<64)=true:=by simp;omega
    have HI2:=hid hi';clear hi';gi_wp2
    refine wpIn_region_facts 7 xk (N:=15) rfl xk xk xdd (fun w'=>Below wr.heap.size wr w') (Ext 26) (factAt [.is (.func (.yield l) #[] #[]),.is (.int .i64 i),.is (.int .i64 sg),.is (.int .i64 i),.is (.int .i64 ww),.is (.int .i64 at_),.is (.agg #[.int .i64 lo,.int .i64 (lo+ww)])]) (factAt_stays _) br.drew ?steps ?fin
    case steps=>
     refine ⟨?o0,?o1,?o2,?o3,?o4,?o5,?o6,trivial⟩
     case o0=>
      intro u a w' ev hJ hd K hK;rw [if_pos (wanted_free rfl)];have e0:tg a 0= .func (.yield l) #[] #[]:=ev 0 xdd;have HK:=hid hK;clear hK ev hd;go_simp;exact HK.out _ _ xzc hJ rfl (Ext.refl _ _)
     case o1=>
      intro u a w' ev hJ hd K hK;rw [if_pos (wanted_free rfl)];have e4:tg a 4= .int .i64 i:=ev 4 xdd;have HK:=hid hK;clear hK ev hd;go_simp;exact HK.out _ _ xzc hJ rfl (Ext.refl _ _)
     case o2=>
      intro u a w' ev hJ hd K hK;rw [if_pos (wanted_free rfl)];have e1:tg a 1= .pointer (some ⟨b1,0,none⟩):=ev 1 xdd;have g0:=((hJ.cell (p:=⟨b1,0,none⟩) (World.block_lt_of_cell? _ _ q1)).trans q1)
      have HK:=hid hK;clear hK ev hd;go_simp;exact HK.out _ _ xzc hJ rfl (Ext.refl _ _)
     case o3=>
      intro u a w' ev hJ hd K hK;rw [if_pos (wanted_free rfl)];have e4:tg a 4= .int .i64 i:=ev 4 xdd;have HK:=hid hK;clear hK ev hd;go_simp;exact HK.out _ _ xzc hJ rfl (Ext.refl _ _)
     case o4=>
      intro u a w' ev hJ hd K hK;rw [if_pos (wanted_free rfl)];have e7:tg a 7= .int .i64 sg:=(ev 7 xdd).trans (hd 2 _ xk rfl);have e8:tg a 8= .int .i64 i:=(ev 8 xdd).trans (hd 3 _ xk rfl);have HK:=hid hK;clear hK ev hd;go_simp;exact HK.out _ _ xzc hJ rfl (Ext.refl _ _)
     case o5=>
      intro u a w' ev hJ hd K hK;rw [if_pos (wanted_free rfl)];have e2:tg a 2= .pointer (some ⟨b2,0,none⟩):=ev 2 xdd;have g0:=((hJ.cell (p:=⟨b2,0,none⟩) (World.block_lt_of_cell? _ _ q2)).trans q2)
      have HK:=hid hK;clear hK ev hd;go_simp;exact HK.out _ _ xzc hJ rfl (Ext.refl _ _)
     case o6=>
      intro u a w' ev hJ hd K hK;rw [if_pos (wanted_free rfl)];have e9:tg a 9= .int .i64 ww:=(ev 9 xdd).trans (hd 4 _ xk rfl);have e10:tg a 10= .int .i64 at_:=(ev 10 xdd).trans (hd 5 _ xk rfl);have HK:=hid hK;have HJJ:=hid hJ;clear hK ev hd hJ;go_simp;refine ⟨trivial,rfl,(callsIn_wide.2 (AR.out _)).mono ?_⟩;rintro e w'' ⟨rfl,hb⟩;exact HK.out _ _ xzc (HJJ.out.trans (hb.mono HJJ.out.size)) rfl (Ext.below hb)
    case fin=>
     intro u w3 hBq hG;have h5:u 5= .func (.yield l) #[] #[]:=hG 0 _ rfl;have h6:u 6= .int .i64 i:=hG 1 _ rfl;have h11:u 11= .agg #[.int .i64 lo,.int .i64 (lo+ww)]:=hG 6 _ rfl;have k1:w3.cell? ⟨b1,0,none⟩=some (.int .i64 sg):=(hBq.cell (p:=⟨b1,0,none⟩) (World.block_lt_of_cell? _ _ q1)).trans q1;have k2:w3.cell? ⟨b2,0,none⟩=some (.int .i64 at_):=(hBq.cell (p:=⟨b2,0,none⟩) (World.block_lt_of_cell? _ _ q2)).trans q2;obtain ⟨fn,tmps,assign,body,hy,hR⟩:=HY.out i w3 (by rw [HLN.out];exact hlt) (HJ.out _ _ _ HJ0.out hBq);rw [hpa] at hy;clear hG hpa hBq q1 q2;simp only [mixFrame,mixL,dstsOf,List.take_succ_cons,List.take_zero,List.filterMap_cons,List.filterMap_nil,List.contains_cons,List.contains_nil,Nat.reduceBEq,Bool.or_false,Bool.false_or,Bool.or_true,Bool.true_or,if_true,if_false,Bool.false_eq_true,Nat.reduceAdd,Nat.zero_add,List.drop_succ_cons,List.drop_zero,h5,h6,h11];gi_wp2
     refine ⟨rfl,hR.mono ?_⟩;rintro e W3 (⟨rfl,hJ3,hk3⟩ | ⟨rfl,hJx3⟩)
     · have m1:W3.cell? ⟨b1,0,none⟩=some (.int .i64 sg):=hk3.cell (a:=⟨b1,0,none⟩) s1 k1;have m2:W3.cell? ⟨b2,0,none⟩=some (.int .i64 at_):=hk3.cell (a:=⟨b2,0,none⟩) s2 k2;have HJ3:=hid hJ3;clear hJ3 hk3 hy hR k1 k2;gi_wp2
       gi_roundg (gk-1)
       case measure=>have:=HI2.out;omega
       case rel=>exact ⟨i+1,by have:=HI2.out;omega,by go_num,HJ3,m1,m2⟩
     · have HJ3:=hid hJx3;clear hJx3 hy hR;gi_wp2
       exact bodyPost_end (results_none rfl _ _ _) rfl ⟨⟨_,rfl⟩,.inr ⟨i+1,by rw [HLN.out];omega,HJ3.out⟩⟩
  · exfalso
    have him:i=N:=xo;subst him;exact HNO.out _ (by rw [HLN.out];exact HJ0.out)
theorem windows_ok (sg at_:Int) (w:World):
    Calls Tryz.prog 160 #[.int .i64 sg,.int .i64 at_] w fun e w'=>e= .returned (.func (.func 174) #[] #[.pointer (some ⟨w.heap.size,0,none⟩),.pointer (some ⟨w.heap.size+1,0,none⟩)])∧
      w'=(w.alloc (.cells #[.int .i64 sg] 3)).alloc (.cells #[.int .i64 at_] 3):=by
 go_enter Tryz.func160,Tryz.ntmps160
 go_wp2
 go_ret
 exact ⟨rfl,rfl⟩
structure PathI (a at_ H B:Nat) (w:World) (k:Nat) (W:World):Prop where
 le:k≤H
 own:∃v,W.cell? ⟨B,0,none⟩=some v∧W.ownsRow (B+5) 122 2 v k ((prI (winsL a at_ k)).map (Value.int .i64))
 fz:W.frozen? ⟨B,0,none⟩=false
 hh:W.cell? ⟨B+2,0,none⟩=some (.int .i64 H)
 sz:B+5≤W.heap.size
 bel:Below B w W
theorem PathI.calm {a at_ H B M:Nat} {w:World} {k:Nat} {W W':World} (h:PathI a at_ H B w k W) (hc:Calm M W W') (hB:B≤M):PathI a at_ H B w k W':=by
 obtain ⟨h0,⟨v,h1,h2⟩,h3,h5,h6,h4⟩:=h;exact ⟨h0,⟨v,hc.cell h1,hc.owns h2⟩,hc.frozen h1 h3,hc.cell h5,Nat.le_trans h6 hc.size,hc.below hB h4⟩
structure PathX (a at_ H B:Nat) (w:World) (c:Code) (W:World):Prop where
 code:c= .exit 0
 own:∃v,W.cell? ⟨B,0,none⟩=some v∧W.ownsRow (B+5) 122 2 v (H+1) ((prI (winsL a at_ (H+1))).map (Value.int .i64))
 fz:W.frozen? ⟨B,0,none⟩=false
 bel:Below B w W
theorem PathX.calm {a at_ H B M:Nat} {w:World} {c:Code} {W W':World} (h:PathX a at_ H B w c W) (hc:Calm M W W') (hB:B≤M):PathX a at_ H B w c W':=by
 obtain ⟨h0,⟨v,h1,h2⟩,h3,h4⟩:=h;exact ⟨h0,⟨v,hc.cell h1,hc.owns h2⟩,hc.frozen h1 h3,hc.below hB h4⟩
theorem one_row {W : World} {b : Nat} {x : Int} (h : W.cell? ⟨b, 0,none⟩=some (.int .i64 x)):IsRow .i64 W (some ⟨b,0,none⟩) [x]:=by
 intro i hi;have:i=0:=by simpa using hi
 subst this
 exact ⟨b, 0, rfl, World.block_lt_of_cell? _ _ h, fun j hj => by have:j=0:=by simpa using hj
                                                                 subst this;exact h⟩
theorem Path_ok (seg size:Int) (a H:Nat) (k:WinC seg size a H) (at_:Nat) (hat:(at_:Int)<size) (w:World):
    Calls Tryz.prog 125 #[.int .i64 seg,.int .i64 size,.int .i64 at_] w (FreshW2 w (winsL a at_ (H+1)) (.int .i64 0)):=by
 obtain ⟨n1,n2,n3,n4,n5,n6,n7,n8,n9⟩:=k.nums;have hsg:=k.seg;have ha6:=k.a6;have haH:a+H≤16:=by
  have h1:2^(a+H)≤65536:=by rw [Nat.pow_add];exact k.big
  rcases Nat.lt_or_ge 16 (a+H) with q|q
  · have h2:=Nat.pow_lt_pow_right (a:=2) xo q;generalize 2^(a+H)=P at *;omega
  · exact q
 have AK:=hid (fun w p ca (hw:IsRow .i64 w p [(at_:Int)])=>wasked_ok seg size a H k p ca 1 [(at_:Int)] rfl xo (fun i hi=>by
  obtain rfl:i=0:=xo;exact ⟨by simp,by simpa using hat⟩) w hw)
 have IT:=hid (fun S b1 b2 s1 s2 w c1 c2=>windows1_iter a at_ (H+1) xo xo S b1 b2 s1 s2 w c1 c2);have HPL:=hid (winX_length a at_ (H+1));have HPG:=hid (fun k (h:k<H+1)=>winX_get (a:=a) (at_:=at_) h);have HSU:=hid (fun k=>winsL_succ a at_ k);have HLW:=hid (winsL_length a at_);rw [←hsg] at IT;clear k n5 n6 n7 hsg;refine calls_of_wp_m Tryz.func125 rfl ?_;simp only [Tryz.ntmps125,List.size_toArray,List.length_cons,List.length_nil,Nat.reduceAdd,Nat.reduceSub,Array.replicate_succ,Array.replicate_zero,List.push_toArray,List.append_toArray,List.nil_append,List.cons_append];go_wp2
 refine wp_scope_loop 0 (fun _ _ _=>False) rfl (fun _ _ _ h=>h.elim) ?_;intro HQ hH hpass;clear hH hpass;go_wp2_with fail
 refine (AK.out _ (some ⟨w.heap.size+1,0,none⟩) 1 (one_row ?_)).mono ?_
 · (exact xcn)
 rintro e w' ⟨rfl,rfl⟩;go_wp2
 refine wp_label ?_;go_wp2_with fail
 refine (windows_ok seg at_ _).mono ?_;rintro e w2 ⟨rfl,rfl⟩;go_wp2
 refine wp_range_e (xs:=winX a at_ (H+1)) (Kp:=KpS (fun k=>k≠w.heap.size∧k<w.heap.size+5)) rfl (enters_of Tryz.func174 xk rfl)
   (IT.out (fun k=>k≠w.heap.size∧k<w.heap.size+5) (w.heap.size+3) (w.heap.size+4) xo xo _ ?c1 ?c2) br (fun h k=>fun i hi=>(k i hi).trans (h i hi)) ?kb ?ps
   (PathI a at_ H w.heap.size w) (PathX a at_ H w.heap.size w) ?hI ?hX ?h0 ?round ?no ?stop
 case c1=>(exact xcn)
 case c2=>(exact xcn)
 case kb=>
  intro W l o o' hl _ _ k hk;simp at hl;exact World.putObj_heap_other xo
 case ps=>
  intro x hx;simp only [winX,List.mem_map] at hx;obtain ⟨k,_,rfl⟩:=hx;rfl
 case hI=>
  intro k W W' h hc;exact h.calm hc (by simp;omega)
 case hX=>
  intro k W W' h hc;exact h.calm hc (by simp;omega)
 case no=>
  intro W h;rw [HPL.out] at h;have:=h.le;omega
 case h0=>
  exact ⟨Nat.zero_le _,⟨_,by (exact xcn),World.ownsRow_nil _ _ _ _⟩,by (exact xcn),by (exact xcn),by first|(simp;done)|(simp;omega),by (exact xbel)⟩
 case round=>
  intro q k W hq hk hi;rw [HPL.out] at hk;rw [HPG.out k hk];have hsu:=hid (HSU.out k);obtain ⟨hle,⟨v,hv,ho⟩,hfz,hhh,hsz,hbel⟩:=hi;have hlt1:(prI (winsL a at_ k)).length=k*2:=by rw [prI_length,HLW.out]
  generalize ((wnd a k at_*2^(a+k):Nat):Int)=x at *;generalize x+((2^(a+k):Nat):Int)=y at *;have hzb:w.heap.size<W.heap.size:=World.block_lt_of_cell? _ _ hv;have hzb2:w.heap.size+2<W.heap.size:=World.block_lt_of_cell? _ _ hhh;obtain ⟨ao,co,rfl,-⟩:=owns_news ho;gi_wp2
  have hab:Below W.heap.size W (W.alloc (.cells #[.int .i64 x,.int .i64 y] 122)):=br.alloc (Nat.le_refl _) _;refine ⟨keeps_below hab,fun i hi=>hab.block i xo,?_⟩;intro W2 hc;have hc0:W2.cell? ⟨W.heap.size,0,none⟩=some (.int .i64 x):=hc.cell xcw;have hc1:W2.cell? ⟨W.heap.size,1,none⟩=some (.int .i64 y):=hc.cell xcw;have hv2:W2.cell? ⟨w.heap.size,0,none⟩=some (.slice ao k co):=hc.cell ((hab.cell (p:=⟨w.heap.size,0,none⟩) hzb).trans hv);have hh2:W2.cell? ⟨w.heap.size+2,0,none⟩=some (.int .i64 H):=hc.cell ((hab.cell (p:=⟨w.heap.size+2,0,none⟩) hzb2).trans hhh);have hfz2:W2.frozen? ⟨w.heap.size,0,none⟩=false:=hc.frozen ((hab.cell (p:=⟨w.heap.size,0,none⟩) hzb).trans hv) ((hab.frozen (p:=⟨w.heap.size,0,none⟩) hzb).trans hfz);have ho2:=hc.owns (owns_below ho hab);have hbel2:Below w.heap.size w W2:=hc.below (by simp;omega) (below_via hab hbel xo);have hz2:=hbel2.size;have hz5:w.heap.size+5≤W2.heap.size:=Nat.le_trans hsz (Nat.le_trans xsi hc.size);have HO2:=hid ho2;have HB2:=hid hbel2;have hzw:w.heap.size<W2.heap.size:=World.block_lt_of_cell? _ _ hv2;have hzw2:w.heap.size+2<W2.heap.size:=World.block_lt_of_cell? _ _ hh2;clear ho hbel hab hc ho2 hbel2 hv hfz hhh
  gi_wp2_with (gi_at_builtin;refine wpListIn_append_own _ rfl (.tmp 27) (.tmp 29) 117 rfl (w.heap.size+5) 122 _ (.agg #[.int .i64 0,.int .i64 0]) 2 16 Tryz.underlying117 (info_parts info_w2).choose_spec.1 (info_parts info_w2).choose_spec.2.1 (info_parts info_w2).choose_spec.2.2.1 (info_parts info_w2).choose_spec.2.2.2 rfl xdd _ k _ rfl (HO2.out.alloc (.cells #[.int .i64 x,.int .i64 y] 122)) ⟨W2.heap.size,0,none⟩ 1 1 [.int .i64 x,.int .i64 y] rfl rfl (new_cells _ [.int .i64 x,.int .i64 y] _ _ rfl _ rfl) (by simp [Value.oneCell']) (by unfold maxLen;omega) xo (by simp;omega) ?_;intro v' w3 ho3 hg3 _
               obtain ⟨a3,c3,rfl,-⟩:=owns_news ho3;have hne3:∀z,z<w.heap.size+5→some z≠(Value.slice ao k co).ownBlock:=fun z hz e=>(by have:=(HO2.out.lt _ e.symm).1;omega)
               have hbl3:=hg3.block w.heap.size (by simp;omega) (hne3 _ xo);have hv3:w3.cell? ⟨w.heap.size,0,none⟩=some (.slice ao k co):=(World.cell?_of_block (a:=⟨w.heap.size,0,none⟩) hbl3).trans ((((Below.refl _ W2).alloc (Nat.le_refl _) _).cell (p:=⟨w.heap.size,0,none⟩) hzw).trans hv2);have hfz3:w3.frozen? ⟨w.heap.size,0,none⟩=false:=(World.frozen?_of_block (a:=⟨w.heap.size,0,none⟩) hbl3).trans ((((Below.refl _ W2).alloc (Nat.le_refl _) _).frozen (p:=⟨w.heap.size,0,none⟩) hzw).trans hfz2);have hh3:w3.cell? ⟨w.heap.size+2,0,none⟩=some (.int .i64 H):=(World.cell?_of_block (a:=⟨w.heap.size+2,0,none⟩) (hg3.block (w.heap.size+2) (by simp;omega) (hne3 _ xo))).trans ((((Below.refl _ W2).alloc (Nat.le_refl _) _).cell (p:=⟨w.heap.size+2,0,none⟩) hzw2).trans hh2);have HO3:=hid ho3;have HG3:=hid hg3;have hkh:decide (k=H)=decide (k=H):=rfl;clear ho3 hg3 hbl3 hne3;by_cases hkH:k=H)
  all_goals
    have hB3:Below w.heap.size w w3:=(HB2.out.alloc xo (.cells #[.int .i64 x,.int .i64 y] 122)).grown HG3.out (by simp;omega) (fun z hz=>by have:=(HO2.out.lt _ hz).1;omega);have hK3:KeepsOthers W2 w3:=(keeps_below (((Below.refl _ W2).alloc (Nat.le_refl _) _))).trans (KeepsOthers.of_grownBy HG3.out (own_isCells (HO2.out.alloc _)))
  · refine ⟨hK3.trans (KeepsOthers.setCell _ _ _),⟨rfl,⟨_,World.cell?_setCell_same _ _ _ hv3,?_⟩,by rw [World.frozen?_setCell];exact hfz3,hB3.setCell (Nat.le_refl _) _⟩⟩;rw [←hkH,hsu.out,prI_append,List.map_append];exact owns_heap HO3.out fun z hz=>Below.heap_setCell _ _ _ _ (by have:=(HO3.out.lt _ hz).1;show z≠w.heap.size;omega)
  · refine ⟨hK3.trans (KeepsOthers.setCell _ _ _),fun i hi=> ?_,⟨by omega,⟨_,World.cell?_setCell_same _ _ _ hv3,?_⟩,?_,?_,?_,hB3.setCell (Nat.le_refl _) _⟩⟩
    · rw [Below.heap_setCell _ _ _ _ (show i≠w.heap.size from hi.1),HG3.out.block i (by simp;omega) (fun e=>by have:=(HO2.out.lt _ e.symm).1;omega)];exact ((Below.refl _ W2).alloc (Nat.le_refl _) _).block i xo
    · rw [hsu.out,prI_append,List.map_append];exact owns_heap HO3.out fun z hz=>Below.heap_setCell _ _ _ _ (by have:=(HO3.out.lt _ hz).1;show z≠w.heap.size;omega)
    · rw [World.frozen?_setCell];exact hfz3
    · rw [World.cell?_setCell_other _ _ _ _ (by intro e;simp at e)];exact hh3
    · have:=hB3.size;have:=HG3.out.size;simp at this ⊢;omega
 case stop=>
  intro D c W hD hX hK;obtain ⟨rfl,⟨v,hv,ho⟩,hfz,hbel⟩:=hX;obtain ⟨ao,co,rfl,-⟩:=owns_news ho;simp at hD;have HO:=hid ho;have HB:=hid hbel;clear ho hbel;go_wp2
  have hK2:(W.setCell ⟨w.heap.size,0,none⟩ (.slice ao (H+1) co)).heap[D]? =some (.deferred (some [])):=(Below.heap_setCell _ _ _ _ (by show D≠w.heap.size;omega)).trans hK;have hcalm:Calm (w.heap.size+1) (W.setCell ⟨w.heap.size,0,none⟩ (.slice ao (H+1) co)) ((W.setCell ⟨w.heap.size,0,none⟩ (.slice ao (H+1) co)).putObj D (.deferred none)):=Calm.putObj _ xo hK2 rfl;simp only [Exit.jump];refine postM_one hK2 (results_ct rfl rfl (run_loadVar_one Tryz.underlying117 rfl (hcalm.cell (World.cell?_setCell_same _ _ _ hv)))) ⟨_,rfl,?_,hcalm.below xo (HB.out.setCell (Nat.le_refl _) _)⟩;rw [HLW.out];exact owns_base (hcalm.owns (owns_heap HO.out fun z hz=>Below.heap_setCell _ _ _ _ (by have:=(HO.out.lt _ hz).1;show z≠w.heap.size;omega))) xo
end
section
open Go.RowKit Go.Shelf
attribute [local go_sem] Oper.semAt_some
def nx (ws:List Int) (a n:Nat):Option Nat:=(List.range' a (n-a)).find? (bitW ws)
structure NxI (ws:List Int) (a n b0 b1 B:Nat) (w:World) (k:Nat) (W:World):Prop where
 free:∀j,a≤j→j<64*(a/64+k)→j<n→bitW ws j=false
 box0:W.cell? ⟨b0,0,none⟩=some (.int .i64 0)
 box1:W.cell? ⟨b1,0,none⟩=some (.int .i64 0)
 fz0:W.frozen? ⟨b0,0,none⟩=false
 fz1:W.frozen? ⟨b1,0,none⟩=false
 bel:Below B w W
theorem NxI.calm {ws:List Int} {a n b0 b1 B M:Nat} {w:World} {k:Nat} {W W':World} (h:NxI ws a n b0 b1 B w k W) (hc:Calm M W W') (hB:B≤M):NxI ws a n b0 b1 B w k W':=
  ⟨h.free,hc.cell h.box0,hc.cell h.box1,hc.frozen h.box0 h.fz0,hc.frozen h.box1 h.fz1,hc.below hB h.bel⟩
structure NxX (ws:List Int) (a n b0 b1 B:Nat) (w:World) (c:Code) (W:World):Prop where
 code:c= .ret
 hit:∃i,nx ws a n=some i∧W.cell? ⟨b0,0,none⟩=some (.int .i64 i)
 box1:W.cell? ⟨b1,0,none⟩=some (.int .i64 0)
 bel:Below B w W
theorem NxX.calm {ws:List Int} {a n b0 b1 B M:Nat} {w:World} {c:Code} {W W':World} (h:NxX ws a n b0 b1 B w c W) (hc:Calm M W W') (hB:B≤M):NxX ws a n b0 b1 B w c W':=
  ⟨h.code,h.hit.imp fun i hi=>⟨hi.1,hc.cell hi.2⟩,hc.cell h.box1,hc.below hB h.bel⟩
end
section
open Go.RowKit Go.Shelf
attribute [local go_sem] Oper.semAt_some
structure NthI (ws:List Int) (n t b0 b1 B:Nat) (w:World) (k:Nat) (W:World):Prop where
 le:nthB ws n k≤t
 bx:W.cell? ⟨B,0,none⟩=some (.int .i64 ((t-nthB ws n k:Nat):Int))
 fz:W.frozen? ⟨B,0,none⟩=false
 box0:W.cell? ⟨b0,0,none⟩=some (.int .i64 0)
 box1:W.cell? ⟨b1,0,none⟩=some (.int .i64 0)
 fz0:W.frozen? ⟨b0,0,none⟩=false
 fz1:W.frozen? ⟨b1,0,none⟩=false
 bel:Below B w W
theorem NthI.calm {ws:List Int} {n t b0 b1 B M:Nat} {w:World} {k:Nat} {W W':World} (h:NthI ws n t b0 b1 B w k W) (hc:Calm M W W') (hB:B≤M):NthI ws n t b0 b1 B w k W':=
  ⟨h.le,hc.cell h.bx,hc.frozen h.bx h.fz,hc.cell h.box0,hc.cell h.box1,hc.frozen h.box0 h.fz0,hc.frozen h.box1 h.fz1,hc.below hB h.bel⟩
structure NthX (ws:List Int) (n t b0 b1 B:Nat) (w:World) (c:Code) (W:World):Prop where
 code:c= .ret
 lt:t<(plsW ws 0 n).length
 hit:W.cell? ⟨b0,0,none⟩=some (.int .i64 ((plsW ws 0 n).getD t 0:Nat))
 box1:W.cell? ⟨b1,0,none⟩=some (.int .i64 0)
 bel:Below B w W
theorem NthX.calm {ws:List Int} {n t b0 b1 B M:Nat} {w:World} {c:Code} {W W':World} (h:NthX ws n t b0 b1 B w c W) (hc:Calm M W W') (hB:B≤M):NthX ws n t b0 b1 B w c W':=
  ⟨h.code,h.lt,hc.cell h.hit,hc.cell h.box1,hc.below hB h.bel⟩
def nthV (ws:List Int) (n t:Nat):Int:=if t<(plsW ws 0 n).length then ((plsW ws 0 n).getD t 0:Nat) else 0
def nthE (ws:List Int) (n t:Nat):Int:=if t<(plsW ws 0 n).length then 0 else 6
theorem parts_get0 (ws:List Int) {n m:Nat} (h:m<(n+63)/64):(partsL ws 0 n).getD m #[]= #[.int .i64 ((64*m:Nat):Int),.int .u64 (cutV ws 0 n m)]:=by
 have:=partsL_get ws (a:=0) (b:=n) (k:=m) xo;rwa [Nat.zero_div,Nat.zero_add] at this
theorem parts_len0 (ws:List Int) (n:Nat):(partsL ws 0 n).length=(n+63)/64:=by
 rw [partsL_length,Nat.zero_div,Nat.sub_zero]
theorem Nth_ok (wa:Option Addr) (wc:Nat) (ws:List Int) (hu:U64s ws) (n t:Nat) (hn:n≤65536) (ht:t≤65536) (hl:ws.length≤1000000000000) (hmay:wMayB ws n=true) (w:World) (hw:IsRow .u64 w wa ws) (hT:TabAt w):
    Calls Tryz.prog 69 #[.slice wa ws.length wc,.int .i64 n,.int .i64 t] w (AnsB w (.tuple #[.int .i64 (nthV ws n t),.int .i64 (nthE ws n t)])):=by
 have AK:=hid (fun w hw=>(by have:=occCheck_ok wa wc ws hu n hn hl w hw;rwa [if_pos hmay] at this:Calls Tryz.prog 119 #[.slice wa ws.length wc,.int .i64 n] w fun e w'=>e= .returned (.int .i64 0)∧w=w'));have hlen:n≤64*ws.length:=by
  simp only [wMayB,Bool.and_eq_true,decide_eq_true_eq] at hmay;omega
 have IT:=hid (fun S b1 b2 b3 s1 s2 s3 sw w hw c1 c2 c3=>parts1_iter wa wc ws hu 0 n (Nat.zero_le _) hn xo hl S b1 b2 b3 s1 s2 s3 sw w hw c1 c2 c3);have HW:=hid hw;have HT:=hid hT;have HLT:=hid (fun x (h:wa=some x) (h0:0<ws.length)=>(show x.block<w.heap.size from by
  obtain ⟨bb,off,x',hx,-,-,hlt⟩:=hw.get h0;rw [hx] at h;cases h;exact hlt))
 obtain ⟨m,hm⟩:∃m,(n+63)/64=m:=⟨_,rfl⟩
 have HP:=hid (fun k (hk:k<m)=>parts_get0 ws (n:=n) (m:=k) xo);have HPL:=hid ((parts_len0 ws n).trans hm);have HV:=hid (fun k (hk:k<m)=>cutV_bd hu (a:=0) (b:=n) (k:=k) xo);have HIT:=hid (fun k (hk:k<m) j hj=>nth_hit (ws:=ws) hu (n:=n) (m:=k) (k:=j) xo hj);have HSU:=hid (fun k (hk:k<m)=>nthB_succ (ws:=ws) hu (n:=n) (m:=k) xo);have NON:=hid (nth_miss (ws:=ws) (n:=n) (m:=m) xo);have hmb:m≤1024:=xo;obtain ⟨M,hM⟩:∃M,ws.length=M:=⟨_,rfl⟩
 rw [hM] at hlen hl AK IT HLT ⊢;clear hw hmay hM hu hm hT;refine calls_of_wp_m Tryz.func69 rfl ?_;simp only [Tryz.ntmps69,List.size_toArray,List.length_cons,List.length_nil,Nat.reduceAdd,Nat.reduceSub,Array.replicate_succ,Array.replicate_zero,List.push_toArray,List.append_toArray,List.nil_append,List.cons_append];obtain ⟨V,hV⟩:∃V:Int,nthV ws n t=V:=⟨_,rfl⟩
 obtain ⟨E,hE⟩:∃E:Int,nthE ws n t=E:=⟨_,rfl⟩
 rw [hV,hE];have YES:=hid (fun (h:t<(plsW ws 0 n).length)=>(show V=((plsW ws 0 n).getD t 0:Nat)∧E=0 by rw [←hV,←hE,nthV,nthE,if_pos h,if_pos h];exact ⟨rfl,rfl⟩));have NO:=hid (fun (h:¬t<(plsW ws 0 n).length)=>(show V=0∧E=6 by rw [←hV,←hE,nthV,nthE,if_neg h,if_neg h];exact ⟨rfl,rfl⟩));clear hV hE;have g1:decide ((t:Int)<0)=false:=by simp
 go_wp2
 refine wp_scope_loop 0 (fun _ _ _=>False) rfl (fun _ _ _ h=>h.elim) ?_;intro H hH hpass;clear hH hpass;go_wp2_with fail
 refine (AK.out _ (HW.out.below xbel)).mono ?_;rintro e w' ⟨rfl,rfl⟩;go_wp2
 refine wp_label ?_;go_wp2_with fail
 refine (parts_ok wa M wc 0 n _).mono ?_;rintro e w2 ⟨rfl,rfl⟩;go_wp2
 refine wp_range (xs:=partsL ws 0 n) (Kp:=KpS (fun k=>k≠w.heap.size∧k≠w.heap.size+1∧k≠w.heap.size+2∧k<w.heap.size+6)) rfl (enters_of Tryz.func155 xk rfl)
   (IT.out (fun k=>k≠w.heap.size∧k≠w.heap.size+1∧k≠w.heap.size+2∧k<w.heap.size+6) (w.heap.size+1+1+1) (w.heap.size+1+1+2) (w.heap.size+1+1+3) xo xo xo ?sw _ ?hw ?c1 ?c2 ?c3) br (fun _ _ _=>rfl) (fun h k=>fun i hi=>(k i hi).trans (h i hi)) ?kb ?ps
   (NthI ws n t (w.heap.size+1) (w.heap.size+1+1) w.heap.size w) (NthX ws n t (w.heap.size+1) (w.heap.size+1+1) w.heap.size w) ?hI ?hX ?h0 ?round ?done ?stop
 case sw=>intro x hx h0;have:=HLT.out x hx h0;omega
 case hw=>exact HW.out.below xbel
 case c1=>(exact xcn)
 case c2=>(exact xcn)
 case c3=>(exact xcn)
 case kb=>
  intro W l o o' hl _ _ k hk;simp at hl;exact World.putObj_heap_other xo
 case ps=>
  intro x hx;simp only [partsL,List.mem_map] at hx;obtain ⟨k,_,rfl⟩:=hx;rfl
 case hI=>
  intro k W W' h hc;exact h.calm hc (by simp;omega)
 case hX=>
  intro k W W' h hc;exact h.calm hc (by simp;omega)
 case h0=>
  exact ⟨by rw [nthB_zero];omega,by rw [nthB_zero,Nat.sub_zero];(exact xcn),by (exact xcn),by (exact xcn),by (exact xcn),by (exact xcn),by (exact xcn),by (exact xbel)⟩
 case round=>
  intro l k W hl hk hi;rw [HPL.out] at hk;rw [HP.out k hk];have hv:=HV.out k hk;have HH:=hid (HIT.out k hk);have hsu:=HSU.out k hk;have h2:=popI_le (cutV ws 0 n k);have O1:=hid (fun W=>Ones_ok (cutV ws 0 n k) hv.1 hv.2 W);have TZ:=hid (fun j (hj:j<popI (cutV ws 0 n k))=>clrN_tz hv.1 hv.2 hj);generalize cutV ws 0 n k=x at *;generalize popI x=px at *;gi_wp2_with fail
  refine ⟨rfl,?_⟩;intro W2 hi2;have hle:=hi2.le;have hbx:=hi2.bx;have hb0:=hi2.box0;have hb1:=hi2.box1;have hfz:=hi2.fz;have hf0:=hi2.fz0;have hf1:=hi2.fz1;have HBL:=hid hi2.bel;obtain ⟨r,hr⟩:∃r,t-nthB ws n k=r:=⟨_,rfl⟩
  rw [hr] at hbx;have HSUC:=hid hsu;have hrt:nthB ws n k+r=t:=xo;have HRT:=hid hrt;have hrb:r≤65536:=xo;clear hi hi2 hsu hr hrt hle;gi_wp2_with fail
  refine ⟨trivial,rfl,(callsIn_wide.2 (O1.out _)).mono ?_⟩;rintro e w' ⟨rfl,rfl⟩;by_cases hlt:r<px
  · have d1:decide ((px:Int)≤(r:Int))=false:=by simp;omega
    gi_wp2
    gi_loopg [10,34] r (fun g xv iv wr=>∃i:Nat,i+g=r∧xv= .int .u64 (clrN x i)∧iv= .int .i64 i∧wr=W2)
    case atStart=>exact ⟨0,by omega,by rw [clrN_zero],rfl,rfl⟩
    case round=>
     obtain ⟨i,hir,rfl,rfl,rfl⟩:=hrel;by_cases hil:i<r
     · obtain ⟨q0,⟨q1,q2⟩,-⟩:=TZ.out i xo;have hcl:=clrN_succ x i;obtain ⟨cx,hcx⟩:∃c,clrN x i=c:=⟨_,rfl⟩
       rw [hcx] at hcl q0 q1 q2 ⊢;have hsub:IntKind.u64.wrap (cx-1)=cx-1:=IntWalk.u64_in _ xo;have HCL:=hid hcl;clear hcl hcx;gi_wp2
       gi_roundg (gk-1)
       case measure=>omega
       case rel=>exact ⟨i+1,by omega,by rw [HCL.out];rfl,by go_num,rfl⟩
     · have hie:i=r:=xo;subst hie;obtain ⟨q0,⟨q1,q2⟩,q3⟩:=TZ.out i hlt;obtain ⟨z1,z2⟩:=HH.out i hlt;have TT:=hid (tz_ok _ q1 q2 q0 wr (HT.out.below HBL.out));have t3:=(tzI_bit q1 q2 q0).1;rw [←q3,HRT.out] at z2;rw [HRT.out] at z1;generalize clrN x i=cx at *;generalize tzI cx=tz at *;have HE:Hid (((64*k:Nat):Int)+tz=((plsW ws 0 n).getD t 0:Nat)):=hid (by rw [←z2];push_cast;rfl);have HZ:=hid z1;clear q3 z1 z2 q0 q1 q2 O1 TZ HH;gi_wp2_with fail
       refine ⟨trivial,rfl,(callsIn_wide.2 TT.out).mono ?_⟩;rintro e w' ⟨rfl,rfl⟩;gi_wp2
       refine ⟨(KeepsOthers.setCell wr ⟨w.heap.size+1,0,none⟩ _).trans (KeepsOthers.setCell _ ⟨w.heap.size+1+1,0,none⟩ _),⟨rfl,HZ.out,?_,?_,?_⟩⟩
       · rw [←HE.out,World.cell?_setCell_other _ _ _ _ (by intro e;simp at e)];exact World.cell?_setCell_same _ _ _ hb0
       · exact World.cell?_setCell_same _ _ _ (by rw [World.cell?_setCell_other _ _ _ _ (by intro e;simp at e)];exact hb1)
       · exact (HBL.out.setCell xdo _).setCell xdo _
  · have d1:decide ((px:Int)≤(r:Int))=true:=by simp;omega
    have hwr:IntKind.i64.wrap ((r:Int)-(px:Int))=((r-px:Nat):Int):=by rw [show (r:Int)-(px:Int)=((r-px:Nat):Int) by omega];exact IntWalk.i64_in _ xo
    gi_wp2
    have e:t-nthB ws n (k+1)=r-px:=by have:=HSUC.out;have:=HRT.out;omega
    refine ⟨KeepsOthers.setCell W2 ⟨w.heap.size,0,none⟩ _,fun i hi=>Below.heap_setCell W2 ⟨w.heap.size,0,none⟩ _ _ hi.1,⟨?_,?_,?_,?_,?_,?_,?_,?_⟩⟩
    · have:=HSUC.out;have:=HRT.out;omega
    · rw [e];exact World.cell?_setCell_same _ _ _ hbx
    · rw [World.frozen?_setCell];exact hfz
    · rw [World.cell?_setCell_other _ _ _ _ (by intro e;simp at e)];exact hb0
    · rw [World.cell?_setCell_other _ _ _ _ (by intro e;simp at e)];exact hb1
    · rw [World.frozen?_setCell];exact hf0
    · rw [World.frozen?_setCell];exact hf1
    · exact HBL.out.setCell (Nat.le_refl _) _
 case done=>
  intro D W hD hi hK;have hb0:=hi.box0;have hb1:=hi.box1;have hf0:=hi.fz0;have hf1:=hi.fz1;have hle:=hi.le;have hbl:=hi.bel;rw [HPL.out,NON.out] at hle;obtain ⟨rfl,rfl⟩:=NO.out xo;simp at hD;have HBL:=hid hbl;clear hi hle hbl YES NO NON HIT HV HP;go_wp2
  have hK2:((W.setCell ⟨w.heap.size+1,0,none⟩ (.int .i64 0)).setCell ⟨w.heap.size+1+1,0,none⟩ (.int .i64 6)).heap[D]? =some (.deferred (some [])):=((Below.heap_setCell _ _ _ _ (by show D≠w.heap.size+1+1;omega)).trans (Below.heap_setCell _ _ _ _ (by show D≠w.heap.size+1;omega))).trans hK;have hcalm:Calm (w.heap.size+3) ((W.setCell ⟨w.heap.size+1,0,none⟩ (.int .i64 0)).setCell ⟨w.heap.size+1+1,0,none⟩ (.int .i64 6)) (((W.setCell ⟨w.heap.size+1,0,none⟩ (.int .i64 0)).setCell ⟨w.heap.size+1+1,0,none⟩ (.int .i64 6)).putObj D (.deferred none)):=Calm.putObj _ xo hK2 rfl;have c0:((W.setCell ⟨w.heap.size+1,0,none⟩ (.int .i64 0)).setCell ⟨w.heap.size+1+1,0,none⟩ (.int .i64 6)).cell? ⟨w.heap.size+1,0,none⟩=some (.int .i64 0):=by
   rw [World.cell?_setCell_other _ _ _ _ (by intro e;simp at e)];exact World.cell?_setCell_same _ _ _ hb0
  have c1:((W.setCell ⟨w.heap.size+1,0,none⟩ (.int .i64 0)).setCell ⟨w.heap.size+1+1,0,none⟩ (.int .i64 6)).cell? ⟨w.heap.size+1+1,0,none⟩=some (.int .i64 6):=World.cell?_setCell_same _ _ _ (by rw [World.cell?_setCell_other _ _ _ _ (by intro e;simp at e)];exact hb1);exact postM_one hK2 (results_cc rfl rfl rfl (run_loadVar_one Tryz.underlying3 rfl (hcalm.cell c0)) (run_loadVar_one Tryz.underlying38 rfl (hcalm.cell c1))) ⟨rfl,hcalm.below xo ((HBL.out.setCell xdo _).setCell xdo _)⟩
 case stop=>
  intro D c W hD hX hK;obtain ⟨rfl,hlt,hc0,hc1,hbel⟩:=hX;obtain ⟨rfl,rfl⟩:=YES.out hlt;simp at hD;have hcalm:Calm (w.heap.size+3) W (W.putObj D (.deferred none)):=Calm.putObj _ xo hK rfl;clear YES NO NON HIT HV HP;go_wp2
  exact postM_one hK (results_cc rfl rfl rfl (run_loadVar_one Tryz.underlying3 rfl (hcalm.cell hc0)) (run_loadVar_one Tryz.underlying38 rfl (hcalm.cell hc1))) ⟨rfl,hcalm.below xo hbel⟩
end
end Go.Proofs.YtjhpblejlchhjaaGreatDoor

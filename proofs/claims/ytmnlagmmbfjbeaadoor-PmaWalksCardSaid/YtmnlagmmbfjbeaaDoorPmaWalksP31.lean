/- Merged: Dense, DenPl, SlAt. -/
import Derived.Test.YtmnlagmmbfjbeaaDoorPmaWalksP19
import Derived.Test.YtmnlagmmbfjbeaaDoorPmaWalksP20
import Derived.Test.YtmnlagmmbfjbeaaDoorPmaWalksP22
import Derived.Test.YtmnlagmmbfjbeaaDoorPmaWalksP10
namespace Go.Proofs.YtmnlagmmbfjbeaaDoor
set_option maxRecDepth 100000
set_option maxHeartbeats 40000000
set_option linter.unusedVariables false
set_option linter.unusedSimpArgs false
section
open Go.RowKit
theorem full_arith {A W P F F' D x m d:Int} (hA:0≤A) (hW:0≤W) (hP:1≤P) (hD:0≤D) (hd:1≤d) (h1:m*A≤W*P*F') (hF:F=F'+D*d) (hAD:A≤D*W) (hx:x*P≤m+P-1):x*A≤W*F:=by
 have e1:(x*P)*A≤(m+P-1)*A:=Int.mul_le_mul_of_nonneg_right hx hA;have e2:(m+P-1)*A=m*A+P*A-A:=by rw [Int.sub_mul,Int.add_mul,Int.one_mul]
 have e3:P*A≤P*(D*W):=Int.mul_le_mul_of_nonneg_left hAD xo;have e4:D*W≤D*W*d:=by
  have:=Int.mul_le_mul_of_nonneg_left hd (Int.mul_nonneg hD hW);rwa [Int.mul_one] at this
 have e5:P*(D*W)≤P*(D*W*d):=Int.mul_le_mul_of_nonneg_left e4 xo;have e6:W*P*F'+P*(D*W*d)=P*(W*F):=by
  rw [hF,Int.mul_add,Int.mul_add,Int.mul_comm W P,Int.mul_assoc,Int.mul_comm D W,Int.mul_assoc W D d]
 have e7:(x*P)*A=P*(x*A):=by rw [Int.mul_comm x P,Int.mul_assoc]
 exact Int.le_of_mul_le_mul_left (a:=P) xo xo
theorem spr_arith {A W P G G' x m:Int} (hA:0≤A) (hW:0≤W) (hP:1≤P) (h1:W*P*G'≤(m+1)*A) (hG:G≤G') (hx:m+1≤(x+1)*P):W*G≤(x+1)*A:=by
 have e1:(m+1)*A≤((x+1)*P)*A:=Int.mul_le_mul_of_nonneg_right hx hA;have e2:W*P*G≤W*P*G':=Int.mul_le_mul_of_nonneg_left hG (Int.mul_nonneg hW xo);have e3:W*P*G=P*(W*G):=by rw [Int.mul_comm W P,Int.mul_assoc]
 have e4:((x+1)*P)*A=P*((x+1)*A):=by rw [Int.mul_comm (x+1) P,Int.mul_assoc]
 exact Int.le_of_mul_le_mul_left (a:=P) xo xo
theorem wdC_add (c:Cfg) (j d:Nat):wdC c (j+d)=wdC c j*((2^d:Nat):Int):=by
 rw [wdC,wdC,Int.pow_add,Int.mul_assoc];push_cast
 rfl
theorem CapC.bal {c:Cfg} {size:Int} {a H:Nat} (k:CapC c size a H):c.den*H≤(c.lh-c.rh)*c.seg:=by
 have hm:=k.may;simp only [cfMay,Bool.and_eq_true,decide_eq_true_eq] at hm;obtain ⟨hd,hb⟩:=hm;obtain ⟨d0,d1,d2,d3,d4,d5,d6,d7,d8,d9,d10,d11,d12,d13,d14,d15,d16,d17⟩:=cfHead_num hd;obtain ⟨H',e,hb2,-⟩:=cap_nat hd k.seg (n:=c.most) xo xo;have hle:=(powB_iff.1 k.cap).2.1;have e2:htC c (taks c c.most)=H':=by
  rw [htC,e,k.seg,Int.natCast_mul,Int.mul_ediv_cancel_left _ (by have:=Nat.two_pow_pos a;omega),Int.toNat_natCast,Nat.log2_two_pow]
 have hHH:H≤H':=by
  rw [k.all,e] at hle;have h3:2^a*2^H≤2^a*2^H':=xo;exact (Nat.pow_le_pow_iff_right (a:=2) xo).1 (Nat.le_of_mul_le_mul_left h3 (Nat.two_pow_pos a))
 rw [e2] at hb;have:=Int.mul_le_mul_of_nonneg_left (show (H:Int)≤H' by omega) (show 0≤c.den by omega);omega
theorem full_share {c:Cfg} {size:Int} {a H j d m x:Nat} (k:CapC c size a H) (hj:j+d≤H) (hd:1≤d) (hf:fulB c H (j+d) m=true) (hx:x*2^d<m+2^d):fulB c H j x=true:=by
 obtain ⟨d0,d1,d2,d3,d4,d5,d6,d7,d8,d9,d10,d11,d12,d13,d14,d15,d16,d17⟩:=cfHead_num (cfMay_head k.may);unfold fulB at hf ⊢;rw [if_neg xo,decide_eq_true_eq] at hf ⊢;obtain ⟨-,w4,-,-⟩:=k.wd (h:=j) xo;have hws:c.seg≤wdC c j:=by
  have h1:(1:Int)≤2^j:=by
   have:=Nat.two_pow_pos j;have e:(2:Int)^j=((2^j:Nat):Int):=by push_cast;rfl
   rw [e];omega
  have:=Int.mul_le_mul_of_nonneg_left h1 (show 0≤c.seg by omega);rw [Int.mul_one] at this;exact this
 have hb:=k.bal;have hp:=Nat.two_pow_pos d;have hA:0≤(H:Int)*c.den:=Int.mul_nonneg xo xo;rw [Int.mul_assoc];rw [Int.mul_assoc,wdC_add] at hf;refine full_arith (P:=((2^d:Nat):Int)) (D:=c.lh-c.rh) (d:=d) (m:=m) hA xo xo xo xo hf ?_ ?_ ?_
 · have e:((j+d:Nat):Int)=(j:Int)+d:=by push_cast;rfl
   rw [e];have e1:c.lh*((H:Int)-(j+d))=c.lh*((H:Int)-j)-c.lh*d:=by rw [←Int.mul_sub];congr 1;omega
   have e2:c.rh*((j:Int)+d)=c.rh*j+c.rh*d:=Int.mul_add ..;have e3:(c.lh-c.rh)*(d:Int)=c.lh*d-c.rh*d:=Int.sub_mul ..;omega
 · have h5:(c.lh-c.rh)*c.seg≤(c.lh-c.rh)*wdC c j:=Int.mul_le_mul_of_nonneg_left hws xo;rw [Int.mul_comm (H:Int)];omega
 · have e:((x*2^d:Nat):Int)=(x:Int)*((2^d:Nat):Int):=by push_cast;rfl
   omega
def sprN (c:Cfg) (H h:Nat) (n:Int):Prop:=wdC c h*(c.ll*((H:Int)-h)+c.rl*h)≤(n+1)*H*c.den
theorem sprB_or {c:Cfg} {size:Int} {H h:Nat} {n:Int}:sprB c size H h n=true↔size=c.least∨sprN c H h n:=by
 unfold sprB sprN;rw [Bool.or_eq_true,decide_eq_true_eq,decide_eq_true_eq]
theorem spr_share {c:Cfg} {size:Int} {a H j d m x:Nat} (k:CapC c size a H) (hj:j+d≤H) (hf:sprN c H (j+d) m) (hx:m<(x+1)*2^d):sprN c H j x:=by
 obtain ⟨d0,d1,d2,d3,d4,d5,d6,d7,d8,d9,d10,d11,d12,d13,d14,d15,d16,d17⟩:=cfHead_num (cfMay_head k.may);obtain ⟨-,w4,-,-⟩:=k.wd (h:=j) xo;unfold sprN at hf ⊢;have hp:=Nat.two_pow_pos d;have hA:0≤(H:Int)*c.den:=Int.mul_nonneg xo xo;rw [Int.mul_assoc];rw [wdC_add,Int.mul_assoc (_+1)] at hf;refine spr_arith (P:=((2^d:Nat):Int)) (m:=m) hA xo xo hf ?_ ?_
 · have e:((j+d:Nat):Int)=(j:Int)+d:=by push_cast;rfl
   rw [e];have e1:c.ll*((H:Int)-(j+d))=c.ll*((H:Int)-j)-c.ll*d:=by rw [←Int.mul_sub];congr 1;omega
   have e2:c.rl*((j:Int)+d)=c.rl*j+c.rl*d:=Int.mul_add ..;have e3:c.ll*(d:Int)≤c.rl*d:=Int.mul_le_mul_of_nonneg_right xo xo;omega
 · have e:(((x+1)*2^d:Nat):Int)=((x:Int)+1)*((2^d:Nat):Int):=by push_cast;rfl
   omega
theorem sprN_more {c:Cfg} {H h:Nat} {n m:Int} (hd:0≤c.den) (h1:n≤m) (hn:sprN c H h n):sprN c H h m:=by
 unfold sprN at hn ⊢;have e1:(n+1)*(H:Int)≤(m+1)*(H:Int):=Int.mul_le_mul_of_nonneg_right xo xo;have:=Int.mul_le_mul_of_nonneg_right e1 hd;omega
end
section
open Go.RowKit
def okW (c:Cfg) (n:Int) (H h:Nat) (x:Int):Prop:=fulB c H h x=true∧sprB c n H h x=true
def cntH (ws:List Int) (a h i:Nat):Nat:=cntW ws (i*2^(a+h)) ((i+1)*2^(a+h))
def denW (c:Cfg) (n:Int) (a H:Nat) (ws:List Int):Prop:=∀h,h≤H→∀i,i<2^(H-h)→okW c n H h (cntH ws a h i)
theorem seg_pow (a h i:Nat):i*2^(a+h)=i*2^h*2^a:=by rw [Nat.pow_add,Nat.mul_comm (2^a),Nat.mul_assoc]
theorem denB_iff {c:Cfg} {s:SlC} {a H lw n:Nat} (g:SlGd s (2^a) lw n (2^H)):denB c s H=true↔denW c s.ks.length a H s.ws:=by
 have e:∀h,h≤H→∀i,i<2^(H-h)→sumC s.cs (i*2^h) ((i+1)*2^h)=(cntH s.ws a h i:Int):=by
  intro h hh i hi;have hb:(i+1)*2^h≤2^H:=by
   have:(i+1)*2^h≤2^(H-h)*2^h:=Nat.mul_le_mul_right _ hi;rwa [←Nat.pow_add,Nat.sub_add_cancel hh] at this
  rw [sumC_cnt2 g (Nat.mul_le_mul_right _ xo) hb,cntH,seg_pow,seg_pow]
 have ed:∀h,h≤H→s.cs.length/2^h=2^(H-h):=by
  intro h hh;rw [g.elc,Nat.pow_div hh xo]
 unfold denB denW rowB winB okW;simp only [List.all_eq_true,List.mem_range,Bool.and_eq_true];constructor
 · intro q h hh i hi;have:=q h xo i (by rw [ed h hh];exact hi);rwa [e h hh i hi] at this
 · intro q h hh i hi;have hh':h≤H:=xo;rw [ed h hh'] at hi;rw [e h hh' i hi];exact q h hh' i hi
theorem wnd_wide {a h j at_:Nat} (hj:h≤j):wnd a j at_*2^(a+j)≤wnd a h at_*2^(a+h)∧(wnd a h at_+1)*2^(a+h)≤(wnd a j at_+1)*2^(a+j):=by
 have e:2^(a+j)=2^(j-h)*2^(a+h):=by rw [←Nat.pow_add];congr 1;omega
 have e2:wnd a j at_=wnd a h at_/2^(j-h):=by
  unfold wnd;rw [e,Nat.mul_comm,Nat.div_div_eq_div_mul]
 have hp:=Nat.two_pow_pos (j-h);have h1:=Nat.lt_div_mul_add hp (a:=wnd a h at_);constructor
 · rw [e,e2,←Nat.mul_assoc];exact Nat.mul_le_mul_right _ (Nat.div_mul_le_self _ _)
 · rw [e,e2,←Nat.mul_assoc];refine Nat.mul_le_mul_right _ ?_;rw [Nat.succ_mul];exact h1
theorem win_apart {w i i':Nat} (h:i≠i'):(i+1)*w≤i'*w∨(i'+1)*w≤i*w:=by
 rcases Nat.lt_or_ge i i' with q|q
 · exact .inl (Nat.mul_le_mul_right _ q)
 · exact .inr (Nat.mul_le_mul_right _ xo)
theorem ok_share {c:Cfg} {size:Int} {a H j h m x:Nat} (k:CapC c size a H) (hjh:j<h) (hh:h≤H) (ok:okW c size H h (m:Int)) (h1:x*2^(h-j)<m+2^(h-j)) (h2:m<(x+1)*2^(h-j)):okW c size H j (x:Int):=by
 have e:j+(h-j)=h:=xo;obtain ⟨o1,o2⟩:=ok;rw [←e] at o1 o2;refine ⟨full_share k xo xo o1 h1,?_⟩;rw [sprB_or] at o2 ⊢;rcases o2 with o2|o2
 · exact .inl o2
 · exact .inr (spr_share k xo o2 h2)
theorem den_sp {c:Cfg} {z:SlC} {a H lw n at_ h:Nat} (k:CapC c n a H) (g:SlGd z (2^a) lw n (2^H)) (hh:h≤H) (hat:at_<n) {L:List (Int×Int)} (hL:L.length≤2^(a+h))
    (hout:∀j,j≤H→∀i,i<2^(H-j)→i≠wnd a j at_→okW c n H j (cntH z.ws a j i))
    (hup:∀j,h≤j→j≤H→∀x:Nat,x+cntH z.ws a h (wnd a h at_)=cntH z.ws a j (wnd a j at_)+L.length→okW c n H j (x:Int)):
    denW c n a H (spC z (wnd a h at_*2^(a+h)) ((wnd a h at_+1)*2^(a+h)) L).ws:=by
 have hn:n=2^a*2^H:=by have:=k.all;omega
 obtain ⟨b1,b2,b3,b4⟩:=wnd_bd (a:=a) (at_:=at_) hh (by rw [←hn];exact hat);have hlo:wnd a h at_*2^(a+h)≤(wnd a h at_+1)*2^(a+h):=Nat.mul_le_mul_right _ xo;have hhi:(wnd a h at_+1)*2^(a+h)≤n:=by rw [hn];exact b4
 have hw:(wnd a h at_+1)*2^(a+h)-wnd a h at_*2^(a+h)=2^(a+h):=by rw [Nat.succ_mul];omega
 have hLw:L.length≤(wnd a h at_+1)*2^(a+h)-wnd a h at_*2^(a+h):=by rw [hw];exact hL
 intro j hj i hi;obtain ⟨-,c2,c3,-⟩:=wnd_bd (a:=a) (at_:=at_) hj (by rw [←hn];exact hat);have hdis:(i+1)*2^(a+j)≤wnd a h at_*2^(a+h)∨(wnd a h at_+1)*2^(a+h)≤i*2^(a+j)→okW c n H j (cntH (spC z (wnd a h at_*2^(a+h)) ((wnd a h at_+1)*2^(a+h)) L).ws a j i):=by
  intro hd;have e:=cnt_out g hlo hhi hLw hd;unfold cntH;rw [e];refine hout j hj i hi fun e=> ?_
  rw [e] at hd;omega
 rcases Nat.lt_or_ge j h with q|q
 · have eP:2^(a+h)=2^(h-j)*2^(a+j):=by rw [←Nat.pow_add];congr 1;omega
   have hP:=Nat.two_pow_pos (h-j);have hwj:=Nat.two_pow_pos (a+j);rcases Nat.lt_trichotomy (i/2^(h-j)) (wnd a h at_) with r|r|r
   · have h1:i<wnd a h at_*2^(h-j):=(Nat.div_lt_iff_lt_mul hP).1 r;refine hdis (.inl ?_);rw [eP,←Nat.mul_assoc];exact Nat.mul_le_mul_right _ h1
   · obtain ⟨x,ex,x1,x2⟩:=cnt_part (lo:=wnd a h at_*2^(a+h)) (w:=2^(a+j)) (P:=2^(h-j)) (q:=i%2^(h-j)) g (by rw [←eP,←Nat.succ_mul];exact hhi) (by rw [←eP];exact hL) hwj hP (Nat.mod_lt _ hP);have ei:i*2^(a+j)=wnd a h at_*2^(a+h)+i%2^(h-j)*2^(a+j):=by
      rw [eP,←r,←Nat.mul_assoc,←Nat.add_mul,Nat.mul_comm (i/_),Nat.div_add_mod]
     have ei2:(i+1)*2^(a+j)=wnd a h at_*2^(a+h)+(i%2^(h-j)+1)*2^(a+j):=by
      rw [Nat.succ_mul,ei,Nat.succ_mul,Nat.add_assoc]
     have hs:(wnd a h at_+1)*2^(a+h)=wnd a h at_*2^(a+h)+2^(h-j)*2^(a+j):=by rw [Nat.succ_mul,←eP]
     have hm:=hup h (Nat.le_refl _) hh L.length xo;unfold cntH;rw [ei,ei2,hs,ex];exact ok_share k q hh hm x1 x2
   · have h1:(wnd a h at_+1)*2^(h-j)≤i:=(Nat.le_div_iff_mul_le hP).1 r;refine hdis (.inr ?_);rw [eP,←Nat.mul_assoc];exact Nat.mul_le_mul_right _ h1
 · obtain ⟨w1,w2⟩:=wnd_wide (a:=a) (at_:=at_) q;by_cases e:i=wnd a j at_
   · subst e;refine hup j q hj _ ?_;unfold cntH;have t1:=cntW_add (spC z (wnd a h at_*2^(a+h)) ((wnd a h at_+1)*2^(a+h)) L).ws w1 (Nat.le_trans hlo w2);have t2:=cntW_add (spC z (wnd a h at_*2^(a+h)) ((wnd a h at_+1)*2^(a+h)) L).ws hlo w2;have u1:=cntW_add z.ws w1 (Nat.le_trans hlo w2);have u2:=cntW_add z.ws hlo w2;have v1:=cnt_out g hlo hhi hLw (x:=wnd a j at_*2^(a+j)) (y:=wnd a h at_*2^(a+h)) (.inl (Nat.le_refl _));have v2:=cnt_out g hlo hhi hLw (x:=(wnd a h at_+1)*2^(a+h)) (y:=(wnd a j at_+1)*2^(a+j)) (.inr (Nat.le_refl _));have v3:=cnt_all g hlo hhi hLw;omega
   · rcases win_apart (w:=2^(a+j)) e with r|r
     · exact hdis (.inl (Nat.le_trans r w1))
     · exact hdis (.inr (Nat.le_trans w2 r))
theorem gapN_mk {c:Cfg} {z:SlC} {a H n:Nat} (k:CapC c n a H) (g:SlGd z (2^a) ((n+63)/64) n (2^H)):GapN c z a H:=by
 have hm:=gd_may g (pwB_two a) (pwB_two H) rfl;have hn:n=2^a*2^H:=by have:=k.all;omega
 have hm':=hm;simp only [slMay,Bool.and_eq_true] at hm';exact ⟨by rw [g.elk];exact k,g.seg,by rw [g.elk,hn],by rw [g.elv,hn],g.elc,cntB_bd g.seg hm'.2,hm⟩
theorem gapE_den {c:Cfg} {z:SlC} {a H n:Nat} (k:CapC c n a H) (g:SlGd z (2^a) ((n+63)/64) n (2^H)) (hmany:(cntW z.ws 0 n:Int)≤c.most) (hd:denW c n a H z.ws):gapE c z=0:=by
 have kn:=gapN_mk k g;have hs:sumC z.cs 0 z.cs.length=(cntW z.ws 0 n:Int):=by
  have:=sum_many kn g.u;rwa [manyC,g.elk] at this
 rw [gapE_may kn (by rw [g.seg,k.seg]) (by rw [hs];exact hmany),if_pos];rw [denB_iff g,g.elk];exact hd
theorem ok_more {c:Cfg} {size:Int} {a H h:Nat} (k:CapC c size a H) {x y:Int} (hf:fulB c H h y=true) (ok:okW c size H h x) (hxy:x≤y):okW c size H h y:=by
 obtain ⟨d0,d1,d2,d3,d4,d5,d6,d7,d8,d9,d10,d11,d12,d13,d14,d15,d16,d17⟩:=cfHead_num (cfMay_head k.may);refine ⟨hf,?_⟩;have o:=ok.2;rw [sprB_or] at o ⊢;rcases o with o|o
 · exact .inl o
 · exact .inr (sprN_more xo hxy o)
theorem cntH_in {c:Cfg} {s:SlC} {a H h at_:Nat} (k:GapN c s a H) (hu:U64s s.ws) (hh:h≤H) (hat:at_<s.ks.length):inH s a h at_=(cntH s.ws a h (wnd a h at_):Int):=in_cnt k hu hh hat
theorem wnd_lt {a H h at_:Nat} (hh:h≤H) (hat:at_<2^a*2^H):wnd a h at_<2^(H-h):=by
 have e1:2^a*2^H=2^(H-h)*2^(a+h):=by rw [←Nat.pow_add,←Nat.pow_add];congr 1;omega
 unfold wnd;rw [Nat.div_lt_iff_lt_mul (Nat.two_pow_pos _),←e1];exact hat
theorem many_sp {z:SlC} {S lw n lc lo hi:Nat} (g:SlGd z S lw n lc) (hlo:lo≤hi) (hhi:hi≤n) {L:List (Int×Int)} (hL:L.length≤hi-lo):cntW (spC z lo hi L).ws 0 n+cntW z.ws lo hi=cntW z.ws 0 n+L.length:=by
 have t1:=cntW_add (spC z lo hi L).ws (a:=0) (b:=lo) (d:=n) xo xo;have t2:=cntW_add (spC z lo hi L).ws (a:=lo) (b:=hi) (d:=n) hlo hhi;have u1:=cntW_add z.ws (a:=0) (b:=lo) (d:=n) xo xo;have u2:=cntW_add z.ws (a:=lo) (b:=hi) (d:=n) hlo hhi;have v1:=cnt_out g hlo hhi hL (x:=0) (y:=lo) (.inl (Nat.le_refl _));have v2:=cnt_out g hlo hhi hL (x:=hi) (y:=n) (.inr (Nat.le_refl _));have v3:=cnt_all g hlo hhi hL;omega
theorem put_den {c:Cfg} {s:SlC} {a H:Nat} (k:GapN c s a H) (hu:U64s s.ws) (hd:denB c s H=true) (hmost:(manyC s:Int)<c.most) {at_ h:Nat} (hat:at_<s.ks.length) (eh:topI (ovB c s a H at_) (H+1)+1=h) (hh:h≤H) {L:List (Int×Int)} (hL:L.length=cntH s.ws a h (wnd a h at_)+1) (hL2:L.length≤2^(a+h)):
    gapE c (spC s (wnd a h at_*2^(a+h)) ((wnd a h at_+1)*2^(a+h)) L)=0:=by
 obtain ⟨g,-⟩:=gapN_gd k hu;have hn:=k.nk;obtain ⟨-,-,-,b4⟩:=wnd_bd (a:=a) (at_:=at_) hh (by rw [←hn];exact hat);have hlo:wnd a h at_*2^(a+h)≤(wnd a h at_+1)*2^(a+h):=Nat.mul_le_mul_right _ xo;have hhi:(wnd a h at_+1)*2^(a+h)≤s.ks.length:=by rw [hn];exact b4
 have hw:(wnd a h at_+1)*2^(a+h)-wnd a h at_*2^(a+h)=2^(a+h):=by rw [Nat.succ_mul];omega
 rw [denB_iff g] at hd;have hov:∀j,h≤j→j≤H→fulB c H j (inH s a j at_+1)=true:=by
  intro j h1 h2;have:ovB c s a H at_ j=false:=by
   rcases topI_cases (ovB c s a H at_) (H+1) with ⟨e,hn⟩ | ⟨q,hq,e,hp,hn⟩
   · exact hn j xo
   · exact hn j xo xo
  unfold ovB at this;rwa [Bool.not_eq_false'] at this
 refine gapE_den k.cap (g.sp hlo hhi (by rw [hw];exact hL2)) ?_ (den_sp k.cap g hh hat hL2 (fun j hj i hi _=>hd j hj i hi) fun j h1 h2 x hx=> ?_)
 · have:=many_sp g hlo hhi (L:=L) (by rw [hw];exact hL2);unfold manyC at hmost;unfold cntH at hL;omega
 · have hf:=hov j h1 h2;rw [cntH_in k hu h2 hat] at hf;have hx2:x=cntH s.ws a j (wnd a j at_)+1:=xo;rw [hx2];exact ok_more k.cap (by push_cast;exact hf) (hd j h2 _ (wnd_lt h2 (by rw [←hn];exact hat))) (by push_cast;omega)
theorem cnt_tk {c:SlC} {S lw n lc:Nat} (h:SlGd c S lw n lc) {i:Nat} (hi:i<n) (hb:bitW c.ws i=true) (x y:Nat):cntW c.ws x y=cntW (tkC c i).ws x y+if x≤i∧i<y then 1 else 0:=
  cntW_clr h.u (by rw [h.elw];have:=h.wn;omega) hb x y
theorem take_in {c:Cfg} {s:SlC} {a H:Nat} (k:GapN c s a H) (hu:U64s s.ws) {at_:Nat} (hat:at_<s.ks.length) (hb:bitW s.ws at_=true):
    GapN c (tkC s at_) a H∧SlGd (tkC s at_) (2^a) ((s.ks.length+63)/64) s.ks.length (2^H)∧(tkC s at_).ks.length=s.ks.length∧
    (∀j,j≤H→∀i,i≠wnd a j at_→cntH (tkC s at_).ws a j i=cntH s.ws a j i)∧(∀j,j≤H→cntH (tkC s at_).ws a j (wnd a j at_)+1=cntH s.ws a j (wnd a j at_))∧manyC (tkC s at_)+1=manyC s:=by
 obtain ⟨g,-⟩:=gapN_gd k hu;have gt:=g.tk hat;have hn:=k.nk;refine ⟨gapN_mk k.cap gt,gt,gt.elk,fun j hj i hi=> ?_,fun j hj=> ?_,?_⟩
 · obtain ⟨-,c2,c3,-⟩:=wnd_bd (a:=a) (at_:=at_) hj (by rw [←hn];exact hat);have:=cnt_tk g hat hb (i*2^(a+j)) ((i+1)*2^(a+j));rw [if_neg (by rcases win_apart (w:=2^(a+j)) hi with r|r<;>omega)] at this;exact this.symm
 · obtain ⟨-,c2,c3,-⟩:=wnd_bd (a:=a) (at_:=at_) hj (by rw [←hn];exact hat);have:=cnt_tk g hat hb (wnd a j at_*2^(a+j)) ((wnd a j at_+1)*2^(a+j));rw [if_pos ⟨c2,c3⟩] at this;exact this.symm
 · have:=cnt_tk g hat hb 0 s.ks.length;rw [if_pos ⟨by omega,hat⟩] at this;unfold manyC;rw [gt.elk];exact this.symm
end
section
open Go.RowKit Go.Shelf
attribute [local go_sem] Oper.semAt_some
theorem asked4_bad (w:World) (seg:Int) (wa ka va ca:Option Addr) (wc kc vc cc lw n lv lc:Nat) (laid i:Int) (x:Int) (hx:x≠0) (CK:Hid (∀W,Below w.heap.size w W→Calls Tryd.prog 52 #[.agg #[.int .i64 seg,.slice wa lw wc,.slice ka n kc,.slice va lv vc,.slice ca lc cc,.int .u64 laid]] W (AnsB W (.int .i64 x)))):
    Calls Tryd.prog 31 #[.agg #[.int .i64 seg,.slice wa lw wc,.slice ka n kc,.slice va lv vc,.slice ca lc cc,.int .u64 laid],.int .i64 i] w (AnsB w (.int .i64 x)):=by
 have g1:(x != 0)=true:=by simpa using hx
 clear hx;go_enter Tryd.func31,Tryd.ntmps31
 go_wp2_with fail
 refine (CK.out _ xbel).mono ?_;rintro e w1 ⟨rfl,hb1⟩;have hz_w1:=hb1.size;try simp only [World.size_alloc,World.size_setCell] at hz_w1
 have hB1:Below w.heap.size w w1:=xbel;go_wp2
 go_ret
 exact ⟨rfl,hB1⟩
theorem asked4_neg (w:World) (seg:Int) (wa ka va ca:Option Addr) (wc kc vc cc lw n lv lc:Nat) (laid i:Int) (hi:i<0) (CK:Hid (∀W,Below w.heap.size w W→Calls Tryd.prog 52 #[.agg #[.int .i64 seg,.slice wa lw wc,.slice ka n kc,.slice va lv vc,.slice ca lc cc,.int .u64 laid]] W (AnsB W (.int .i64 0)))):
    Calls Tryd.prog 31 #[.agg #[.int .i64 seg,.slice wa lw wc,.slice ka n kc,.slice va lv vc,.slice ca lc cc,.int .u64 laid],.int .i64 i] w (AnsB w (.int .i64 2)):=by
 go_enter Tryd.func31,Tryd.ntmps31
 go_wp2_with fail
 refine (CK.out _ xbel).mono ?_;rintro e w1 ⟨rfl,hb1⟩;have hz_w1:=hb1.size;try simp only [World.size_alloc,World.size_setCell] at hz_w1
 have hh:=bc6 hb1 (al6 (b:=w.heap.size) xsi);obtain ⟨c_t0,c_t1,c_t2,c_t3,c_t4,c_t5⟩:=hh;have z_t:=blt hb1 (alz (b:=w.heap.size) xsi);have hB1:Below w.heap.size w w1:=xbel;go_wp2
 go_ret
 exact ⟨rfl,hB1⟩
theorem asked4_far (w:World) (seg:Int) (wa ka va ca:Option Addr) (wc kc vc cc lw n lv lc:Nat) (laid i:Int) (h0:0≤i) (hi:(n:Int)≤i) (CK:Hid (∀W,Below w.heap.size w W→Calls Tryd.prog 52 #[.agg #[.int .i64 seg,.slice wa lw wc,.slice ka n kc,.slice va lv vc,.slice ca lc cc,.int .u64 laid]] W (AnsB W (.int .i64 0)))):
    Calls Tryd.prog 31 #[.agg #[.int .i64 seg,.slice wa lw wc,.slice ka n kc,.slice va lv vc,.slice ca lc cc,.int .u64 laid],.int .i64 i] w (AnsB w (.int .i64 2)):=by
 go_enter Tryd.func31,Tryd.ntmps31
 go_wp2_with fail
 refine (CK.out _ xbel).mono ?_;rintro e w1 ⟨rfl,hb1⟩;have hz_w1:=hb1.size;try simp only [World.size_alloc,World.size_setCell] at hz_w1
 have hh:=bc6 hb1 (al6 (b:=w.heap.size) xsi);obtain ⟨c_t0,c_t1,c_t2,c_t3,c_t4,c_t5⟩:=hh;have z_t:=blt hb1 (alz (b:=w.heap.size) xsi);have hB1:Below w.heap.size w w1:=xbel;go_wp2
 go_ret
 exact ⟨rfl,hB1⟩
theorem asked4_in (w:World) (seg:Int) (wa ka va ca:Option Addr) (wc kc vc cc lw n lv lc:Nat) (laid i:Int) (h0:0≤i) (hi:i<(n:Int)) (CK:Hid (∀W,Below w.heap.size w W→Calls Tryd.prog 52 #[.agg #[.int .i64 seg,.slice wa lw wc,.slice ka n kc,.slice va lv vc,.slice ca lc cc,.int .u64 laid]] W (AnsB W (.int .i64 0)))):
    Calls Tryd.prog 31 #[.agg #[.int .i64 seg,.slice wa lw wc,.slice ka n kc,.slice va lv vc,.slice ca lc cc,.int .u64 laid],.int .i64 i] w (AnsB w (.int .i64 0)):=by
 go_enter Tryd.func31,Tryd.ntmps31
 go_wp2_with fail
 refine (CK.out _ xbel).mono ?_;rintro e w1 ⟨rfl,hb1⟩;have hz_w1:=hb1.size;try simp only [World.size_alloc,World.size_setCell] at hz_w1
 have hh:=bc6 hb1 (al6 (b:=w.heap.size) xsi);obtain ⟨c_t0,c_t1,c_t2,c_t3,c_t4,c_t5⟩:=hh;have z_t:=blt hb1 (alz (b:=w.heap.size) xsi);have hB1:Below w.heap.size w w1:=xbel;go_wp2
 go_ret
 exact ⟨rfl,hB1⟩
def askS (c:SlC) (i:Int):Int:=if slMay c=true then (if 0≤i∧i<c.ks.length then 0 else 2) else 8
theorem asked4_ok (c:SlC) (a:SlA) (hl:c.ws.length≤1000000000000) (hl2:c.ks.length≤1000000000000) (i:Int) (w:World) (hin:SlIn w c a):
    Calls Tryd.prog 31 #[slV c a,.int .i64 i] w (AnsB w (.int .i64 (askS c i))):=by
 have CK:=hid (fun W (hb:Below w.heap.size w W)=>slCheck_ok c a hl hl2 W (hin.below hb));unfold askS;by_cases hm:slMay c=true
 · rw [show slE c=0 from if_pos hm] at CK;rw [if_pos hm];by_cases h0:0≤i
   · by_cases hi:i<c.ks.length
     · rw [if_pos ⟨h0,hi⟩];exact asked4_in w _ _ _ _ _ _ _ _ _ _ _ _ _ _ i h0 hi CK
     · rw [if_neg (fun h=>hi h.2)];exact asked4_far w _ _ _ _ _ _ _ _ _ _ _ _ _ _ i h0 xo CK
   · rw [if_neg (fun h=>h0 h.1)];exact asked4_neg w _ _ _ _ _ _ _ _ _ _ _ _ _ _ i xo CK
 · rw [show slE c=8 from if_neg hm] at CK;rw [if_neg hm];exact asked4_bad w _ _ _ _ _ _ _ _ _ _ _ _ _ _ i 8 xdd CK
theorem two_at {w:World} {b:Nat} {x y:Value} (h0:w.cell? ⟨b,0,none⟩=some x) (h1:w.cell? ⟨b,1,none⟩=some y):∀j v,[x,y][j]? =some v→w.cell? ⟨b,j,none⟩=some v:=by
 intro j v hj;match j with
 | 0=>simp at hj;rw [←hj];exact h0
 | 1=>simp at hj;rw [←hj];exact h1
 | n+2=>simp at hj
theorem at_set {W:World} {b4 b5:Nat} {x y e u v z:Value} (hne:b4≠b5) (h0:W.cell? ⟨b4,0,none⟩=some u) (h1:W.cell? ⟨b4,1,none⟩=some v) (h2:W.cell? ⟨b5,0,none⟩=some z):
    (((W.setCell ⟨b4,0,none⟩ x).setCell ⟨b4,1,none⟩ y).setCell ⟨b5,0,none⟩ e).cell? ⟨b4,0,none⟩=some x∧(((W.setCell ⟨b4,0,none⟩ x).setCell ⟨b4,1,none⟩ y).setCell ⟨b5,0,none⟩ e).cell? ⟨b4,1,none⟩=some y∧(((W.setCell ⟨b4,0,none⟩ x).setCell ⟨b4,1,none⟩ y).setCell ⟨b5,0,none⟩ e).cell? ⟨b5,0,none⟩=some e:=by
 refine ⟨?_,?_,World.cell?_setCell_same (u:=z) _ _ _ ?_⟩
 · rw [World.cell?_setCell_other _ _ _ _ (by intro e;injection e with e1 e2;omega),World.cell?_setCell_other _ _ _ _ (by intro e;injection e with e1 e2;omega)];exact World.cell?_setCell_same _ _ _ h0
 · rw [World.cell?_setCell_other _ _ _ _ (by intro e;injection e with e1 e2;omega)];exact World.cell?_setCell_same _ _ _ (by rw [World.cell?_setCell_other _ _ _ _ (by intro e;injection e with e1 e2;omega)];exact h1)
 · rw [World.cell?_setCell_other _ _ _ _ (by intro e;injection e with e1 e2;omega),World.cell?_setCell_other _ _ _ _ (by intro e;injection e with e1 e2;omega)];exact h2
structure AtI (Z b4 b5 B:Nat) (w:World) (k:Nat) (W:World):Prop where
 zero:k=0
 c0:W.cell? ⟨b4,0,none⟩=some (.int .i64 0)
 c1:W.cell? ⟨b4,1,none⟩=some (.int .i64 0)
 e0:W.cell? ⟨b5,0,none⟩=some (.int .i64 0)
 f0:W.frozen? ⟨b4,0,none⟩=false
 f1:W.frozen? ⟨b4,1,none⟩=false
 g0:W.frozen? ⟨b5,0,none⟩=false
 bel:Below B w W
 big:Z≤W.heap.size
theorem AtI.calm {Z b4 b5 B M:Nat} {w:World} {k:Nat} {W W':World} (h:AtI Z b4 b5 B w k W) (hc:Calm M W W') (hB:B≤M):AtI Z b4 b5 B w k W':=
  ⟨h.zero,hc.cell h.c0,hc.cell h.c1,hc.cell h.e0,hc.frozen h.c0 h.f0,hc.frozen h.c1 h.f1,hc.frozen h.e0 h.g0,hc.below hB h.bel,Nat.le_trans h.big hc.size⟩
structure AtX (x y:Int) (m b4 b5 B:Nat) (w:World) (c:Code) (W:World):Prop where
 code:c= .ret
 hit:m≠0
 c0:W.cell? ⟨b4,0,none⟩=some (.int .i64 x)
 c1:W.cell? ⟨b4,1,none⟩=some (.int .i64 y)
 e0:W.cell? ⟨b5,0,none⟩=some (.int .i64 0)
 bel:Below B w W
theorem AtX.calm {x y:Int} {m b4 b5 B M:Nat} {w:World} {c:Code} {W W':World} (h:AtX x y m b4 b5 B w c W) (hc:Calm M W W') (hB:B≤M):AtX x y m b4 b5 B w c W':=
  ⟨h.code,h.hit,hc.cell h.c0,hc.cell h.c1,hc.cell h.e0,hc.below hB h.bel⟩
theorem At4_no (w:World) (seg:Int) (wa ka va ca:Option Addr) (wc kc vc cc lw n lv lc:Nat) (laid i:Int) (x:Int) (hx:x≠0)
    (AK:Hid (∀W,Below w.heap.size w W→Calls Tryd.prog 31 #[.agg #[.int .i64 seg,.slice wa lw wc,.slice ka n kc,.slice va lv vc,.slice ca lc cc,.int .u64 laid],.int .i64 i] W (AnsB W (.int .i64 x)))):
    Calls Tryd.prog 74 #[.agg #[.int .i64 seg,.slice wa lw wc,.slice ka n kc,.slice va lv vc,.slice ca lc cc,.int .u64 laid],.int .i64 i] w (AnsB w (.tuple #[.agg #[.int .i64 0,.int .i64 0],.int .i64 x])):=by
 have g1:(x != 0)=true:=by simpa using hx
 clear hx;go_enter Tryd.func74,Tryd.ntmps74
 go_wp2_with fail
 refine (AK.out _ xbel).mono ?_;rintro e w1 ⟨rfl,hb1⟩;have hz_w1:=hb1.size;try simp only [World.size_alloc,World.size_setCell] at hz_w1
 have all_c:w1.cell? ⟨w.heap.size+1,0,none⟩=some (.int .i64 0)∧w1.cell? ⟨w.heap.size+1,1,none⟩=some (.int .i64 0)∧w1.cell? ⟨w.heap.size+1+1,0,none⟩=some (.int .i64 0):=by refine ⟨?_,?_,?_⟩<;>(refine (hb1.cell ?_).trans ?_<;>first|(exact xlt)|(exact xcn))
 have all_f:w1.frozen? ⟨w.heap.size+1,0,none⟩=false∧w1.frozen? ⟨w.heap.size+1,1,none⟩=false∧w1.frozen? ⟨w.heap.size+1+1,0,none⟩=false:=by refine ⟨?_,?_,?_⟩<;>(refine (hb1.frozen ?_).trans ?_<;>first|(exact xlt)|(exact xcn))
 have all_z:w.heap.size+1<w1.heap.size∧w.heap.size+1+1<w1.heap.size:=by refine ⟨?_,?_⟩<;>(omega)
 obtain ⟨c_p0,c_p1,c_e0⟩:=all_c;try clear all_c
 obtain ⟨f_p0,f_p1,f_e0⟩:=all_f;try clear all_f
 obtain ⟨z_p,z_e⟩:=all_z;try clear all_z
 have hB1:Below w.heap.size w w1:=xbel;go_wp2
 obtain ⟨d0,d1,d2⟩:=at_set (x:= .int .i64 0) (y:= .int .i64 0) (e:= .int .i64 x) (show w.heap.size+1≠w.heap.size+1+1 by omega) c_p0 c_p1 c_e0;exact bodyPost_ret (results_cc rfl rfl rfl (run_loadVar_many _ Tryd.underlying59 rfl xk (two_at d0 d1)) (run_loadVar_one Tryd.underlying34 rfl d2)) rfl ⟨rfl,((hB1.setCell xdo _).setCell xdo _).setCell xdo _⟩
theorem At4_in (c:SlC) (a:SlA) (i:Nat) (L:List (Int×Int)) (hL:L.length≤1) (hi:i+1≤65536) (w:World) (hin:SlIn w c a)
    (AK:Hid (∀W,Below w.heap.size w W→Calls Tryd.prog 31 #[slV c a,.int .i64 i] W (AnsB W (.int .i64 0))))
    (IT:Hid (∀(S:Nat→Prop) (b1 b2 b3:Nat),S b1→S b2→S b3→SlS S c a→∀W,IsRow .u64 W a.wa c.ws→IsRow .i64 W a.ka c.ks→IsRow .i64 W a.va c.vs→PrBox W b1 b2 b3 c a i (i+1)→Iter Tryd.prog 91 #[.pointer (some ⟨b1,0,none⟩),.pointer (some ⟨b2,0,none⟩),.pointer (some ⟨b3,0,none⟩)] (pairsL L) (KpS S) W)):
    Calls Tryd.prog 74 #[slV c a,.int .i64 i] w (AnsB w (.tuple #[.agg #[.int .i64 (L.getD 0 (0,0)).1,.int .i64 (L.getD 0 (0,0)).2],.int .i64 (if L.length=0 then 6 else 0)])):=by
 have HIN:=hid hin;have PA:=hid (fun w=>pairs_ok c a i (i+1) w);have HPL:=hid (pairsL_length L);have HPG:=hid (fun k (h:k<L.length)=>pairsL_get h);have k1:IntKind.i64.wrap ((i:Int)+1)=(i:Int)+1:=IntWalk.i64_in _ xo;have NO:=hid (fun (h:L.length=0)=>(show (L.getD 0 (0,0)).1=0∧(L.getD 0 (0,0)).2=0∧(if L.length=0 then (6:Int) else 0)=6 by
  rw [List.length_eq_zero_iff.1 h];exact ⟨rfl,rfl,rfl⟩))
 have YES:=hid (fun (h:L.length≠0)=>(show (if L.length=0 then (6:Int) else 0)=0 from if_neg h));generalize hE:(if L.length=0 then (6:Int) else 0)=E at *;have HXY:Hid (∀k,k<L.length→(L.getD k (0,0)).1=(L.getD 0 (0,0)).1∧(L.getD k (0,0)).2=(L.getD 0 (0,0)).2∧L.length≠0):=hid fun k hk=>by
  obtain rfl:k=0:=xo;exact ⟨rfl,rfl,by omega⟩
 generalize (L.getD 0 (0,0)).1=X at *;generalize (L.getD 0 (0,0)).2=Y at *;clear hin hE hL;obtain ⟨seg,ws,ks,vs,cs,laid⟩:=c;obtain ⟨wa,ka,va,ca,wc,kc,vc,cc⟩:=a;dsimp only [slV] at *;refine calls_of_wp_m Tryd.func74 rfl ?_;simp only [Tryd.ntmps74,List.size_toArray,List.length_cons,List.length_nil,Nat.reduceAdd,Nat.reduceSub,Array.replicate_succ,Array.replicate_zero,List.push_toArray,List.append_toArray,List.nil_append,List.cons_append];go_wp2_with fail
 refine (AK.out _ xbel).mono ?_;rintro e w1 ⟨rfl,hb1⟩;have hz_w1:=hb1.size;try simp only [World.size_alloc,World.size_setCell] at hz_w1
 have hh:=bc6 hb1 (au6 (au6 (al6 (b:=w.heap.size) xsi)));obtain ⟨c_t0,c_t1,c_t2,c_t3,c_t4,c_t5⟩:=hh;have z_t:=blt hb1 (auz (auz (alz (b:=w.heap.size) xsi)));have hh:=bc2 hb1 (au2 (al2 (b:=w.heap.size+1) xsi));obtain ⟨c_p0,c_p1⟩:=hh;have hh:=bf2 hb1 (auz (alz (b:=w.heap.size+1) xsi)) (auf2 (alz (b:=w.heap.size+1) xsi) (alf2 (b:=w.heap.size+1) xsi));obtain ⟨f_p0,f_p1⟩:=hh;have z_p:=blt hb1 (auz (alz (b:=w.heap.size+1) xsi));have c_e0:=bc1 hb1 (al1 (b:=w.heap.size+1+1) xsi);have f_e0:=bf1 hb1 (alz (b:=w.heap.size+1+1) xsi) (alf1 (b:=w.heap.size+1+1) xsi);have z_e:=blt hb1 (alz (b:=w.heap.size+1+1) xsi);have hB1:Below w.heap.size w w1:=xbel;have hz1:w.heap.size+3≤w1.heap.size:=xo;go_wp2_with fail
 refine (PA.out _).mono ?_;rintro e w2 ⟨rfl,rfl⟩;have HI1:=HIN.out.below hB1;have HB1:=hid hB1;go_wp2
 refine wp_range_w (xs:=pairsL L) (Kp:=KpS (fun k=>k<w1.heap.size+3)) rfl (enters_of Tryd.func91 xk rfl)
   (IT.out (fun k=>k<w1.heap.size+3) (w1.heap.size+1) (w1.heap.size+2) w1.heap.size (by show _<_;omega) (by show _<_;omega) (by show _<_;omega) ⟨?s1,?s2,?s3⟩ _ ?r1 ?r2 ?r3 ⟨?b1,?b2,?b3,?b4,?b5,?b6,?b7,?b8⟩) br (fun h k=>fun i hi=>(k i hi).trans (h i hi)) ?kb ?ps
   (AtI (w1.heap.size+3) (w.heap.size+1) (w.heap.size+1+1) w.heap.size w) (AtX X Y L.length (w.heap.size+1) (w.heap.size+1+1) w.heap.size w) ?hI ?hX ?h0 ?round ?done ?stop
 case s1=>intro x hx h0;have:=row_block HI1.w x hx h0;show _<_;omega
 case s2=>intro x hx h0;have:=row_block HI1.k x hx h0;show _<_;omega
 case s3=>intro x hx h0;have:=row_block HI1.v x hx h0;show _<_;omega
 case r1=>exact HI1.w.below xbel
 case r2=>exact HI1.k.below xbel
 case r3=>exact HI1.v.below xbel
 case b1=>(exact xcn)
 case b2=>(exact xcn)
 case b3=>(exact xcn)
 case b4=>(exact xcn)
 case b5=>(exact xcn)
 case b6=>(exact xcn)
 case b7=>(exact xcn)
 case b8=>(exact xcn)
 case kb=>
  intro W q o o' hl _ _ k hk;simp at hl;exact World.putObj_heap_other xo
 case ps=>
  intro x hx;simp only [pairsL,List.mem_map] at hx;obtain ⟨k,_,rfl⟩:=hx;rfl
 case hI=>
  intro k W W' h hc;exact h.calm hc (by simp;omega)
 case hX=>
  intro k W W' h hc;exact h.calm hc (by simp;omega)
 case h0=>
  exact ⟨rfl,by (exact xcn),by (exact xcn),by (exact xcn),by (exact xcn),by (exact xcn),by (exact xcn),by (exact xbel),by simp⟩
 case round=>
  intro q k W hq hk hi;rw [HPL.out] at hk;rw [HPG.out k hk];obtain ⟨hxx,hyy,hne⟩:=HXY.out k hk;rw [hxx,hyy];obtain ⟨-,hc0,hc1,he0,hf0,hf1,hg0,hbel,hzW⟩:=hi;have hzb:w.heap.size+1+1<W.heap.size:=World.block_lt_of_cell? _ _ he0;clear hxx hyy hk;gi_wp2
  have hab:Below W.heap.size W (W.alloc (.cells #[.int .i64 X,.int .i64 Y] 59)):=br.alloc (Nat.le_refl _) _;refine ⟨keeps_below hab,fun i hi=>hab.block i xo,?_⟩;intro W2 hc;have q0:W2.cell? ⟨W.heap.size,0,none⟩=some (.int .i64 X):=hc.cell xcw;have q1:W2.cell? ⟨W.heap.size,1,none⟩=some (.int .i64 Y):=hc.cell xcw;have p0:W2.cell? ⟨w.heap.size+1,0,none⟩=some (.int .i64 0):=hc.cell ((hab.cell (p:=⟨w.heap.size+1,0,none⟩) xdo).trans hc0);have p1:W2.cell? ⟨w.heap.size+1,1,none⟩=some (.int .i64 0):=hc.cell ((hab.cell (p:=⟨w.heap.size+1,1,none⟩) xdo).trans hc1);have r0:W2.cell? ⟨w.heap.size+1+1,0,none⟩=some (.int .i64 0):=hc.cell ((hab.cell (p:=⟨w.heap.size+1+1,0,none⟩) xdo).trans he0);have m0:W2.frozen? ⟨w.heap.size+1,0,none⟩=false:=hc.frozen ((hab.cell (p:=⟨w.heap.size+1,0,none⟩) xdo).trans hc0) ((hab.frozen (p:=⟨w.heap.size+1,0,none⟩) xdo).trans hf0);have m1:W2.frozen? ⟨w.heap.size+1,1,none⟩=false:=hc.frozen ((hab.cell (p:=⟨w.heap.size+1,1,none⟩) xdo).trans hc1) ((hab.frozen (p:=⟨w.heap.size+1,1,none⟩) xdo).trans hf1);have m2:W2.frozen? ⟨w.heap.size+1+1,0,none⟩=false:=hc.frozen ((hab.cell (p:=⟨w.heap.size+1+1,0,none⟩) xdo).trans he0) ((hab.frozen (p:=⟨w.heap.size+1+1,0,none⟩) xdo).trans hg0);have HB2:Hid (Below w.heap.size w W2):=hid (hc.below (by simp;omega) (below_via hab hbel xo));clear hbel hab hc hc0 hc1 he0 hf0 hf1 hg0;gi_wp2
  obtain ⟨d0,d1,d2⟩:=at_set (x:= .int .i64 X) (y:= .int .i64 Y) (e:= .int .i64 0) (show w.heap.size+1≠w.heap.size+1+1 by omega) p0 p1 r0;refine ⟨((KeepsOthers.setCell W2 ⟨w.heap.size+1,0,none⟩ _).trans (KeepsOthers.setCell _ ⟨w.heap.size+1,1,none⟩ _)).trans (KeepsOthers.setCell _ ⟨w.heap.size+1+1,0,none⟩ _),⟨rfl,hne,d0,d1,d2,((HB2.out.setCell xdo _).setCell xdo _).setCell xdo _⟩⟩
 case done=>
  intro D W hD hi hK;obtain ⟨hz0,hc0,hc1,he0,hf0,hf1,hg0,hbl,-⟩:=hi;rw [HPL.out] at hz0;obtain ⟨rfl,rfl,rfl⟩:=NO.out hz0;simp at hD;have HBL:=hid hbl;clear hbl YES NO HPG HXY;go_wp2
  obtain ⟨d0,d1,d2⟩:=at_set (x:= .int .i64 0) (y:= .int .i64 0) (e:= .int .i64 6) (show w.heap.size+1≠w.heap.size+1+1 by omega) hc0 hc1 he0;have hB4:Below w.heap.size w (((W.setCell ⟨w.heap.size+1,0,none⟩ (.int .i64 0)).setCell ⟨w.heap.size+1,1,none⟩ (.int .i64 0)).setCell ⟨w.heap.size+1+1,0,none⟩ (.int .i64 6)):=((HBL.out.setCell xdo _).setCell xdo _).setCell xdo _;have hK2:(((W.setCell ⟨w.heap.size+1,0,none⟩ (.int .i64 0)).setCell ⟨w.heap.size+1,1,none⟩ (.int .i64 0)).setCell ⟨w.heap.size+1+1,0,none⟩ (.int .i64 6)).heap[D]? =some (.deferred (some [])):=by
   rw [Below.heap_setCell _ _ _ _ (by show D≠w.heap.size+1+1;omega),Below.heap_setCell _ _ _ _ (by show D≠w.heap.size+1;omega),Below.heap_setCell _ _ _ _ (by show D≠w.heap.size+1;omega)];exact hK
  generalize (((W.setCell ⟨w.heap.size+1,0,none⟩ (.int .i64 0)).setCell ⟨w.heap.size+1,1,none⟩ (.int .i64 0)).setCell ⟨w.heap.size+1+1,0,none⟩ (.int .i64 6))=W4 at *;have hcalm:Calm (w.heap.size+3) W4 (W4.putObj D (.deferred none)):=Calm.putObj _ xo hK2 rfl;exact postM_one hK2 (results_cc rfl rfl rfl (run_loadVar_many _ Tryd.underlying59 rfl xk (two_at (hcalm.cell d0) (hcalm.cell d1))) (run_loadVar_one Tryd.underlying34 rfl (hcalm.cell d2))) ⟨rfl,hcalm.below xo hB4⟩
 case stop=>
  intro D c W hD hX hK;obtain ⟨rfl,hne,hc0,hc1,he0,hbel⟩:=hX;obtain rfl:=YES.out hne;simp at hD;have hcalm:Calm (w.heap.size+3) W (W.putObj D (.deferred none)):=Calm.putObj _ xo hK rfl;clear YES NO HPG HXY;go_wp2
  exact postM_one hK (results_cc rfl rfl rfl (run_loadVar_many _ Tryd.underlying59 rfl xk (two_at (hcalm.cell hc0) (hcalm.cell hc1))) (run_loadVar_one Tryd.underlying34 rfl (hcalm.cell he0))) ⟨rfl,hcalm.below xo hbel⟩
def atS (c:SlC) (i:Int):Int×Int×Int:=if askS c i=0 then (if bitW c.ws i.toNat=true then (c.ks.getD i.toNat 0,c.vs.getD i.toNat 0,0) else (0,0,6)) else (0,0,askS c i)
theorem At4_ok (c:SlC) (a:SlA) (hl:c.ws.length≤1000000000000) (hl2:c.ks.length≤1000000000000) (i:Int) (w:World) (hin:SlIn w c a):
    Calls Tryd.prog 74 #[slV c a,.int .i64 i] w (AnsB w (.tuple #[.agg #[.int .i64 (atS c i).1,.int .i64 (atS c i).2.1],.int .i64 (atS c i).2.2])):=by
 have AK:=hid (fun W (hb:Below w.heap.size w W)=>asked4_ok c a hl hl2 i W (hin.below hb));unfold atS;by_cases h:askS c i=0
 · rw [h] at AK;rw [if_pos h];have hm:slMay c=true:=by
    unfold askS at h;split at h
    · assumption
    · cases h
   have hp:0≤i∧i<c.ks.length:=by
    unfold askS at h;rw [if_pos hm] at h;split at h
    · assumption
    · cases h
   obtain ⟨S,M,-,-,-,hnk,hnv,-,-,hSM,-,hnw,-,-,-⟩:=slHead_facts (slMay_head hm);obtain ⟨p,rfl⟩:∃p:Nat,i=p:=⟨i.toNat,by omega⟩
   rw [Int.toNat_natCast];have hlen:(prs c p (p+1)).length≤1:=by
    rw [prs_succ (Nat.le_refl p)];have:prs c p p=[]:=by simp [prs,plsW]
    rw [this];split<;>simp
   have A:=At4_in c a p (prs c p (p+1)) hlen xo w hin AK (hid fun S b1 b2 b3 s1 s2 s3 hS W hw hk hv hbx=>pairs1_iter c a hin.u p (p+1) xo xo xo xo xo S b1 b2 b3 s1 s2 s3 hS W hw hk hv hbx);have e0:prs c p p=[]:=by simp [prs,plsW]
   rw [prs_succ (Nat.le_refl p),e0] at A;by_cases hb:bitW c.ws p=true
   · rw [if_pos hb] at A ⊢;exact A
   · rw [if_neg hb] at A ⊢;exact A
 · rw [if_neg h];exact At4_no w _ _ _ _ _ _ _ _ _ _ _ _ _ _ i _ h AK
end
end Go.Proofs.YtmnlagmmbfjbeaaDoor

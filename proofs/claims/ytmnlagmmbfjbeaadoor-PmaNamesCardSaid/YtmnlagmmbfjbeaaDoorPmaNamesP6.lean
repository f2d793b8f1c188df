/- Merged: F64, FracW, InvLate. -/
import Derived.Laws.ComplexArith
import Derived.Test.YtmnlagmmbfjbeaaDoorPmaNamesP3
import Derived.Test.YtmnlagmmbfjbeaaDoorPmaNamesP2
import Derived.Test.YtmnlagmmbfjbeaaDoorPmaNamesP5
namespace Go.Proofs.YtmnlagmmbfjbeaaDoor
set_option maxRecDepth 100000
set_option maxHeartbeats 40000000
set_option linter.unusedVariables false
set_option linter.unusedSimpArgs false
section
open Go
def Rep (d:Ieee.Datum) (n:Int):Prop:=∃s m i b,d= .number s m i∧b≤i∧b≤0∧Ieee.signed s m (i-b).toNat=n*2^(-b).toNat
theorem sg_mul (s:Bool) (m u v:Nat):Ieee.signed s m (u+v)=Ieee.signed s m u*2^v:=by
 unfold Ieee.signed;rw [Nat.shiftLeft_eq,Nat.shiftLeft_eq,Nat.pow_add,←Nat.mul_assoc];cases s<;>simp [Int.neg_mul]
theorem sg_xor (s t:Bool) (m n u v:Nat):Ieee.signed (s ^^ t) (m*n) (u+v)=Ieee.signed s m u*Ieee.signed t n v:=by
 unfold Ieee.signed;rw [Nat.shiftLeft_eq,Nat.shiftLeft_eq,Nat.shiftLeft_eq,Nat.pow_add];have e:m*n*(2^u*2^v)=(m*2^u)*(n*2^v):=by
  rw [Nat.mul_assoc,Nat.mul_assoc,←Nat.mul_assoc n,Nat.mul_comm n (2^u),Nat.mul_assoc]
 rw [e];cases s<;>cases t<;>simp [Int.neg_mul,Int.mul_neg]
theorem two_ne (k:Nat):(2:Int)^k≠0:=by
 have:(2:Int)^k=((2^k:Nat):Int):=by push_cast;rfl
 rw [this];have:=Nat.two_pow_pos k;omega
theorem rep_at {s:Bool} {m:Nat} {i:Int} {n:Int} (h:Rep (.number s m i) n) {b:Int} (h1:b≤i) (h2:b≤0):Ieee.signed s m (i-b).toNat=n*2^(-b).toNat:=by
 obtain ⟨s',m',i',b',e,h3,h4,h5⟩:=h;cases e;rcases Int.le_total b b' with hb|hb
 · obtain ⟨k,hk⟩:∃k:Nat,b'-b=k:=⟨(b'-b).toNat,by omega⟩
   rw [show (i-b).toNat=(i-b').toNat+k by omega,sg_mul,h5,show (-b).toNat=(-b').toNat+k by omega,Int.pow_add,Int.mul_assoc]
 · obtain ⟨k,hk⟩:∃k:Nat,b-b'=k:=⟨(b-b').toNat,by omega⟩
   rw [show (i-b').toNat=(i-b).toNat+k by omega,sg_mul,show (-b').toNat=(-b).toNat+k by omega,Int.pow_add,←Int.mul_assoc] at h5;exact Int.eq_of_mul_eq_mul_right (two_ne k) h5
theorem rep_num {d:Ieee.Datum} {n:Int} (h:Rep d n):∃s m i,d= .number s m i:=by
 obtain ⟨s,m,i,b,e,-⟩:=h;exact ⟨s,m,i,e⟩
theorem rep_product {d d':Ieee.Datum} {n n':Int} (h:Rep d n) (h':Rep d' n'):∃r,d.product d'=some r∧Rep r (n*n'):=by
 obtain ⟨s,m,i,b,rfl,h1,h2,h3⟩:=h;obtain ⟨t,k,j,c,rfl,g1,g2,g3⟩:=h';refine ⟨_,rfl,s ^^ t,m*k,i+j,b+c,rfl,by omega,by omega,?_⟩;rw [show (i+j-(b+c)).toNat=(i-b).toNat+(j-c).toNat by omega,sg_xor,h3,g3,show (-(b+c)).toNat=(-b).toNat+(-c).toNat by omega,Int.pow_add];rw [Int.mul_assoc,Int.mul_assoc,←Int.mul_assoc _ n',Int.mul_comm (2^(-b).toNat) n',Int.mul_assoc]
theorem sg_abs (x:Int) (z:Bool) (u:Nat):Ieee.signed (if x=0 then z else x<0) x.natAbs u=x*2^u:=by
 unfold Ieee.signed;rw [Nat.shiftLeft_eq];have e:((x.natAbs*2^u:Nat):Int)=(x.natAbs:Int)*2^u:=by push_cast;rfl
 rw [e];by_cases h0:x=0
 · subst h0;cases z<;>simp
 · rw [if_neg h0];by_cases h:x<0
   · simp only [h,decide_true,if_true];rw [←Int.neg_mul];congr 1
     omega
   · simp only [h,decide_false,Bool.false_eq_true,if_false];congr 1
     omega
theorem rep_sum {d d':Ieee.Datum} {n n':Int} (h:Rep d n) (h':Rep d' n'):∃r,d.sum d'=some r∧Rep r (n+n'):=by
 obtain ⟨s,m,i,rfl⟩:=rep_num h;obtain ⟨t,k,j,rfl⟩:=rep_num h';refine ⟨_,rfl,?_⟩;obtain ⟨b,hb⟩:∃b,min (min i j) 0=b:=⟨_,rfl⟩
 have r1:=rep_at h (b:=b) xo xo;have r2:=rep_at h' (b:=b) xo xo;refine ⟨_,_,_,b,rfl,by omega,by omega,?_⟩;rw [sg_abs];obtain ⟨c,hc⟩:∃c:Nat,min i j-b=c:=⟨(min i j-b).toNat,by omega⟩
 rw [Int.add_mul,show (min i j-b).toNat=c by omega,←sg_mul,←sg_mul,show (i-min i j).toNat+c=(i-b).toNat by omega,show (j-min i j).toNat+c=(j-b).toNat by omega,r1,r2,Int.add_mul]
theorem rep_opposite {d:Ieee.Datum} {n:Int} (h:Rep d n):Rep d.opposite (-n):=by
 obtain ⟨s,m,i,b,rfl,h1,h2,h3⟩:=h;refine ⟨!s,m,i,b,rfl,h1,h2,?_⟩;rw [Int.neg_mul,←h3];unfold Ieee.signed;cases s<;>simp
theorem rep_order {d d':Ieee.Datum} {n n':Int} (h:Rep d n) (h':Rep d' n'):d.order d'=some (compare n n'):=by
 obtain ⟨s,m,i,rfl⟩:=rep_num h;obtain ⟨t,k,j,rfl⟩:=rep_num h';obtain ⟨b,hb⟩:∃b,min (min i j) 0=b:=⟨_,rfl⟩
 have r1:=rep_at h (b:=b) xo xo;have r2:=rep_at h' (b:=b) xo xo;obtain ⟨c,hc⟩:∃c:Nat,min i j-b=c:=⟨(min i j-b).toNat,by omega⟩
 rw [show (i-b).toNat=(i-min i j).toNat+c by omega,sg_mul] at r1;rw [show (j-b).toNat=(j-min i j).toNat+c by omega,sg_mul] at r2;unfold Ieee.Datum.order;simp only [Option.some.injEq];generalize Ieee.signed s m (i-min i j).toNat=x at *;generalize Ieee.signed t k (j-min i j).toNat=y at *;have p1:(0:Int)<2^c:=by
  have:(2:Int)^c=((2^c:Nat):Int):=by push_cast;rfl
  rw [this];have:=Nat.two_pow_pos c;omega
 have p2:(0:Int)<2^(-b).toNat:=by
  have:(2:Int)^(-b).toNat=((2^(-b).toNat:Nat):Int):=by push_cast;rfl
  rw [this];have:=Nat.two_pow_pos (-b).toNat;omega
 have key:x<y↔n<n':=by
  constructor
  · intro hlt;have:=Int.mul_lt_mul_of_pos_right hlt p1;rw [r1,r2] at this;exact Int.lt_of_mul_lt_mul_right this (Int.le_of_lt p2)
  · intro hlt;have:=Int.mul_lt_mul_of_pos_right hlt p2;rw [←r1,←r2] at this;exact Int.lt_of_mul_lt_mul_right this (Int.le_of_lt p1)
 have key2:x=y↔n=n':=by
  constructor
  · rintro rfl;rw [r1] at r2;exact Int.eq_of_mul_eq_mul_right (Int.ne_of_gt p2) r2
  · rintro rfl;rw [←r2] at r1;exact Int.eq_of_mul_eq_mul_right (Int.ne_of_gt p1) r1
 simp only [compare,compareOfLessAndEq,key,key2]
theorem log2_mul_two (m:Nat) (hm:0<m) (u:Nat):(m*2^u).log2=m.log2+u:=by
 have hp:=Nat.two_pow_pos u;have h1:2^m.log2≤m:=(Nat.le_log2 xo).1 (Nat.le_refl _);have h2:m<2^(m.log2+1):=(Nat.log2_lt xo).1 (Nat.lt_succ_self _);have hne:m*2^u≠0:=Nat.mul_ne_zero xo xo;refine (Nat.log2_eq_iff hne).2 ⟨?_,?_⟩
 · rw [Nat.pow_add];exact Nat.mul_le_mul_right _ h1
 · rw [show m.log2+u+1=(m.log2+1)+u by omega,Nat.pow_add];exact (Nat.mul_lt_mul_right hp).2 h2
theorem read_at (w r:Nat) (neg:Bool) (h1:(w/Ieee.double.signWeight%2==1)=neg) (h2:w%Ieee.double.signWeight=r) (h3:¬r<Ieee.double.binade) (h4:r<Ieee.double.infRung):
    Ieee.double.read w= .number neg (Ieee.double.binade+r%Ieee.double.binade) (Ieee.double.leastPlace+(r/Ieee.double.binade-1:Nat)):=by
 unfold Ieee.Format.read;simp only [h1,h2,if_neg h3,if_pos h4]
theorem read_rung {s:Bool} {t K:Nat} (ht:t≤52) (h1:4503599627370496≤K) (h2:K<9007199254740992):
    Ieee.double.read (Ieee.double.word s (min ((1074-t)*4503599627370496+K) Ieee.double.infRung))= .number s K (-(t:Int)):=by
 have e1:Ieee.double.infRung=9218868437227405312:=by decide
 have e2:Ieee.double.signWeight=9223372036854775808:=by decide
 have e3:Ieee.double.binade=4503599627370496:=by decide
 have e4:Ieee.double.leastPlace= -1074:=by decide
 obtain ⟨r,hr⟩:∃r,(1074-t)*4503599627370496+K=r:=⟨_,rfl⟩
 have hm:min r Ieee.double.infRung=r:=Nat.min_eq_left (by rw [e1];omega);rw [hr,hm];have a1:Ieee.double.binade+r%Ieee.double.binade=K:=by rw [e3];omega
 have a2:Ieee.double.leastPlace+((r/Ieee.double.binade-1:Nat):Int)= -(t:Int):=by rw [e3,e4];omega
 have h3:¬r<Ieee.double.binade:=by rw [e3];omega
 have h4:r<Ieee.double.infRung:=by rw [e1];omega
 have hw:Ieee.double.word s r=if s then 9223372036854775808+r else r:=by unfold Ieee.Format.word;rw [e2]
 rw [hw];cases s with
 | true=>
  rw [if_pos rfl,read_at _ r true (by rw [e2,beq_iff_eq];omega) (by rw [e2];omega) h3 h4,a1,a2]
 | false=>
  rw [if_neg xdd,read_at _ r false (by rw [e2,beq_eq_false_iff_ne];omega) (by rw [e2];omega) h3 h4,a1,a2]
theorem cut_none (s:Bool) (n:Nat):Ieee.Toward.cut .even s n 0=n:=by
 simp [Ieee.Toward.cut,Nat.mod_one]
theorem cut_exact (s:Bool) (n d:Nat):Ieee.Toward.cut .even s (n*2^d) d=n:=by
 have hp:=Nat.two_pow_pos d;by_cases h0:n=0
 · subst h0;simp [Ieee.Toward.cut]
 · have hg:(1 <<< min d ((n*2^d).log2+2))=2^d:=by
     rw [log2_mul_two n xo,Nat.shiftLeft_eq,Nat.one_mul,Nat.min_eq_left xo]
   unfold Ieee.Toward.cut;simp only [hg,Nat.mul_div_cancel _ hp,Nat.mul_mod_left];simp
theorem rep_write {d:Ieee.Datum} {n:Int} (h:Rep d n) (hn:n.natAbs<9007199254740992):Rep (Ieee.double.read (Ieee.double.write d)) n:=by
 obtain ⟨s,m,e,rfl⟩:=rep_num h;obtain ⟨b,hb⟩:∃b,min e 0=b:=⟨_,rfl⟩
 have r:=rep_at h (b:=b) xo xo;obtain ⟨u,hu⟩:∃u,(e-b).toNat=u:=⟨_,rfl⟩
 obtain ⟨v,hv⟩:∃v,(-b).toNat=v:=⟨_,rfl⟩
 rw [hu,hv] at r;have huv:u=0∨v=0:=xo;have hev:e=(u:Int)-v:=xo
 -- the sizes alone
 have ra:m*2^u=n.natAbs*2^v:=by
  have:=congrArg Int.natAbs r;rw [Int.natAbs_mul] at this;have e2:((2:Int)^v).natAbs=2^v:=by
   have:(2:Int)^v=((2^v:Nat):Int):=by push_cast;rfl
   rw [this];rfl
  rw [e2] at this;rw [←this];unfold Ieee.signed;rw [Nat.shiftLeft_eq];cases s
  · rfl
  · simp only [if_true];omega
 have rs:s=true→n≤0:=fun hs=>by
  subst hs;apply Int.not_lt.1;intro hpos;unfold Ieee.signed at r;simp only [if_true] at r;have:(0:Int)<n*2^v:=Int.mul_pos hpos (by
   have:(2:Int)^v=((2^v:Nat):Int):=by push_cast;rfl
   rw [this];have:=Nat.two_pow_pos v;omega)
  omega
 have rs2:s=false→0≤n:=fun hs=>by
  subst hs;apply Int.not_lt.1;intro hneg;unfold Ieee.signed at r;simp only [Bool.false_eq_true,if_false] at r;have:n*2^v<0:=Int.mul_neg_of_neg_of_pos hneg (by
   have:(2:Int)^v=((2^v:Nat):Int):=by push_cast;rfl
   rw [this];have:=Nat.two_pow_pos v;omega)
  omega
 have hsn:∀K:Nat,∀t:Nat,K=n.natAbs*2^t→Rep (.number s K (-(t:Int))) n:=fun K t hK=>by
  refine ⟨s,K,_,-(t:Int),rfl,Int.le_refl _,by omega,?_⟩;rw [Int.sub_self,Int.neg_neg];unfold Ieee.signed;simp only [Int.toNat_zero,Nat.shiftLeft_zero,Int.toNat_natCast];have e2:((n.natAbs*2^t:Nat):Int)=(n.natAbs:Int)*2^t:=by push_cast;rfl
  rw [hK,e2];cases s with
  | true=>
   have:=rs rfl;simp only [if_true];rw [←Int.neg_mul];congr 1
   omega
  | false=>
   have:=rs2 rfl;simp only [Bool.false_eq_true,if_false];congr 1
   omega
 unfold Ieee.Format.write Ieee.Format.nearest;simp only;by_cases hm:m=0
 · rw [if_pos hm];have hn0:n=0:=by
    rw [hm,Nat.zero_mul] at ra;have:=Nat.two_pow_pos v;have:n.natAbs=0:=by
     rcases Nat.mul_eq_zero.1 ra.symm with h|h<;>omega
    omega
   subst hn0;refine ⟨s,0,-1074,-1074,?_,Int.le_refl _,by decide,?_⟩
   · cases s<;>decide
   · rw [Int.zero_mul];unfold Ieee.signed;rw [Nat.zero_shiftLeft];cases s<;>rfl
 · rw [if_neg hm];have hN:0<n.natAbs:=by
    apply Nat.pos_of_ne_zero;intro h0;rw [h0,Nat.zero_mul] at ra;have:=Nat.two_pow_pos u;rcases Nat.mul_eq_zero.1 ra with h|h<;>omega
   have hl:=congrArg Nat.log2 ra;rw [log2_mul_two m xo,log2_mul_two n.natAbs hN] at hl;have hN52:n.natAbs.log2≤52:=by
    have:n.natAbs.log2<53:=(Nat.log2_lt xo).2 (by simpa using hn);omega
   obtain ⟨t,ht⟩:∃t:Nat,52-n.natAbs.log2=t:=⟨_,rfl⟩
   have hlast:max (e+(m.log2:Int)-(Ieee.double.fractionBits:Nat)) Ieee.double.leastPlace= -(t:Int):=by
    have e4:Ieee.double.leastPlace= -1074:=by decide
    have e5:((Ieee.double.fractionBits:Nat):Int)=52:=by decide
    rw [e4,e5];omega
   rw [hlast]
   have hkept:Ieee.Toward.cut .even s (m <<< (e - -(t:Int)).toNat) (-(t:Int)-e).toNat=n.natAbs*2^t:=by
    rw [Nat.shiftLeft_eq];by_cases hc: -(t:Int)≤e
    · rw [show (-(t:Int)-e).toNat=0 by omega,cut_none];rcases huv with h|h
      · subst h;rw [Nat.pow_zero,Nat.mul_one] at ra;rw [ra,Nat.mul_assoc,←Nat.pow_add];congr 2
        omega
      · subst h;rw [Nat.pow_zero,Nat.mul_one] at ra;rw [←ra,Nat.mul_assoc,←Nat.pow_add];congr 2
        omega
    · rw [show (e - -(t:Int)).toNat=0 by omega,Nat.pow_zero,Nat.mul_one];obtain ⟨dp,hdp⟩:∃dp,(-(t:Int)-e).toNat=dp:=⟨_,rfl⟩
      rw [hdp];have hu0:u=0:=xo;subst hu0;rw [Nat.pow_zero,Nat.mul_one] at ra;have em:m=(n.natAbs*2^t)*2^dp:=by
       rw [ra,Nat.mul_assoc,←Nat.pow_add];congr 2
       omega
      rw [em];exact cut_exact s _ dp
   rw [hkept];have hK1:4503599627370496≤n.natAbs*2^t∧n.natAbs*2^t<9007199254740992:=by
    have h1:2^n.natAbs.log2≤n.natAbs:=(Nat.le_log2 xo).1 (Nat.le_refl _);have h2:n.natAbs<2^(n.natAbs.log2+1):=(Nat.log2_lt xo).1 (Nat.lt_succ_self _);have hp:=Nat.two_pow_pos t;constructor
    · have:=Nat.mul_le_mul_right (2^t) h1;rw [←Nat.pow_add,show n.natAbs.log2+t=52 by omega] at this;exact this
    · have:=(Nat.mul_lt_mul_right hp).2 h2;rw [←Nat.pow_add,show n.natAbs.log2+1+t=53 by omega] at this;exact this
   have e3:Ieee.double.binade=4503599627370496:=by decide
   have e4:(-(t:Int)-Ieee.double.leastPlace).toNat=1074-t:=by
    have e4:Ieee.double.leastPlace= -1074:=by decide
    rw [e4];omega
   rw [e3,e4,read_rung xo hK1.1 hK1.2];exact hsn _ t rfl
theorem read_neg (x:Nat):Ieee.double.read (x ^^^ 2^63)=(Ieee.double.read x).opposite:=by
 have e2:Ieee.double.signWeight=2^63:=by decide
 have h1:((x ^^^ 2^63)/Ieee.double.signWeight%2==1)= !(x/Ieee.double.signWeight%2==1):=by
  rw [e2];have t:∀y:Nat,(y/2^63%2==1)=y.testBit 63:=fun y=>by
   rw [Nat.testBit_eq_decide_div_mod_eq];rfl
  rw [t,t,Nat.testBit_xor,Nat.testBit_two_pow_self];simp
 have h2:(x ^^^ 2^63)%Ieee.double.signWeight=x%Ieee.double.signWeight:=by
  rw [e2];apply Nat.eq_of_testBit_eq;intro i;rw [Nat.testBit_mod_two_pow,Nat.testBit_mod_two_pow,Nat.testBit_xor,Nat.testBit_two_pow];by_cases h:i<63
  · have:¬63=i:=xo;simp [this]
  · simp [h]
 unfold Ieee.Format.read;simp only [h1,h2];split
 · rfl
 · split
   · rfl
   · split<;>rfl
theorem rep_neg {x:Nat} {n:Int} (h:Rep (Ieee.double.read x) n):Rep (Ieee.double.read (x ^^^ 2^63)) (-n):=by
 rw [read_neg];exact rep_opposite h
theorem rep_of (n:Int) (hn:n.natAbs<9007199254740992):Rep (Ieee.double.read (floatOfInt .f64 n)) n:=by
 refine rep_write (d:= .number (n<0) n.natAbs 0) ⟨_,_,0,0,rfl,Int.le_refl _,Int.le_refl _,?_⟩ hn;unfold Ieee.signed;by_cases h:n<0
 · simp [h];omega
 · simp [h];omega
theorem f64_mul {x y:Nat} {n m:Int} (hx:Rep (Ieee.double.read x) n) (hy:Rep (Ieee.double.read y) m) (h:(n*m).natAbs<9007199254740992):∃r,floatBits .mul .f64 x y=some r∧Rep (Ieee.double.read r) (n*m):=by
 obtain ⟨d,h1,h2⟩:=rep_product hx hy;exact ⟨_,by show ((Ieee.double.read x).product (Ieee.double.read y)).map _=_;rw [h1];rfl,rep_write h2 h⟩
theorem f64_add {x y:Nat} {n m:Int} (hx:Rep (Ieee.double.read x) n) (hy:Rep (Ieee.double.read y) m) (h:(n+m).natAbs<9007199254740992):∃r,floatBits .add .f64 x y=some r∧Rep (Ieee.double.read r) (n+m):=by
 obtain ⟨d,h1,h2⟩:=rep_sum hx hy;exact ⟨_,by show ((Ieee.double.read x).sum (Ieee.double.read y)).map _=_;rw [h1];rfl,rep_write h2 h⟩
theorem f64_sub {x y:Nat} {n m:Int} (hx:Rep (Ieee.double.read x) n) (hy:Rep (Ieee.double.read y) m) (h:(n-m).natAbs<9007199254740992):∃r,floatBits .sub .f64 x y=some r∧Rep (Ieee.double.read r) (n-m):=by
 obtain ⟨d,h1,h2⟩:=rep_sum hx (rep_opposite hy);rw [←Int.sub_eq_add_neg] at h2;exact ⟨_,by show ((Ieee.double.read x).sum (Ieee.double.read y).opposite).map _=_;rw [h1];rfl,rep_write h2 h⟩
theorem abs_mul_lt {a b:Int} (ha:a.natAbs<67108864) (hb:b.natAbs<67108864):(a*b).natAbs<4503599627370496:=by
 rw [Int.natAbs_mul];have h1:a.natAbs*b.natAbs≤67108863*67108863:=Nat.mul_le_mul xo xo;omega
theorem cross_bits {a b c d:Nat} {A B C D:Int} (ha:Rep (Ieee.double.read a) A) (hb:Rep (Ieee.double.read b) B) (hc:Rep (Ieee.double.read c) C) (hd:Rep (Ieee.double.read d) D)
    (bA:A.natAbs<67108864) (bB:B.natAbs<67108864) (bC:C.natAbs<67108864) (bD:D.natAbs<67108864):
    ∃re im,cMulBits a b c (d ^^^ 2^63)=some (re,im)∧Rep (Ieee.double.read im) (B*C-A*D):=by
 have hd':=rep_neg hd;have bD':(-D).natAbs<67108864:=xo;have p1:=abs_mul_lt bA bC;have p2:=abs_mul_lt bB bD';have p3:=abs_mul_lt bA bD';have p4:=abs_mul_lt bB bC;obtain ⟨ac,e1,r1⟩:=f64_mul ha hc xo;obtain ⟨bd,e2,r2⟩:=f64_mul hb hd' xo;obtain ⟨re,e3,r3⟩:=f64_sub r1 r2 xo;obtain ⟨ad,e4,r4⟩:=f64_mul ha hd' xo;obtain ⟨bc,e5,r5⟩:=f64_mul hb hc xo;obtain ⟨im,e6,r6⟩:=f64_add r4 r5 xo;refine ⟨re,im,?_,?_⟩
 · unfold cMulBits;simp only [e1,e2,e3,e4,e5,e6,Option.bind_some]
 · rw [show B*C-A*D=A * -D+B*C by rw [Int.mul_neg];omega];exact r6
theorem order_zero {x:Nat} {n:Int} (h:Rep (Ieee.double.read x) n):Ieee.double.order x 0=some (compare n 0):=by
 have h0:Rep (Ieee.double.read 0) 0:=by
  refine ⟨false,0,-1074,-1074,by decide,Int.le_refl _,by decide,?_⟩;rw [Int.zero_mul];unfold Ieee.signed;rw [Nat.zero_shiftLeft];rfl
 exact rep_order h h0
end
section
open Go.RowKit
theorem row_alloc (k:IntKind) (w:World) (xs:List Int) (t:TypeId):IsRow k (w.alloc (.cells (xs.map (Value.int k)).toArray t)) (some ⟨w.heap.size,0,none⟩) xs:=by
 intro i hi;refine ⟨w.heap.size,0,rfl,by simp,fun j hj=> ?_⟩;rw [World.cell?_alloc_at _ _ _ _ rfl,Nat.zero_add];simp [List.getD_eq_getElem?_getD,hj]
theorem small_ok (xs:List Int) (ca:Nat) (hl:xs.length≤100) (p:Option Addr) (w:World) (hw:IsRow .i64 w p xs) (hs:∀i,-67108864<xs.getD i 0∧xs.getD i 0<67108864):
    Calls Tryd.prog 95 #[.slice p xs.length ca] w fun e w'=>e= .returned (.bool true)∧w=w':=by
 have HW:=hid hw;have HS:=hid hs;obtain ⟨m,hm⟩:∃m,xs.length=m:=⟨_,rfl⟩
 have HM:=hid hm;rw [hm] at hl ⊢;clear hw hs hm;go_enter Tryd.func95,Tryd.ntmps95
 go_wp2
 go_loopg [7] m (fun gk iv wr=>∃i:Nat,i+gk=m∧iv= .int .i64 i∧wr=w)
 case atStart=>exact ⟨0,by omega,rfl,rfl⟩
 case round=>
  obtain ⟨i,hi,rfl,rfl⟩:=hrel;by_cases hlt:i<m
  · obtain ⟨b,off,x,rfl,hx,hc,-⟩:=HW.out.get (i:=i) (by rw [HM.out];exact hlt);have hb:=HS.out i;rw [hx.out] at hb;obtain ⟨hb1,hb2⟩:=hb;clear hx;go_wp2
    go_roundg (gk-1)
    case measure=>omega
    case rel=>exact ⟨i+1,by omega,by go_num,rfl⟩
  · go_wp2
    go_ret
    exact ⟨rfl,rfl⟩
def IsBools (w:World) (b:Nat) (l:List Bool):Prop:=∀i,i<l.length→w.cell? ⟨b,i,none⟩=some (.bool (l.getD i false))
theorem bools_alloc (w:World) (l:List Bool) (t:TypeId):IsBools (w.alloc (.cells (l.map Value.bool).toArray t)) w.heap.size l:=by
 intro i hi;rw [World.cell?_alloc_at _ _ _ _ rfl];simp [List.getD_eq_getElem?_getD,hi]
theorem all_ok (l:List Bool) (ca b:Nat) (hl:l.length≤100) (w:World) (hw:IsBools w b l):
    Calls Tryd.prog 75 #[.slice (some ⟨b,0,none⟩) l.length ca] w fun e w'=>e= .returned (.bool (l.all id))∧w=w':=by
 have HW:=hid hw;obtain ⟨m,hm⟩:∃m,l.length=m:=⟨_,rfl⟩
 have HM:=hid hm;obtain ⟨z,hz⟩:∃z,l.all id=z:=⟨_,rfl⟩
 have HZ:=hid hz;rw [hm] at hl ⊢;rw [hz];clear hw hm hz;go_enter Tryd.func75,Tryd.ntmps75
 go_wp2
 go_loopg [7] m (fun gk iv wr=>∃i:Nat,i+gk=m∧iv= .int .i64 i∧wr=w∧Hid (∀j,j<i→l.getD j false=true))
 case atStart=>exact ⟨0,by omega,rfl,rfl,hid fun j hj=>by omega⟩
 case round=>
  obtain ⟨i,hi,rfl,rfl,HF⟩:=hrel;by_cases hlt:i<m
  · have hc:=HW.out i (by rw [HM.out];exact hlt);cases hb:l.getD i false with
    | true=>
     rw [hb] at hc;have HB:=hid hb;clear hb;go_wp2
     go_roundg (gk-1)
     case measure=>omega
     case rel=>
      refine ⟨i+1,by omega,by go_num,rfl,hid fun j hj=> ?_⟩;by_cases e:j=i
      · rw [e];exact HB.out
      · exact HF.out j xo
    | false=>
     rw [hb] at hc;have hzf:z=false:=by
      rw [←HZ.out,List.all_eq_false];have hlm:i<l.length:=by rw [HM.out];exact hlt
      refine ⟨l[i],List.getElem_mem _,?_⟩;rw [List.getD_eq_getElem?_getD,List.getElem?_eq_getElem hlm,Option.getD_some] at hb;simp [hb]
     subst hzf;clear hb;go_wp2
     go_ret
     exact ⟨rfl,rfl⟩
  · have hzt:z=true:=by
      rw [←HZ.out,List.all_eq_true];intro x hx;obtain ⟨j,hj,rfl⟩:=List.mem_iff_getElem.1 hx;have:=HF.out j (by rw [HM.out] at hj;omega);rw [List.getD_eq_getElem?_getD,List.getElem?_eq_getElem hj,Option.getD_some] at this;exact this
    subst hzt;go_wp2
    go_ret
    exact ⟨rfl,rfl⟩
theorem cpower_ok (n lo hi:Int) (hh:hi≤9223372036854775807) (w:World):
    Calls Tryd.prog 76 #[.int .i64 n,.int .i64 lo,.int .i64 hi] w fun e w'=>e= .returned (.bool (powB n lo hi))∧w=w':=by
 by_cases c1:lo≤n
 · by_cases c2:n≤hi
   · have e:powB n lo hi=pwB n:=by simp [powB,c1,c2]
     rw [e];have PW:=hid (fun w=>Power_ok n xo w);generalize pwB n=b at *;clear e;go_enter Tryd.func76,Tryd.ntmps76
     go_wp2_with (go_at_call 92;refine (PW.out _).mono ?_;rintro e w' ⟨rfl,rfl⟩)
     go_ret
     exact ⟨rfl,rfl⟩
   · have e:powB n lo hi=false:=by simp [powB,c2]
     rw [e];clear e;go_enter Tryd.func76,Tryd.ntmps76
     go_wp2
     go_ret
     exact ⟨rfl,rfl⟩
 · have e:powB n lo hi=false:=by simp [powB,c1]
   rw [e];clear e;go_enter Tryd.func76,Tryd.ntmps76
   go_wp2
   go_ret
   exact ⟨rfl,rfl⟩
def SmI (n:Int):Prop:= -67108864<n∧n<67108864
theorem sm4 {a b c d:Int} (ha:SmI a) (hb:SmI b) (hc:SmI c) (hd:SmI d):∀i,-67108864 < [a,b,c,d].getD i 0∧ [a,b,c,d].getD i 0<67108864
  | 0=>ha
  | 1=>hb
  | 2=>hc
  | 3=>hd
  | _+4=>by simp
theorem Between_ok (a b c d:Int) (ha:SmI a) (hb:SmI b) (hc:SmI c) (hd:SmI d) (h1:1≤d) (h2:0≤c) (h3:c≤d) (r:Int) (hr:a*d+(b-a)*c=r) (w1:IntKind.i64.wrap (a*d)=a*d) (w2:IntKind.i64.wrap ((b-a)*c)=(b-a)*c) (w3:IntKind.i64.wrap (a*d+(b-a)*c)=a*d+(b-a)*c) (w4:IntKind.i64.wrap (b-a)=b-a) (w:World):
    Calls Tryd.prog 85 #[.int .i64 a,.int .i64 b,.int .i64 c,.int .i64 d] w (AnsB w (.tuple #[.int .i64 r,.int .i64 0])):=by
 have SM:=hid (fun W hw=>small_ok [a,b,c,d] 4 xsi (some ⟨w.heap.size,0,none⟩) W hw (sm4 ha hb hc hd));have HR:=hid hr;clear ha hb hc hd hr;go_enter Tryd.func85,Tryd.ntmps85
 go_wp2_with fail
 refine (SM.out _ (row_alloc .i64 w [a,b,c,d] _)).mono ?_;rintro e w' ⟨rfl,rfl⟩;go_wp2
 go_ret2
 exact ⟨by rw [←HR.out];rfl,br.alloc (Nat.le_refl _) _⟩
theorem Cross_ok (a b c d:Int) (ha:SmI a) (hb:SmI b) (hc:SmI c) (hd:SmI d) (w:World):
    Calls Tryd.prog 86 #[.int .i64 a,.int .i64 b,.int .i64 c,.int .i64 d] w (AnsB w (.tuple #[.int .i64 (crossV a b c d),.int .i64 0])):=by
 have ba:a.natAbs<67108864:=by have:=ha.1;have:=ha.2;omega
 have bb:b.natAbs<67108864:=by have:=hb.1;have:=hb.2;omega
 have bc:c.natAbs<67108864:=by have:=hc.1;have:=hc.2;omega
 have bd:d.natAbs<67108864:=by have:=hd.1;have:=hd.2;omega
 obtain ⟨re,im,hm,hi⟩:=cross_bits (rep_of a xo) (rep_of b xo) (rep_of c xo) (rep_of d xo) ba bb bc bd;have ho:=order_zero hi;rw [show (2:Nat)^63=9223372036854775808 by decide] at hm;have hop:=fun t w=>run_complex_mul (P:=Tryd.prog) w t _ _ _ _ re im hm
 have hng:∀x:Nat,Op.unary .neg (.float .f64 x)=pure (.float .f64 (x ^^^ 9223372036854775808)):=fun _=>rfl
 have SM:=hid (fun W hw=>small_ok [a,b,c,d] 4 xsi (some ⟨w.heap.size,0,none⟩) W hw (sm4 ha hb hc hd));unfold crossV;generalize b*c-a*d=z at *;clear ha hb hc hd ba bb bc bd hm hi;have hgt:∀t,binOp .gtr t (.float .f64 im) (.float .f64 0)=pure (.bool (decide (0<z))):=fun t=>by
  rw [binOp_float_cmp_gtr,show FloatKind.f64.format.order im 0=some (compare z 0) from ho];congr 2
  rcases Int.lt_trichotomy z 0 with h|h|h
  · rw [show compare z 0= .lt by simp [compare,compareOfLessAndEq,h]];simp;omega
  · subst h;rfl
  · rw [show compare z 0= .gt by simp [compare,compareOfLessAndEq,show ¬z<0 by omega,show ¬z=0 by omega]];simp;omega
 have hlt:∀t,binOp .lss t (.float .f64 im) (.float .f64 0)=pure (.bool (decide (z<0))):=fun t=>by
  rw [binOp_float_cmp_lss,show FloatKind.f64.format.order im 0=some (compare z 0) from ho];congr 2
  rcases Int.lt_trichotomy z 0 with h|h|h
  · rw [show compare z 0= .lt by simp [compare,compareOfLessAndEq,h]];simp;omega
  · subst h;rfl
  · rw [show compare z 0= .gt by simp [compare,compareOfLessAndEq,show ¬z<0 by omega,show ¬z=0 by omega]];simp;omega
 clear ho;by_cases c1:0<z
 · rw [if_pos c1];go_enter Tryd.func86,Tryd.ntmps86
   go_wp2_with fail
   refine (SM.out _ (row_alloc .i64 w [a,b,c,d] _)).mono ?_;rintro e w' ⟨rfl,rfl⟩;go_wp2_with (first|(simp only [hop])|(simp only [hng])|(simp only [hgt])|(simp only [hlt]))
   go_ret2
   exact ⟨rfl,br.alloc (Nat.le_refl _) _⟩
 · rw [if_neg c1];by_cases c2:z<0
   · rw [if_pos c2];go_enter Tryd.func86,Tryd.ntmps86
     go_wp2_with fail
     refine (SM.out _ (row_alloc .i64 w [a,b,c,d] _)).mono ?_;rintro e w' ⟨rfl,rfl⟩;go_wp2_with (first|(simp only [hop])|(simp only [hng])|(simp only [hgt])|(simp only [hlt]))
     go_ret2
     exact ⟨rfl,br.alloc (Nat.le_refl _) _⟩
   · rw [if_neg c2];go_enter Tryd.func86,Tryd.ntmps86
     go_wp2_with fail
     refine (SM.out _ (row_alloc .i64 w [a,b,c,d] _)).mono ?_;rintro e w' ⟨rfl,rfl⟩;go_wp2_with (first|(simp only [hop])|(simp only [hng])|(simp only [hgt])|(simp only [hlt]))
     go_ret2
     exact ⟨rfl,br.alloc (Nat.le_refl _) _⟩
end
section
open Go.RowKit
section
variable {P:Program} {ops:Array Oper} {Q:Exit→Act→World→Prop}
theorem wpAny_invL (I:Array Bool→Act→World→Prop)
    (hac:∀(i:Nat) (o:Oper),ops[i]? =some o→∀e ∈ o.after,Region.binds .any e=true→e.on<i)
    (step:∀(L:Array Bool) (a:Act) (w:World) (i:Nat) (o:Oper),L.size=ops.size→ops[i]? =some o→L.getD i false=false→
      (∀e ∈ o.after,Region.binds .any e=true→L.getD e.on false=true)→ClosedL ops L→I L a w→wpOp P ops Q i (I (L.setIfInBounds i true)) a w)
    (done:∀(L:Array Bool) (a:Act) (w:World),L.size=ops.size→(∀i,i<ops.size→L.getD i false=true)→I L a w→Q .normal a w):
    ∀(f:Nat) (L:Array Bool) (a:Act) (w:World),L.size=ops.size→leftOf L ops.size≤f→ClosedL ops L→I L a w→wpAny P .any ops Q f L a w:=by
 have none_ready:∀(L:Array Bool),L.size=ops.size→Region.ready .any ops L=[]→∀i,i<ops.size→L.getD i false=true:=by
  intro L hs hr i;induction i using Nat.strongRecOn with
  | ind i ih=>
   intro hi;cases hc:L.getD i false with
   | true=>rfl
   | false=>
    have hm:i ∈ Region.ready .any ops L:=by
     refine mem_ready.2 ⟨?_,ops[i],Array.getElem?_eq_some_iff.2 ⟨hi,rfl⟩,fun e he hb=> ?_⟩
     · have h1:i<L.size:=xo;simp [h1] at hc ⊢;exact hc
     · have:=hac i ops[i] (Array.getElem?_eq_some_iff.2 ⟨hi,rfl⟩) e he hb;exact ih e.on this xo
    rw [hr] at hm;cases hm
 intro f;induction f with
 | zero=>
  intro L a w hs hl hcl hI;have hall:=leftOf_zero (L:=L) ops.size xo;refine ⟨?_,done L a w hs hall hI⟩;rw [List.eq_nil_iff_forall_not_mem];intro i hi;obtain ⟨h1,o,ho,_⟩:=mem_ready.1 hi;have hlt:=(Array.getElem?_eq_some_iff.1 ho).1;have h2:=hall i hlt;have h3:i<L.size:=xo;simp [h3] at h1 h2;rw [h1] at h2;cases h2
 | succ f ih=>
  intro L a w hs hl hcl hI;refine ⟨fun hr=>done L a w hs (none_ready L hs hr) hI,fun i hi=> ?_⟩;obtain ⟨h1,o,ho,hall⟩:=mem_ready.1 hi;have hlt:=(Array.getElem?_eq_some_iff.1 ho).1;have h3:i<L.size:=xo;have h4:L.getD i false=false:=by simp [h3] at h1 ⊢;exact h1
  refine wpOp_mono (fun a' w' hI'=>ih _ a' w' (by simpa using hs) ?_ (hcl.set h3 ho hall) hI') (step L a w i o hs ho h4 hall hcl hI);have:=leftOf_set h3 h4 ops.size hlt;omega
def regionL (l:List Oper) (n:Nat):Bool:=
  (dstsOf l).Nodup&&(dstsOf l).all (fun d=>decide (d<n))&&l.all (fun o=>o.guard.isNone) &&
  (List.range l.length).all fun i=>match l[i]? with|some o=>o.after.all fun e=> !Region.binds .any e||decide (e.on<i)|none=>true
def tailL (l:List Oper) (n:Nat):Bool:=
  (List.range l.length).all fun i=>decide (i<n)||(decide ((masksOf l []).getD i 0%2^i=2^i-1)&&match l[i]? with|some o=>o.after.all (fun e=> !Region.binds .any e||decide (e.on<i))|none=>true)
theorem wp_region_late {id:Nat} {l:List Oper} {t0:Array Value} {ds:List Deferred} {w0:World} {N:Nat} (n:Nat) (hm:P.follows .mixedOrders=true) (hn:t0.size=N) (hB:regionL (l.take n) N=true) (hT:tailL l n=true) (hle:n≤l.length)
    (J:World→Prop) (Ext:World→World→Prop) (G:Nat→Value→World→Prop) (hst:∀k x w w',Ext w w'→G k x w→G k x w') (hJ:J w0.drew)
    (hop:OpsOk P l.toArray Q (dstsOf (l.take n)) t0 N ds J Ext G 0 (l.take n))
    (hdone:∀(u:Nat→Value) (w:World),J w→(∀(k:Nat) (o:Oper),(l.take n)[k]? =some o→G k (valOf u o) w)→wpList P l.toArray Q (l.drop n) {tmps:=mixFrame (dstsOf (l.take n)) u t0,defers:=ds} w):
    (Code.region id l.toArray true).wp P Q {tmps:=t0,defers:=ds} w0:=by
 subst hn;simp only [regionL,Bool.and_eq_true,List.all_eq_true,decide_eq_true_eq] at hB;obtain ⟨⟨⟨hnd,hlt⟩,hgd⟩,hac⟩:=hB;simp only [tailL,List.all_eq_true,List.mem_range,Bool.or_eq_true,decide_eq_true_eq] at hT;have htk:∀ {k:Nat} {o:Oper},(l.take n)[k]? =some o↔k<n∧l[k]? =some o:=by
  intro k o;rw [List.getElem?_take];by_cases h:k<n
  · rw [if_pos h];exact ⟨fun h1=>⟨h,h1⟩,fun h1=>h1.2⟩
  · rw [if_neg h];exact ⟨fun h1=>(by cases h1),fun h1=>absurd h1.1 h⟩
 refine wp_region_any hm (wpAny_invL (ops:=l.toArray)
   (fun L a w=>((∀i,n≤i→L.getD i false=false)∧∃u:Nat→Value,a= {tmps:=mixFrame (dstsOf (l.take n)) u t0,defers:=ds}∧J w∧∀(k:Nat) (o:Oper),(l.take n)[k]? =some o→L.getD k false=true→G k (valOf u o) w) ∨
     (∃m,n≤m∧m≤l.length∧(∀i,i<m→L.getD i false=true)∧(∀i,m≤i→L.getD i false=false)∧wpList P l.toArray Q (l.drop m) a w))
   ?_ ?_ ?_ _ _ _ _ xsi (leftOf_le _ _) (fun j p hp hj=>by simp [Array.getD] at hj) (.inl ⟨fun i _=>by rw [List.size_toArray];simp [Array.getD],fun t=>t0.getD t undef,by rw [mixFrame_start],hJ,fun k o _ h=> ?_⟩))
 · intro i o ho e he hb;have hi:i<l.length:=(Array.getElem?_eq_some_iff.1 ho).1;rw [List.getElem?_toArray] at ho;by_cases hin:i<n
   · have h1:(l.take n)[i]? =some o:=htk.2 ⟨hin,ho⟩;have:=hac i (List.mem_range.2 (List.getElem?_eq_some_iff.1 h1).1);rw [h1] at this;have h2:=Array.all_eq_true_iff_forall_mem.1 this e he;rw [hb] at h2;simpa using h2
   · have h1:=hT i hi;rcases h1 with h1|h1
     · omega
     · rw [ho] at h1;simp only [Bool.and_eq_true] at h1;have h2:=Array.all_eq_true_iff_forall_mem.1 h1.2 e he;rw [hb] at h2;simpa using h2
 · rintro L a w i o hs ho hi hall hcl hI;rw [List.getElem?_toArray] at ho;have hil:i<l.length:=(List.getElem?_eq_some_iff.1 ho).1;have hilt:i<L.size:=by rw [hs];simpa using hil
   have ahead:n≤i→∀j,j<i→L.getD j false=true:=by
    intro hin j hj;have h1:=hT i hil;rcases h1 with h1|h1
    · omega
    · simp only [Bool.and_eq_true,decide_eq_true_eq] at h1;have hbit:((masksOf l []).getD i 0).testBit j=true:=by
       have h2:=congrArg (fun m=>Nat.testBit m j) h1.1;simp only [Nat.testBit_mod_two_pow,Nat.testBit_two_pow_sub_one,decide_eq_true hj,Bool.true_and] at h2;exact h2
      exact masks_sound hcl l [] 0 rfl (fun j=>by rw [Nat.zero_add]) (fun i hi=>by omega) i o ho hall j hbit
   have later:∀(m:Nat),n≤m→m=i→(∀j,m≤j→L.getD j false=false)→(∀j,j<m→L.getD j false=true)→wpList P l.toArray Q (l.drop m) a w→
       wpOp P l.toArray Q i (fun a' w'=>((∀k,n≤k→(L.setIfInBounds i true).getD k false=false)∧∃u:Nat→Value,a'= {tmps:=mixFrame (dstsOf (l.take n)) u t0,defers:=ds}∧J w'∧∀(k:Nat) (o:Oper),(l.take n)[k]? =some o→(L.setIfInBounds i true).getD k false=true→G k (valOf u o) w') ∨
         (∃m,n≤m∧m≤l.length∧(∀k,k<m→(L.setIfInBounds i true).getD k false=true)∧(∀k,m≤k→(L.setIfInBounds i true).getD k false=false)∧wpList P l.toArray Q (l.drop m) a' w')) a w:=by
    rintro m hnm rfl hno hyes hw;refine wpOp_mono (fun a' w' h=> .inr ⟨m+1,by omega,by omega,fun k hk=> ?_,fun k hk=> ?_,h⟩) (wpOp_of_list ho hw)
    · by_cases e:k=m
      · subst e;exact set_same hilt
      · rw [set_else e];exact hyes k xo
    · rw [set_else xo];exact hno k xo
   rcases hI with ⟨hno,u,rfl,hJw,hG⟩ | ⟨m,hnm,hml,hyes,hno,hw⟩
   · by_cases hin:i<n
     · have htki:(l.take n)[i]? =some o:=htk.2 ⟨hin,ho⟩;have hok:=hop.at htki;rw [Nat.zero_add] at hok;have hg:o.guard=none:=by
        have:=hgd o (List.mem_of_getElem? htki);cases hx:o.guard with
        | none=>rfl
        | some x=>rw [hx] at this;cases this
       unfold wpOp;simp only [List.getElem?_toArray,ho];rw [if_pos (by simp [Region.wanted,hg])];left;refine hok u _ w (fun t ht=>mixFrame_get ht) hJw (fun j p hj hp=> ?_) _ (fun v w' hv hJ' hG' hE=> .inl ⟨fun k hk=>by rw [set_else xo];exact hno k hk,?_⟩)
       · rw [List.getElem?_toArray] at hp;obtain ⟨e,he,hbe⟩:=Array.any_eq_true.1 hj;simp only [Bool.and_eq_true,beq_iff_eq] at hbe;have hl:=hall _ (Array.getElem_mem he) hbe.1;rw [hbe.2] at hl;have hjn:j<n:=by
          by_cases h:j<n
          · exact h
          · rw [hno j xo] at hl;cases hl
         exact hG j p (htk.2 ⟨hjn,hp⟩) hl
       · cases hd:o.dst with
         | none=>
          refine ⟨u,rfl,hJ',fun k p hp hk=> ?_⟩;by_cases e:k=i
          · subst e;obtain rfl:p=o:=Option.some.inj (hp.symm.trans htki);have:valOf u p=undef:=by simp [valOf,hd]
            rw [this,←hv hd];exact hG'
          · rw [set_else e] at hk;exact hst _ _ _ _ hE (hG k p hp hk)
         | some d=>
          have hdm:(dstsOf (l.take n)).contains d=true:=by
           simp only [List.contains_iff_mem];exact List.mem_filterMap.2 ⟨o,List.mem_of_getElem? htki,hd⟩
          refine ⟨fun t=>if t=d then v else u t,by simp only [Act.put,mixFrame_put hdm],hJ',fun k p hp hk=> ?_⟩;by_cases e:k=i
          · subst e;obtain rfl:p=o:=Option.some.inj (hp.symm.trans htki);simpa [valOf,hd] using hG'
          · rw [set_else e] at hk;have hne:=nodup_slot hnd htki hp (fun h=>e h.symm) hd;have:valOf (fun t=>if t=d then v else u t) p=valOf u p:=by
             unfold valOf;cases hpd:p.dst with
             | none=>rfl
             | some d'=>exact if_neg (fun h=>hne (by rw [hpd,h]))
            rw [this];exact hst _ _ _ _ hE (hG k p hp hk)
     · have hin':n=i:=by
         by_cases e:n=i
         · exact e
         · have:=ahead xo n xo;rw [hno n (Nat.le_refl _)] at this;cases this
       refine later n (Nat.le_refl _) hin' hno (fun j hj=>ahead xo j xo) (hdone u w hJw fun k p hp=>hG k p hp (ahead xo k ?_));have:=(htk.1 hp).1;omega
   · have him:m≤i:=by
       by_cases h:m≤i
       · exact h
       · have:=hyes i xo;rw [hi] at this;cases this
     have hmi:m=i:=by
      by_cases e:m=i
      · exact e
      · have:=ahead xo m xo;rw [hno m (Nat.le_refl _)] at this;cases this
     exact later m hnm hmi hno hyes hw
 · rintro L a w hs hall hI;rw [List.size_toArray] at hall;rcases hI with ⟨hno,u,rfl,hJw,hG⟩ | ⟨m,hnm,hml,hyes,hno,hw⟩
   · have hnl:n=l.length:=by
       by_cases e:n=l.length
       · exact e
       · have:=hall n xo;rw [hno n (Nat.le_refl _)] at this;cases this
     have hq:=hdone u w hJw fun k p hp=>hG k p hp (hall k (by have:=(htk.1 hp).1;omega))
     have hd:l.drop n=[]:=by rw [hnl];exact List.drop_length
     rw [hd] at hq;exact hq
   · have hml':m=l.length:=by
       by_cases e:m=l.length
       · exact e
       · have:=hall m xo;rw [hno m (Nat.le_refl _)] at this;cases this
     rw [hml',List.drop_length] at hw;exact hw
 · rw [List.size_toArray] at h;simp [Array.getD] at h
end
end
end Go.Proofs.YtmnlagmmbfjbeaaDoor

/- Merged: Bits, HeapPlain, Slots, OccP, Heap, BitFns, RowIx, Range. -/
import Derived.Test.YtbedhbpgnfffmaaGreatCobTellsP1
import Derived.Laws.Bits64b
import Derived.BigRegion
import Derived.Lib.SliceRun
import Derived.RangeFuncNested
import Derived.RangeFuncBound
import Derived.RangeFuncCalls
import Derived.RangeFuncLeaves
import Derived.Shelf.Abstract
import Derived.Shelf.RegionOpen
import Derived.OwnWalkIn
import Derived.TacticsInMore
import Derived.LoopNIn
import Derived.LoopIn
namespace Go.Proofs.YtbedhbpgnfffmaaGreat
set_option maxRecDepth 100000
set_option maxHeartbeats 40000000
set_option linter.unusedVariables false
set_option linter.unusedSimpArgs false
section
open Go.RowKit
def bitI (x:Int) (k:Nat):Bool:=x.toNat.testBit k
theorem bitI_nat (n k:Nat):bitI (n:Int) k=n.testBit k:=by rw [bitI,Int.toNat_natCast]
theorem bitI_div {x:Int} (h0:0≤x) (k:Nat):x/2^k%2=if bitI x k then 1 else 0:=by
 obtain ⟨n,rfl⟩:=Int.eq_ofNat_of_zero_le h0;rw [bitI_nat,Nat.testBit_eq_decide_div_mod_eq];have e:((n:Int)/2^k)=((n/2^k:Nat):Int):=by push_cast;rfl
 rw [e];generalize n/2^k=m;by_cases h:m%2=1
 · simp [h];omega
 · simp [h];omega
theorem bitI_and {x:Int} (h0:0≤x) (h1:x<18446744073709551616) (k:Nat):bits .and .u64 (x/2^k) 1=if bitI x k then 1 else 0:=by
 obtain ⟨n,rfl⟩:=Int.eq_ofNat_of_zero_le h0;have e:((n:Int)/2^k)=((n/2^k:Nat):Int):=by push_cast;rfl
 have hd:=bitI_div (x:=n) xo k;rw [e] at hd ⊢;have hl:n/2^k≤n:=Nat.div_le_self _ _;have:=bits_and_u64_nat (n/2^k) 1 xo xo;rw [show ((1:Nat):Int)=1 from rfl] at this;rw [this,Nat.and_one_is_mod,←hd];omega
def bitW (ws:List Int) (i:Nat):Bool:=bitI (ws.getD (i/64) 0) (i%64)
def U64s (ws:List Int):Prop:=∀x ∈ ws,0≤x∧x<18446744073709551616
theorem U64s.get {ws:List Int} (h:U64s ws) (i:Nat):0≤ws.getD i 0∧ws.getD i 0<18446744073709551616:=by
 rw [List.getD_eq_getElem?_getD];cases hx:ws[i]? with
 | none=>simp
 | some x=>exact h x (List.mem_of_getElem? hx)
theorem bitI_zero (k:Nat):bitI 0 k=false:=by simp [bitI]
theorem bitI_high {x:Int} (h1:x<18446744073709551616) {k:Nat} (hk:64≤k):bitI x k=false:=by
 rw [bitI];apply Nat.testBit_lt_two_pow;calc x.toNat<2^64:=xo
   _≤2^k:=Nat.pow_le_pow_right xo hk
theorem int_eq_of_bits {x y:Int} (hx:0≤x) (hy:0≤y) (h:∀k,bitI x k=bitI y k):x=y:=by
 have:x.toNat=y.toNat:=Nat.eq_of_testBit_eq fun k=>h k
 omega
theorem shr_zero {x:Int} (h0:0≤x) (k:Nat):x/2^k=0↔∀i,k≤i→bitI x i=false:=by
 obtain ⟨n,rfl⟩:=Int.eq_ofNat_of_zero_le h0;have e:((n:Int)/2^k)=((n/2^k:Nat):Int):=by push_cast;rfl
 rw [e];constructor
 · intro h i hi;have h2:n/2^k=0:=xo;rw [Nat.div_eq_zero_iff] at h2;rcases h2 with h2|h2
   · have:=Nat.two_pow_pos k;omega
   · rw [bitI_nat];exact Nat.testBit_lt_two_pow (Nat.lt_of_lt_of_le h2 (Nat.pow_le_pow_right xo hi))
 · intro h;have:n/2^k=0:=by
    apply Nat.eq_of_testBit_eq;intro i;rw [←Nat.shiftRight_eq_div_pow,Nat.testBit_shiftRight,Nat.zero_testBit,←bitI_nat];exact h _ xo
   omega
def cutLo (x:Int) (k:Nat):Int:=x/2^k*2^k
def cutHi (x:Int) (k:Nat):Int:=x*2^k%18446744073709551616/2^k
theorem cutLo_bd {x:Int} (h0:0≤x) (k:Nat):0≤cutLo x k∧cutLo x k≤x:=by
 have hp:(0:Int)<2^k:=Int.pow_pos xo;refine ⟨Int.mul_nonneg (Int.ediv_nonneg h0 xo) xo,Int.ediv_mul_le _ xo⟩
theorem cutLo_bit {x:Int} (h0:0≤x) (k i:Nat):bitI (cutLo x k) i=(bitI x i&&decide (k≤i)):=by
 obtain ⟨n,rfl⟩:=Int.eq_ofNat_of_zero_le h0;have e:cutLo n k=((n/2^k*2^k:Nat):Int):=by rw [cutLo];push_cast;rfl
 rw [e,bitI_nat,bitI_nat,Nat.testBit_mul_two_pow];by_cases h:k≤i
 · simp [h,←Nat.shiftRight_eq_div_pow,Nat.testBit_shiftRight,show k+(i-k)=i by omega]
 · simp [h]
theorem cutHi_eq {n k:Nat} (hk:k≤64):cutHi n k=((n%2^(64-k):Nat):Int):=by
 have e:cutHi n k=((n*2^k%18446744073709551616/2^k:Nat):Int):=by
  unfold cutHi;rw [Int.natCast_ediv,Int.natCast_emod,Int.natCast_mul,Int.natCast_pow];rfl
 rw [e];congr 1
 have h:(18446744073709551616:Nat)=2^(64-k)*2^k:=by rw [←Nat.pow_add,show 64-k+k=64 by omega]
 rw [h,Nat.mul_mod_mul_right,Nat.mul_div_cancel _ (Nat.two_pow_pos k)]
theorem cutHi_bit {x:Int} (h0:0≤x) {k:Nat} (hk:k≤64) (i:Nat):bitI (cutHi x k) i=(bitI x i&&decide (i<64-k)):=by
 obtain ⟨n,rfl⟩:=Int.eq_ofNat_of_zero_le h0;rw [cutHi_eq hk,bitI_nat,bitI_nat,Nat.testBit_mod_two_pow];exact Bool.and_comm _ _
theorem cutHi_bd {x:Int} (h0:0≤x) (h1:x<18446744073709551616) {k:Nat} (hk:k≤64):0≤cutHi x k∧cutHi x k<18446744073709551616:=by
 obtain ⟨n,rfl⟩:=Int.eq_ofNat_of_zero_le h0;rw [cutHi_eq hk];have:=Nat.mod_le n (2^(64-k));omega
def popI (x:Int):Nat:=(List.range 64).countP (bitI x)
theorem popI_le (x:Int):popI x≤64:=by
 have:=List.countP_le_length (p:=bitI x) (l:=List.range 64);rw [List.length_range] at this;exact this
def popN (n x:Nat):Nat:=(List.range (8*n)).countP x.testBit
def pop8 (b:Nat):Nat:=(List.range 8).countP b.testBit
theorem popN_succ (n x:Nat):popN (n+1) x=pop8 (x%256)+popN n (x/256):=by
 unfold popN pop8;rw [show 8*(n+1)=8+8*n by omega,List.range_add,List.countP_append,List.countP_map];congr 1
 · apply List.countP_congr;intro i hi;rw [List.mem_range] at hi;rw [show 256=2^8 from rfl,Nat.testBit_mod_two_pow];simp [hi]
 · congr 1
   funext i
   simp only [Function.comp];rw [show 256=2^8 from rfl,←Nat.shiftRight_eq_div_pow,Nat.testBit_shiftRight]
def rep (c:Nat):Nat→Nat
  | 0=>0
  | n+1=>rep c n*256+c
theorem and_bytes (a b c d:Nat) (hb:b<256) (hd:d<256):(a*256+b) &&& (c*256+d)=(a &&& c)*256+(b &&& d):=by
 apply Nat.eq_of_testBit_eq;intro i;have hbd:b &&& d<2^8:=Nat.and_lt_two_pow _ hd;rw [Nat.testBit_and,Nat.mul_comm a,Nat.mul_comm c,Nat.mul_comm (a &&& c),show 256=2^8 from rfl,Nat.testBit_two_pow_mul_add _ hb,Nat.testBit_two_pow_mul_add _ hd,Nat.testBit_two_pow_mul_add _ hbd];split<;>rw [Nat.testBit_and]
def s1 (b:Nat):Nat:=(b/2 &&& 85)+(b &&& 85)
def s2 (b:Nat):Nat:=(b/4 &&& 51)+(b &&& 51)
def s3 (b:Nat):Nat:=(b/16+b) &&& 15
theorem byte1:∀b:Fin 256,(∀c:Fin 2,((c.val*128+b.val/2) &&& 85)=(b.val/2 &&& 85))∧s1 b.val<256:=by decide +kernel
theorem byte2:∀b:Fin 256,(∀c:Fin 4,((c.val*64+b.val/4) &&& 51)=(b.val/4 &&& 51))∧s2 (s1 b.val)<256∧s2 (s1 b.val)/16≤4∧s2 (s1 b.val)%16≤4∧s2 b.val<256:=by decide +kernel
theorem byte3:∀b:Fin 256,s3 (s2 (s1 b.val))=pop8 b.val∧pop8 b.val≤8:=by decide +kernel
theorem nib3:∀p q c:Fin 5,((c.val*16+(p.val*16+q.val)/16+(p.val*16+q.val)) &&& 15)=s3 (p.val*16+q.val):=by decide +kernel
def S1 (n x:Nat):Nat:=(x/2 &&& rep 85 n)+(x &&& rep 85 n)
def S2 (n x:Nat):Nat:=(x/4 &&& rep 51 n)+(x &&& rep 51 n)
def S3 (n x:Nat):Nat:=(x/16+x) &&& rep 15 n
def mapB (f:Nat→Nat):Nat→Nat→Nat
  | 0,_=>0
  | n+1,x=>mapB f n (x/256)*256+f (x%256)
theorem S1_eq:∀n x,x<256^n→S1 n x=mapB s1 n x:=by
 intro n;induction n with
 | zero=>intro x h;simp [S1,rep,mapB]
 | succ n ih=>
  intro x h;have hx:x=x/256*256+x%256:=xo;have hb:x%256<256:=Nat.mod_lt _ xo;have hdiv:x/2=x/256/2*256+(x/256%2*128+x%256/2):=xo;have b1:=(byte1 ⟨x%256,hb⟩).1 ⟨x/256%2,by omega⟩;have ih2:=ih (x/256) (by rw [Nat.pow_succ] at h;omega);unfold S1 at ih2 ⊢;rw [mapB,←ih2,s1];have e1:x/2 &&& rep 85 (n+1)=(x/256/2 &&& rep 85 n)*256+(x%256/2 &&& 85):=by
   rw [hdiv,rep,and_bytes _ _ _ _ xo xo];rw [show ((x/256%2*128+x%256/2) &&& 85)=(x%256/2 &&& 85) from b1]
  have e2:x &&& rep 85 (n+1)=(x/256 &&& rep 85 n)*256+(x%256 &&& 85):=by
   conv=>lhs;rw [hx,rep]
   rw [and_bytes _ _ _ _ hb xo]
  rw [e1,e2];omega
theorem S2_eq:∀n x,x<256^n→S2 n x=mapB s2 n x:=by
 intro n;induction n with
 | zero=>intro x h;simp [S2,rep,mapB]
 | succ n ih=>
  intro x h;have hx:x=x/256*256+x%256:=xo;have hb:x%256<256:=Nat.mod_lt _ xo;have hdiv:x/4=x/256/4*256+(x/256%4*64+x%256/4):=xo;have b1:=(byte2 ⟨x%256,hb⟩).1 ⟨x/256%4,by omega⟩;have ih2:=ih (x/256) (by rw [Nat.pow_succ] at h;omega);unfold S2 at ih2 ⊢;rw [mapB,←ih2,s2];have e1:x/4 &&& rep 51 (n+1)=(x/256/4 &&& rep 51 n)*256+(x%256/4 &&& 51):=by
   rw [hdiv,rep,and_bytes _ _ _ _ xo xo];rw [show ((x/256%4*64+x%256/4) &&& 51)=(x%256/4 &&& 51) from b1]
  have e2:x &&& rep 51 (n+1)=(x/256 &&& rep 51 n)*256+(x%256 &&& 51):=by
   conv=>lhs;rw [hx,rep]
   rw [and_bytes _ _ _ _ hb xo]
  rw [e1,e2];omega
def smallB:Nat→Nat→Prop
  | 0,x=>x=0
  | n+1,x=>x%256/16≤4∧x%16≤4∧smallB n (x/256)
theorem smallB_low {n x:Nat} (h:smallB n x):x%16≤4:=by
 cases n with
 | zero=>rw [smallB] at h;omega
 | succ n=>exact h.2.1
theorem S3_eq:∀n x,smallB n x→S3 n x=mapB s3 n x:=by
 intro n;induction n with
 | zero=>intro x h;simp [S3,rep,mapB]
 | succ n ih=>
  intro x h;obtain ⟨h1,h2,h3⟩:=h;have h4:=smallB_low h3;have ih2:=ih (x/256) h3;unfold S3 at ih2 ⊢;rw [mapB,←ih2];have hb:=nib3 ⟨x%256/16,by omega⟩ ⟨x%16,by omega⟩ ⟨x/256%16,by omega⟩;have e0:x%256/16*16+x%16=x%256:=xo;simp only [e0] at hb;have e1:x/16+x=(x/256/16+x/256)*256+(x/256%16*16+x%256/16+x%256):=xo;rw [e1,rep,and_bytes _ _ _ _ xo xo,hb]
theorem mapB_lt {f:Nat→Nat} (hf:∀b,b<256→f b<256):∀n x,mapB f n x<256^n:=by
 intro n;induction n with
 | zero=>intro x;simp [mapB]
 | succ n ih=>
  intro x;have:=ih (x/256);have:=hf (x%256) (Nat.mod_lt _ xo);rw [mapB,Nat.pow_succ];omega
theorem mapB_comp {f g:Nat→Nat} (hf:∀b,b<256→f b<256):∀n x,mapB g n (mapB f n x)=mapB (fun b=>g (f b)) n x:=by
 intro n;induction n with
 | zero=>intro x;rfl
 | succ n ih=>
  intro x;have:=hf (x%256) (Nat.mod_lt _ xo);rw [mapB,mapB,mapB,←ih];rw [show (mapB f n (x/256)*256+f (x%256))/256=mapB f n (x/256) by omega,show (mapB f n (x/256)*256+f (x%256))%256=f (x%256) by omega]
theorem mapB_congr {f g:Nat→Nat} (h:∀b,b<256→f b=g b):∀n x,mapB f n x=mapB g n x:=by
 intro n;induction n with
 | zero=>intro x;rfl
 | succ n ih=>intro x;rw [mapB,mapB,ih,h _ (Nat.mod_lt _ xo)]
theorem mapB_small:∀n x,smallB n (mapB (fun b=>s2 (s1 b)) n x):=by
 intro n;induction n with
 | zero=>intro x;rfl
 | succ n ih=>
  intro x;obtain ⟨-,h1,h2,h3,-⟩:=byte2 ⟨x%256,Nat.mod_lt _ xo⟩;simp only at h1 h2 h3;rw [mapB,smallB];refine ⟨by omega,by omega,?_⟩;rw [show (mapB (fun b=>s2 (s1 b)) n (x/256)*256+s2 (s1 (x%256)))/256=mapB (fun b=>s2 (s1 b)) n (x/256) by omega];exact ih _
theorem S_all (n x:Nat) (h:x<256^n):S3 n (S2 n (S1 n x))=mapB pop8 n x:=by
 have l1:∀b,b<256→s1 b<256:=fun b hb=>(byte1 ⟨b,hb⟩).2
 have l2:∀b,b<256→s2 b<256:=fun b hb=>(byte2 ⟨b,hb⟩).2.2.2.2
 have l3:∀b,b<256→s2 (s1 b)<256:=fun b hb=>(byte2 ⟨b,hb⟩).2.1
 rw [S1_eq n x h,S2_eq n _ (mapB_lt l1 n x),mapB_comp l1,S3_eq n _ (mapB_small n x),mapB_comp l3];exact mapB_congr (fun b hb=>(byte3 ⟨b,hb⟩).1) n x
theorem pop8_le (b:Nat) (h:b<256):pop8 b≤8:=(byte3 ⟨b,h⟩).2
theorem popN_zero (x:Nat):popN 0 x=0:=rfl
theorem popI_eq {x:Int} (h0:0≤x):popI x=popN 8 x.toNat:=by
 unfold popI popN;rfl
theorem div_of {a b:Nat} (q:Nat) (h:a<b):(a+b*q)/b=q:=by rw [Nat.add_mul_div_left _ _ xo,Nat.div_eq_of_lt h,Nat.zero_add]
theorem mod_of {a b:Nat} (q:Nat) (h:a<b):(a+b*q)%b=a:=by rw [Nat.add_mul_mod_self_left,Nat.mod_eq_of_lt h]
theorem fold_bytes (x:Nat):∃z1 z2 z3,mapB pop8 8 x+mapB pop8 8 x/256=z1∧z1+z1/65536=z2∧z2+z2/4294967296=z3∧z3%128=popN 8 x∧mapB pop8 8 x<9223372036854775808∧z1<9223372036854775808∧z2<9223372036854775808∧z3<9223372036854775808:=by
 refine ⟨_,_,_,rfl,rfl,rfl,?_⟩;have hb:=fun y:Nat=>pop8_le (y%256) (Nat.mod_lt _ xo)
 simp only [popN_succ,popN_zero,mapB];generalize x/256=x1;generalize x1/256=x2;generalize x2/256=x3;generalize x3/256=x4;generalize x4/256=x5;generalize x5/256=x6;generalize x6/256=x7;have h0:=hb x;have h1:=hb x1;have h2:=hb x2;have h3:=hb x3;have h4:=hb x4;have h5:=hb x5;have h6:=hb x6;have h7:=hb x7;generalize pop8 (x%256)=p0 at *;generalize pop8 (x1%256)=p1 at *;generalize pop8 (x2%256)=p2 at *;generalize pop8 (x3%256)=p3 at *;generalize pop8 (x4%256)=p4 at *;generalize pop8 (x5%256)=p5 at *;generalize pop8 (x6%256)=p6 at *;generalize pop8 (x7%256)=p7 at *;clear hb;obtain ⟨z,hz⟩:∃z,((((((((0*256+p7)*256+p6)*256+p5)*256+p4)*256+p3)*256+p2)*256+p1)*256+p0)=z:=⟨_,rfl⟩
 rw [hz];have e0:z=p0+256*(p1+256*p2+65536*p3+16777216*p4+4294967296*p5+1099511627776*p6+281474976710656*p7):=xo;have e1:z/256=p1+256*p2+65536*p3+16777216*p4+4294967296*p5+1099511627776*p6+281474976710656*p7:=by rw [e0];exact div_of _ xo
 rw [e1];obtain ⟨z1,hz1⟩:∃z1,z+(p1+256*p2+65536*p3+16777216*p4+4294967296*p5+1099511627776*p6+281474976710656*p7)=z1:=⟨_,rfl⟩
 rw [hz1];have e2:z1=((p0+p1)+256*(p1+p2))+65536*((p2+p3)+256*(p3+p4)+65536*(p4+p5)+16777216*(p5+p6)+4294967296*(p6+p7)+1099511627776*p7):=xo;have e3:z1/65536=(p2+p3)+256*(p3+p4)+65536*(p4+p5)+16777216*(p5+p6)+4294967296*(p6+p7)+1099511627776*p7:=by rw [e2];exact div_of _ xo
 rw [e3];obtain ⟨z2,hz2⟩:∃z2,z1+((p2+p3)+256*(p3+p4)+65536*(p4+p5)+16777216*(p5+p6)+4294967296*(p6+p7)+1099511627776*p7)=z2:=⟨_,rfl⟩
 rw [hz2];have e4:z2=((p0+p1+p2+p3)+256*(p1+p2+p3+p4)+65536*(p2+p3+p4+p5)+16777216*(p3+p4+p5+p6))+4294967296*((p4+p5+p6+p7)+256*(p5+p6+p7)+65536*(p6+p7)+16777216*p7):=xo;have e5:z2/4294967296=(p4+p5+p6+p7)+256*(p5+p6+p7)+65536*(p6+p7)+16777216*p7:=by rw [e4];exact div_of _ xo
 rw [e5];clear e1 e3 e5;have l0:z<9223372036854775808:=by rw [e0];clear hz hz1 hz2 e0 e2 e4;omega
 have l1:z1<9223372036854775808:=by rw [e2];clear hz hz1 hz2 e0 e2 e4;omega
 have l2:z2<9223372036854775808:=by rw [e4];clear hz hz1 hz2 e0 e2 e4;omega
 refine ⟨?_,l0,l1,l2,by rw [e4];clear hz hz1 hz2 e0 e2 e4 l0 l1 l2;omega⟩;clear hz hz1 hz2 e0 e2 l0 l1 l2;have e6:z2+((p4+p5+p6+p7)+256*(p5+p6+p7)+65536*(p6+p7)+16777216*p7)=(p0+p1+p2+p3+p4+p5+p6+p7)+128*(2*((p1+p2+p3+p4+p5+p6+p7)+256*(p2+p3+p4+p5+p6+p7)+65536*(p3+p4+p5+p6+p7)+16777216*((p4+p5+p6+p7)+256*(p5+p6+p7)+65536*(p6+p7)+16777216*p7))):=by rw [e4];clear e4;omega
 rw [e6,mod_of _ xo];clear e4 e6;omega
theorem smallB_lt:∀n x,smallB n x→3*x<256^n:=by
 intro n;induction n with
 | zero=>intro x h;rw [smallB] at h;subst h;decide
 | succ n ih=>
  intro x ⟨h1,h2,h3⟩;have:=ih _ h3;rw [Nat.pow_succ];omega
theorem bits_and_i64_nat (a b:Nat) (ha:a<9223372036854775808) (hb:b<9223372036854775808):
    bits .and .i64 (a:Int) (b:Int)=((a &&& b:Nat):Int):=by
 have hx:a &&& b<2^63:=Nat.and_lt_two_pow _ xo;have h1:(BitVec.ofInt 64 (a:Int)).toNat=a:=by
  rw [BitVec.ofInt_natCast,BitVec.toNat_ofNat];exact Nat.mod_eq_of_lt xo
 have h2:(BitVec.ofInt 64 (b:Int)).toNat=b:=by
  rw [BitVec.ofInt_natCast,BitVec.toNat_ofNat];exact Nat.mod_eq_of_lt xo
 show IntKind.i64.wrap ((BitVec.ofInt 64 (a:Int) &&& BitVec.ofInt 64 (b:Int)).toNat:Int)=_;rw [BitVec.toNat_and,h1,h2];exact IntWalk.i64_in _ xo
theorem ones1 {n:Nat} (hn:n<18446744073709551616):IntKind.u64.wrap (bits .and .u64 ((n:Int)/2) 6148914691236517205+bits .and .u64 (n:Int) 6148914691236517205)=(S1 8 n:Nat):=by
 have l1:∀b,b<256→s1 b<256:=fun b hb=>(byte1 ⟨b,hb⟩).2
 have hl:=mapB_lt l1 8 n;rw [←S1_eq 8 n xo,S1,show rep 85 8=6148914691236517205 from rfl] at hl;have e1:=bits_and_u64_nat (n/2) 6148914691236517205 xo xo;have e2:=bits_and_u64_nat n 6148914691236517205 xo xo;rw [S1,show rep 85 8=6148914691236517205 from rfl];rw [show ((n/2:Nat):Int)=(n:Int)/2 by omega] at e1;rw [show ((6148914691236517205:Nat):Int)=6148914691236517205 from rfl] at e1 e2;rw [e1,e2,IntKind.wrap_u64];omega
theorem ones2 {n:Nat} (hn:n<18446744073709551616):IntKind.u64.wrap (bits .and .u64 ((n:Int)/4) 3689348814741910323+bits .and .u64 (n:Int) 3689348814741910323)=(S2 8 n:Nat):=by
 have l2:∀b,b<256→s2 b<256:=fun b hb=>(byte2 ⟨b,hb⟩).2.2.2.2
 have hl:=mapB_lt l2 8 n;rw [←S2_eq 8 n xo,S2,show rep 51 8=3689348814741910323 from rfl] at hl;have e1:=bits_and_u64_nat (n/4) 3689348814741910323 xo xo;have e2:=bits_and_u64_nat n 3689348814741910323 xo xo;rw [S2,show rep 51 8=3689348814741910323 from rfl];rw [show ((n/4:Nat):Int)=(n:Int)/4 by omega] at e1;rw [show ((3689348814741910323:Nat):Int)=3689348814741910323 from rfl] at e1 e2;rw [e1,e2,IntKind.wrap_u64];omega
theorem ones3 {n:Nat} (hn:3*n<18446744073709551616):bits .and .u64 (IntKind.u64.wrap ((n:Int)/16+(n:Int))) 1085102592571150095=(S3 8 n:Nat):=by
 have e1:=bits_and_u64_nat (n/16+n) 1085102592571150095 xo xo;rw [S3,show rep 15 8=1085102592571150095 from rfl,←e1,IntKind.wrap_u64];congr 1
 omega
def pth (n:Nat):List Nat:=if h:n≤1 then [1] else pth (n/2)++[n]
termination_by n
decreasing_by omega
theorem pth_one {n:Nat} (h:n≤1):pth n=[1]:=by rw [pth];simp [h]
theorem pth_two {n:Nat} (h:2≤n):pth n=pth (n/2)++[n]:=by rw [pth];simp [show ¬n≤1 by omega]
theorem log2_two {n:Nat} (h:2≤n):n.log2=(n/2).log2+1:=by rw [Nat.log2_def];simp [h]
theorem log2_one {n:Nat} (h:n≤1):n.log2=0:=by rw [Nat.log2_def];simp [show ¬2≤n by omega]
theorem log2_lt_of {n k:Nat} (h1:1≤n) (h:n<2^k):n.log2<k:=(Nat.log2_lt xo).2 h
theorem pth_length (n:Nat):(pth n).length=n.log2+1:=by
 induction n using Nat.strongRecOn with
 | ind n ih=>
  by_cases h:n≤1
  · rw [pth_one h,log2_one h];rfl
  · rw [pth_two xo,log2_two xo,List.length_append,ih (n/2) xo];rfl
theorem pth_get (n:Nat) (h1:1≤n):∀i,i≤n.log2→(pth n).getD (n.log2-i) 0=n/2^i:=by
 induction n using Nat.strongRecOn with
 | ind n ih=>
  intro i hi;by_cases h:n≤1
  · have h0:=log2_one h;obtain rfl:i=0:=xo;obtain rfl:n=1:=xo;rw [pth_one h,h0];rfl
  · rw [pth_two xo];have hl:=log2_two (n:=n) xo;have hp:=pth_length (n/2);cases i with
    | zero=>
     rw [List.getD_eq_getElem?_getD,List.getElem?_append_right xo];simp [hp,hl]
    | succ i=>
     rw [List.getD_eq_getElem?_getD,List.getElem?_append_left xo,←List.getD_eq_getElem?_getD];rw [show n.log2-(i+1)=(n/2).log2-i by omega,ih (n/2) xo xo i xo,Nat.div_div_eq_div_mul,Nat.pow_succ,Nat.mul_comm]
def ups (n:Nat):List Nat:=(pth n).reverse
theorem ups_length (n:Nat):(ups n).length=n.log2+1:=by simp [ups,pth_length]
theorem ups_get {n k:Nat} (h1:1≤n) (h:k≤n.log2):(ups n).getD k 0=n/2^k:=by
 rw [←pth_get n h1 k h,ups,List.getD_eq_getElem?_getD,List.getElem?_reverse (by rw [pth_length];omega),pth_length,←List.getD_eq_getElem?_getD];congr 1
theorem half_pow (n k:Nat):n/2^k/2=n/2^(k+1):=by rw [Nat.div_div_eq_div_mul,Nat.pow_succ]
theorem half_pos {n k:Nat} (h1:1≤n):k≤n.log2↔1≤n/2^k:=by
 rw [Nat.le_log2 xo,Nat.le_div_iff_mul_le (Nat.two_pow_pos k),Nat.one_mul]
def ndE (l n:Int):Int:=if (1≤l∧l≤14)∧1≤n∧n<2^l.toNat then 0 else 2
def lfE (l k:Int):Int:=if (1≤l∧l≤14)∧0≤k∧k<2^(l.toNat-1) then 0 else 2
def lfR (l k:Int):Int:=if lfE l k=0 then 2^(l.toNat-1)+k else 0
def dpR (l n:Int):Int:=if ndE l n=0 then (n.toNat.log2:Nat) else 0
def fst (l n:Int):Int:=n*2^(l.toNat-1-n.toNat.log2)-2^(l.toNat-1)
def cnt (l n:Int):Int:=2^(l.toNat-1-n.toNat.log2)
theorem ndE_zero {l n:Int} (h:ndE l n=0):1≤l∧l≤14∧1≤n∧n<2^l.toNat:=by
 unfold ndE at h;split at h
 · rename_i k;exact ⟨k.1.1,k.1.2,k.2⟩
 · omega
theorem ndE_ok {l n:Int} (h1:1≤l) (h2:l≤14) (h3:1≤n) (h4:n<2^l.toNat):ndE l n=0:=by simp [ndE,h1,h2,h3,h4]
theorem ndE_cases (l n:Int):ndE l n=0∨ndE l n=2:=by unfold ndE;split<;>simp
theorem ndE_no {l n:Int} (h:¬ndE l n=0):ndE l n=2:=(ndE_cases l n).resolve_left h
def pwB (n:Int):Bool:=decide (0<n)&&(n.toNat &&& (n.toNat-1))==0
theorem pwB_iff {n:Nat} (h:0<n):pwB (n:Int)=true↔2^n.log2=n:=by
 unfold pwB;rw [Int.toNat_natCast,Bool.and_eq_true,decide_eq_true_eq,beq_iff_eq,Nat.and_sub_one_eq_zero_iff_isPowerOfTwo xo];constructor
 · rintro ⟨-,k,rfl⟩;rw [Nat.log2_two_pow]
 · intro e;exact ⟨by omega,n.log2,e.symm⟩
theorem pwB_pow {n:Nat} (h:pwB (n:Int)=true):∃k,n=2^k:=by
 have h0:0<n:=by
  unfold pwB at h;rw [Bool.and_eq_true,decide_eq_true_eq] at h;omega
 exact ⟨n.log2,((pwB_iff h0).1 h).symm⟩
theorem pwB_neg {n:Int} (h:n≤0):pwB n=false:=by simp [pwB];omega
def fitB (seg many:Int):Bool:=decide (4≤seg)&&decide (seg≤64)&&pwB seg&&decide (seg≤many)&&decide (many≤65536)&&decide (many%seg=0)&&pwB (many/seg)
structure SlC where
 seg:Int
 ws:List Int
 ks:List Int
 vs:List Int
 cs:List Int
 laid:Int
structure SlA where
 wa:Option Addr
 ka:Option Addr
 va:Option Addr
 ca:Option Addr
 wc:Nat
 kc:Nat
 vc:Nat
 cc:Nat
abbrev slV (c:SlC) (a:SlA):Value:= .agg #[.int .i64 c.seg,.slice a.wa c.ws.length a.wc,.slice a.ka c.ks.length a.kc,.slice a.va c.vs.length a.vc,.slice a.ca c.cs.length a.cc,.int .u64 c.laid]
structure SlIn (W:World) (c:SlC) (a:SlA):Prop where
 w:IsRow .u64 W a.wa c.ws
 k:IsRow .i64 W a.ka c.ks
 v:IsRow .i64 W a.va c.vs
 n:IsRow .i64 W a.ca c.cs
 u:U64s c.ws
theorem SlIn.below {w w':World} {c:SlC} {a:SlA} (h:SlIn w c a) (hb:Below w.heap.size w w'):SlIn w' c a:=⟨h.w.below hb,h.k.below hb,h.v.below hb,h.n.below hb,h.u⟩
def plsW (ws:List Int) (a b:Nat):List Nat:=(List.range' a (b-a)).filter (bitW ws)
def cntW (ws:List Int) (a b:Nat):Nat:=(List.range' a (b-a)).countP (bitW ws)
theorem plsW_length (ws:List Int) (a b:Nat):(plsW ws a b).length=cntW ws a b:=(List.countP_eq_length_filter ..).symm
theorem cntW_le (ws:List Int) (a b:Nat):cntW ws a b≤b-a:=by
 have:=List.countP_le_length (p:=bitW ws) (l:=List.range' a (b-a));rwa [List.length_range'] at this
theorem plsW_mem {ws:List Int} {a b i:Nat} (h:i ∈ plsW ws a b):a≤i∧i<b:=by
 rw [plsW,List.mem_filter,List.mem_range'_1] at h;omega
def wMayB (ws:List Int) (n:Nat):Bool:=decide (ws.length=(n+63)/64)&&(List.range' n (64*ws.length-n)).all fun i=> !bitW ws i
def clrB (c:SlC):Bool:=(List.range c.ks.length).all fun i=>bitW c.ws i||(c.ks.getD i 0==0&&c.vs.getD i 0==0)
def cntB (c:SlC):Bool:=(List.range c.cs.length).all fun k=>c.cs.getD k 0==(cntW c.ws (k*c.seg.toNat) ((k+1)*c.seg.toNat):Int)
def slHead (c:SlC):Bool:=fitB c.seg c.ks.length&&decide (c.vs.length=c.ks.length)&&wMayB c.ws c.ks.length&&decide ((c.cs.length:Int)=c.ks.length/c.seg)
def slMay (c:SlC):Bool:=slHead c&&clrB c&&cntB c
def slE (c:SlC):Int:=if slMay c=true then 0 else 8
theorem fitB_facts {seg many:Int} (h:fitB seg many=true):4≤seg∧seg≤64∧pwB seg=true∧seg≤many∧many≤65536∧many%seg=0∧pwB (many/seg)=true:=by
 simp only [fitB,Bool.and_eq_true,decide_eq_true_eq] at h;obtain ⟨⟨⟨⟨⟨⟨h1,h2⟩,h3⟩,h4⟩,h5⟩,h6⟩,h7⟩:=h;exact ⟨h1,h2,h3,h4,h5,h6,h7⟩
theorem slHead_facts {c:SlC} (h:slHead c=true):∃S M:Nat,c.seg=S∧4≤S∧S≤64∧c.ks.length=S*M∧c.vs.length=S*M∧c.cs.length=M∧1≤M∧S*M≤65536∧M≤16384∧c.ws.length=(S*M+63)/64∧pwB (S:Int)=true∧pwB (M:Int)=true∧∀i,S*M≤i→bitW c.ws i=false:=by
 simp only [slHead,Bool.and_eq_true,decide_eq_true_eq] at h;obtain ⟨⟨⟨h1,h2⟩,h3⟩,h4⟩:=h;obtain ⟨f1,f2,f3,f4,f5,f6,f7⟩:=fitB_facts h1;simp only [wMayB,Bool.and_eq_true,decide_eq_true_eq] at h3;obtain ⟨h5,h6⟩:=h3;obtain ⟨S,hS⟩:∃S:Nat,c.seg=S:=⟨c.seg.toNat,by omega⟩
 rw [hS] at f1 f2 f3 f4 f6 f7 h4;have hn:c.ks.length=S*c.cs.length:=by
  have e:=Int.emod_add_mul_ediv (c.ks.length:Int) S;rw [f6,←h4] at e;have e2:((S*c.cs.length:Nat):Int)=(c.ks.length:Int):=by push_cast;omega
  omega
 rw [←h4] at f7;have hM:1≤c.cs.length:=by
  rcases Nat.eq_zero_or_pos c.cs.length with e|e
  · rw [e] at f7;cases f7
  · exact e
 have hM2:c.cs.length≤16384:=by
  have h9:4*c.cs.length≤S*c.cs.length:=Nat.mul_le_mul_right _ xo;omega
 refine ⟨S,c.cs.length,hS,by omega,by omega,hn,by omega,rfl,hM,by omega,hM2,by rw [←hn];exact h5,f3,f7,fun i hi=> ?_⟩;by_cases hi2:i<64*c.ws.length
 · have:=List.all_eq_true.1 h6 i (List.mem_range'_1.2 xo);simpa using this
 · rw [bitW,List.getD_eq_getElem?_getD,List.getElem?_eq_none xo];exact bitI_zero _
def prs (c:SlC) (a b:Nat):List (Int×Int):=(plsW c.ws a b).map fun i=>(c.ks.getD i 0,c.vs.getD i 0)
def cutA (ws:List Int) (a k:Nat):Int:=if 64*k<a then cutLo (ws.getD k 0) (a-64*k) else ws.getD k 0
def cutV (ws:List Int) (a b k:Nat):Int:=if b<64*k+64 then cutHi (cutA ws a k) (64*k+64-b) else cutA ws a k
theorem cutA_bd {ws:List Int} (h:U64s ws) (a k:Nat):0≤cutA ws a k∧cutA ws a k<18446744073709551616:=by
 have:=h.get k;unfold cutA;split
 · have:=cutLo_bd (x:=ws.getD k 0) xo (a-64*k);omega
 · exact this
theorem cutV_bd {ws:List Int} (h:U64s ws) {a b k:Nat} (hb:64*k≤b):0≤cutV ws a b k∧cutV ws a b k<18446744073709551616:=by
 have:=cutA_bd h a k;unfold cutV;split
 · exact cutHi_bd this.1 this.2 xo
 · exact this
theorem bitW_at (ws:List Int) (k:Nat) {j:Nat} (hj:j<64):bitW ws (64*k+j)=bitI (ws.getD k 0) j:=by
 rw [bitW,show (64*k+j)/64=k by omega,show (64*k+j)%64=j by omega]
def inW (ws:List Int) (a b i:Nat):Bool:=bitW ws i&&(decide (a≤i)&&decide (i<b))
theorem cutV_bit {ws:List Int} (h:U64s ws) {a b k j:Nat} (hb:64*k≤b) (hj:j<64):bitI (cutV ws a b k) j=inW ws a b (64*k+j):=by
 have h1:=h.get k;have h2:=cutA_bd h a k;have e1:bitI (cutA ws a k) j=(bitW ws (64*k+j)&&decide (a≤64*k+j)):=by
  rw [bitW_at ws k hj];unfold cutA;split
  · rw [cutLo_bit h1.1];congr 1
    rw [decide_eq_decide];omega
  · rw [decide_eq_true xo,Bool.and_true]
 unfold cutV inW;split
 · rw [cutHi_bit h2.1 xo,e1,Bool.and_assoc];congr 2
   rw [decide_eq_decide];omega
 · rw [e1,decide_eq_true (by omega:64*k+j<b),Bool.and_true]
theorem popI_cutV {ws:List Int} (h:U64s ws) {a b k:Nat} (hb:64*k≤b):popI (cutV ws a b k)=(List.range 64).countP fun j=>inW ws a b (64*k+j):=by
 unfold popI;apply List.countP_congr;intro j hj;rw [List.mem_range] at hj;rw [cutV_bit h hb hj]
def cntP (ws:List Int) (a b m:Nat):Nat:=((List.range' (a/64) m).map fun k=>popI (cutV ws a b k)).sum
theorem cntP_zero (ws:List Int) (a b:Nat):cntP ws a b 0=0:=rfl
theorem cntP_succ (ws:List Int) (a b m:Nat):cntP ws a b (m+1)=cntP ws a b m+popI (cutV ws a b (a/64+m)):=by
 unfold cntP;rw [List.range'_concat,List.map_append,List.sum_append];simp
theorem cnt_blocks (g:Nat→Bool) (s:Nat) (hs:∀i,i<64*s→g i=false):∀m,(List.range (64*(s+m))).countP g=((List.range' s m).map fun k=>(List.range 64).countP fun j=>g (64*k+j)).sum:=by
 intro m;induction m with
 | zero=>
  simp only [Nat.add_zero,List.range'_zero,List.map_nil,List.sum_nil];rw [List.countP_eq_zero];intro i hi;rw [List.mem_range] at hi;simp [hs i hi]
 | succ m ih=>
  rw [show 64*(s+(m+1))=64*(s+m)+64 by omega,List.range_add,List.countP_append,ih,List.range'_concat,List.map_append,List.sum_append,List.countP_map];simp only [List.map_cons,List.map_nil,List.sum_cons,List.sum_nil,Nat.add_zero,Nat.one_mul];rfl
theorem cnt_in (ws:List Int) {a b n:Nat} (h1:a≤b) (h2:b≤n):(List.range n).countP (inW ws a b)=cntW ws a b:=by
 have e:List.range n=List.range' 0 a++(List.range' a (b-a)++List.range' b (n-b)):=by
  have e1:=List.range'_append (s:=a) (m:=b-a) (n:=n-b) (step:=1);have e2:=List.range'_append (s:=0) (m:=a) (n:=n-a) (step:=1);simp only [Nat.one_mul,Nat.zero_add] at e1 e2;rw [show a+(b-a)=b by omega,show b-a+(n-b)=n-a by omega] at e1;rw [show a+(n-a)=n by omega] at e2;rw [e1,e2,List.range_eq_range']
 rw [e,List.countP_append,List.countP_append];have z1:(List.range' 0 a).countP (inW ws a b)=0:=by
  rw [List.countP_eq_zero];intro i hi;have:=List.mem_range'_1.1 hi;simp [inW,show ¬a≤i by omega]
 have z2:(List.range' b (n-b)).countP (inW ws a b)=0:=by
  rw [List.countP_eq_zero];intro i hi;have:=List.mem_range'_1.1 hi;simp [inW,show ¬i<b by omega]
 have z3:(List.range' a (b-a)).countP (inW ws a b)=cntW ws a b:=by
  apply List.countP_congr;intro i hi;have:=List.mem_range'_1.1 hi;simp [inW,show a≤i by omega,show i<b by omega]
 omega
theorem cntP_all {ws:List Int} (h:U64s ws) {a b:Nat} (hab:a≤b):cntP ws a b ((b+63)/64-a/64)=cntW ws a b:=by
 rw [←cnt_in ws hab (show b≤64*(a/64+((b+63)/64-a/64)) by omega),cnt_blocks (inW ws a b) (a/64) (fun i hi=>by simp [inW,show ¬a≤i by omega]),cntP];congr 1
 apply List.map_congr_left;intro k hk;have:=List.mem_range'_1.1 hk;exact popI_cutV h xo
theorem cntP_le {ws:List Int} (a b m:Nat):cntP ws a b m≤64*m:=by
 induction m with
 | zero=>rw [cntP_zero];omega
 | succ m ih=>rw [cntP_succ];have:=popI_le (cutV ws a b (a/64+m));omega
def partsL (ws:List Int) (a b:Nat):List (Array Value):=(List.range' (a/64) ((b+63)/64-a/64)).map fun k=> #[.int .i64 ((64*k:Nat):Int),.int .u64 (cutV ws a b k)]
theorem partsL_length (ws:List Int) (a b:Nat):(partsL ws a b).length=(b+63)/64-a/64:=by simp [partsL]
theorem partsL_get (ws:List Int) {a b k:Nat} (h:k<(b+63)/64-a/64):(partsL ws a b).getD k #[]= #[.int .i64 ((64*(a/64+k):Nat):Int),.int .u64 (cutV ws a b (a/64+k))]:=by
 rw [List.getD_eq_getElem?_getD,partsL,List.getElem?_map,List.getElem?_eq_getElem (by simpa using h)];simp
theorem plsW_nil (ws:List Int) (a:Nat):plsW ws a a=[]:=by simp [plsW]
theorem plsW_succ {ws:List Int} {a b:Nat} (h:a≤b):plsW ws a (b+1)=plsW ws a b++if bitW ws b=true then [b] else []:=by
 unfold plsW;rw [show b+1-a=b-a+1 by omega,List.range'_concat,List.filter_append];congr 1
 rw [show a+1*(b-a)=b by omega];simp [List.filter_cons]
theorem plsW_none {ws:List Int} {a b:Nat} (h:b≤a):plsW ws a b=[]:=by simp [plsW,show b-a=0 by omega]
theorem cntW_none {ws:List Int} {a b:Nat} (h:b≤a):cntW ws a b=0:=by simp [cntW,show b-a=0 by omega]
theorem wMayB_iff {ws:List Int} (hu:U64s ws) {n:Nat} (hl:ws.length=(n+63)/64):wMayB ws n=true↔n%64=0∨ws.getD (ws.length-1) 0/2^(n%64)=0:=by
 have hg:=hu.get (ws.length-1);unfold wMayB;rw [decide_eq_true hl,Bool.true_and,List.all_eq_true];constructor
 · intro h;by_cases h0:n%64=0
   · exact .inl h0
   · right;rw [shr_zero hg.1];intro i hi;by_cases h64:i<64
     · have:=h (64*(ws.length-1)+i) (List.mem_range'_1.2 xo);rw [bitW_at _ _ h64] at this;simpa using this
     · exact bitI_high hg.2 xo
 · rintro h i hi;have hi:=List.mem_range'_1.1 hi;rcases h with h|h
   · omega
   · rw [shr_zero hg.1] at h;have:=h (i%64) xo;rw [bitW,show i/64=ws.length-1 by omega,this];rfl
theorem pow_bd (n:Nat) (h:n≤14):1≤(2:Int)^n∧(2:Int)^n≤16384:=by
 have h1:(2:Int)^n=((2^n:Nat):Int):=by norm_cast
 have h2:2^n≤2^14:=Nat.pow_le_pow_right xo h;have h3:0<2^n:=Nat.two_pow_pos n;rw [h1];omega
theorem tree_ok (l:Int) (h1:1≤l) (h2:l≤14) (w:World):
    Calls Tryz.prog 122 #[.int .i64 l] w fun e w'=>e= .returned (.int .i64 0)∧w=w':=by
 go_enter Tryz.func122,Tryz.ntmps122
 go_wp2
 all_goals (go_ret;exact ⟨rfl,rfl⟩)
theorem tree_err (l:Int) (h:l<1∨14<l) (w:World):
    Calls Tryz.prog 122 #[.int .i64 l] w fun e w'=>e= .returned (.int .i64 2)∧w=w':=by
 go_enter Tryz.func122,Tryz.ntmps122
 go_wp2
 all_goals (go_ret;exact ⟨rfl,rfl⟩)
theorem pow_bdI (l:Int) (h:l≤14):1≤(2:Int)^l.toNat∧(2:Int)^l.toNat≤16384:=pow_bd _ xo
theorem Size_ok (l:Int) (h1:1≤l) (h2:l≤14) (w:World):
    Calls Tryz.prog 121 #[.int .i64 l] w fun e w'=>e= .returned (.tuple #[.int .i64 (2^l.toNat-1),.int .i64 0])∧w=w':=by
 have hp:=pow_bdI l h2;obtain ⟨hp1,hp2⟩:=hp;go_enter Tryz.func121,Tryz.ntmps121
 go_wp2_with (go_at_call 122;refine (tree_ok _ xo xo _).mono ?_;rintro e w' ⟨rfl,rfl⟩)
 go_ret2
 exact ⟨rfl,rfl⟩
theorem Size_err (l:Int) (h:l<1∨14<l) (w:World):
    Calls Tryz.prog 121 #[.int .i64 l] w fun e w'=>e= .returned (.tuple #[.int .i64 0,.int .i64 2])∧w=w':=by
 go_enter Tryz.func121,Tryz.ntmps121
 go_wp2_with (go_at_call 122;refine (tree_err _ h _).mono ?_;rintro e w' ⟨rfl,rfl⟩)
 all_goals (go_ret2;exact ⟨rfl,rfl⟩)
theorem Split_ok (l:Int) (h1:2≤l) (h2:l≤14) (w:World):
    Calls Tryz.prog 124 #[.int .i64 l] w fun e w'=>e= .returned (.tuple #[.int .i64 (l/2),.int .i64 ((l+1)/2),.int .i64 0])∧w=w':=by
 go_enter Tryz.func124,Tryz.ntmps124
 go_wp2_with (go_at_call 122;refine (tree_ok _ xo xo _).mono ?_;rintro e w' ⟨rfl,rfl⟩)
 go_ret3
 exact ⟨rfl,rfl⟩
theorem Pow_ok (k:Int) (h0:0≤k) (hk:k≤14) (w:World):
    Calls Tryz.prog 105 #[.int .i64 k] w fun e w'=>e= .returned (.int .i64 (2^k.toNat))∧w=w':=by
 go_enter Tryz.func105,Tryz.ntmps105
 go_wp2
 go_loop [3,4] (fun p i=>∃j:Nat,(j:Int)≤k∧i= .int .i64 j∧p= .int .i64 (2^j)) (fun _ i=>(k-intOf i).toNat)
 case atStart=>exact ⟨0,by omega,rfl,rfl⟩
 case round=>
  obtain ⟨j,hj,rfl,rfl⟩:=hrel;obtain ⟨hb1,hb2⟩:=pow_bd j xo;by_cases h:(j:Int)<k
  · go_wp2
    go_round
    case rel=>exact ⟨j+1,by omega,by go_num,by rw [Int.pow_succ,Int.mul_comm]⟩
    case measure=>simp [intOf];omega
  · go_wp2
    go_ret
    exact ⟨ret_int (by rw [show k.toNat=j by omega]),rfl⟩
theorem Many16_ok (l:Int) (h0:0≤l) (h2:l≤14) (w:World):
    Calls Tryz.prog 71 #[.int .i64 l] w fun e w'=>e= .returned (.int .i64 (2^l.toNat-1))∧w=w':=by
 obtain ⟨hp1,hp2⟩:=pow_bdI l h2;go_enter Tryz.func71,Tryz.ntmps71
 go_wp2_with (go_at_call 105;refine (Pow_ok _ xo xo _).mono ?_;rintro e w' ⟨rfl,rfl⟩)
 go_ret
 exact ⟨rfl,rfl⟩
theorem Ones_ok (x:Int) (h0:0≤x) (h1:x<18446744073709551616) (w:World):
    Calls Tryz.prog 148 #[.int .u64 x] w fun e w'=>e= .returned (.int .i64 (popI x))∧w=w':=by
 go_enter Tryz.func148,Tryz.ntmps148
 go_wp2
 go_ret
 refine ⟨?_,rfl⟩;show Ending.returned (.int .i64 _)=_;refine congrArg (fun z=>Ending.returned (Value.int .i64 z)) ?_;obtain ⟨n,rfl⟩:=Int.eq_ofNat_of_zero_le h0;have hn:n<18446744073709551616:=xo;have l1:∀b,b<256→s1 b<256:=fun b hb=>(byte1 ⟨b,hb⟩).2
 have l2:∀b,b<256→s2 b<256:=fun b hb=>(byte2 ⟨b,hb⟩).2.2.2.2
 have b1:=mapB_lt l1 8 n;rw [←S1_eq 8 n xo] at b1;have b2:=mapB_small 8 n;rw [←mapB_comp l1,←S1_eq 8 n xo,←S2_eq 8 _ b1] at b2;have b3:=smallB_lt 8 _ b2;have hs:=S_all 8 n xo;obtain ⟨z1,z2,z3,e1,e2,e3,e4,q0,q1,q2,q3⟩:=fold_bytes n;rw [ones1 hn,ones2 xo,ones3 xo,hs];have w1:IntKind.u64.wrap (((mapB pop8 8 n:Nat):Int)+((mapB pop8 8 n:Nat):Int)/256)=(z1:Int):=by rw [IntKind.wrap_u64];omega
 have w2:IntKind.u64.wrap ((z1:Int)+(z1:Int)/65536)=(z2:Int):=by rw [IntKind.wrap_u64];omega
 have w3:IntKind.u64.wrap ((z2:Int)+(z2:Int)/4294967296)=(z3:Int):=by rw [IntKind.wrap_u64];omega
 rw [w1,w2,w3];have w4:wrap64 (z3:Int)=z3:=IntWalk.wrap64_in _ xo;rw [w4,show (127:Int)=((127:Nat):Int) from rfl,bits_and_i64_nat _ _ q3 xo,show 127=2^7-1 from rfl,Nat.and_two_pow_sub_one_eq_mod,popI_eq xo,Int.toNat_natCast,←e4]
theorem Power_ok (n:Int) (h1:n≤9223372036854775807) (w:World):
    Calls Tryz.prog 140 #[.int .i64 n] w fun e w'=>e= .returned (.bool (pwB n))∧w=w':=by
 by_cases h:0<n
 · obtain ⟨m,rfl⟩:=Int.eq_ofNat_of_zero_le (show 0≤n by omega);have e2:=bits_and_i64_nat m (m-1) xo xo;have e3:pwB (m:Int)=(((m &&& (m-1):Nat):Int)==0):=by
    unfold pwB;rw [decide_eq_true h,Bool.true_and,Int.toNat_natCast,Bool.eq_iff_iff];simp
   rw [e3];go_enter Tryz.func140,Tryz.ntmps140
   go_wp2
   go_ret
   refine ⟨?_,rfl⟩;show Ending.returned (.bool _)=_;rw [show (m:Int)-1=((m-1:Nat):Int) by omega,e2]
 · rw [pwB_neg xo];go_enter Tryz.func140,Tryz.ntmps140
   go_wp2
   go_ret
   exact ⟨rfl,rfl⟩
theorem Log_any (n:Nat) (ni:Int) (hn:ni=n) (h1:n≤65536) (w:World):
    Calls Tryz.prog 70 #[.int .i64 ni] w fun e w'=>e= .returned (.int .i64 (n.log2:Nat))∧w=w':=by
 subst hn;go_enter Tryz.func70,Tryz.ntmps70
 go_wp2
 go_loopg [0,3] n (fun g x i wr=>∃(b k:Nat),b=g∧b≤n∧x= .int .i64 b∧i= .int .i64 k∧k+b.log2=n.log2∧wr=w)
 case atStart=>exact ⟨n,0,rfl,Nat.le_refl _,rfl,rfl,by omega,rfl⟩
 case round=>
  obtain ⟨b,k,rfl,hbn,rfl,rfl,hk,rfl⟩:=hrel;have hlog:n.log2≤n:=Nat.log2_le_self n;have hkb:k≤65536:=xo;by_cases h:2≤b
  · have h2:=log2_two h;have H2:=hid (And.intro h2 hk);clear h2 hk hlog;go_wp2
    go_roundg (b/2)
    case measure=>omega
    case rel=>exact ⟨b/2,k+1,rfl,by omega,by go_num,by go_num,by have:=H2.out;omega,rfl⟩
  · have h2:=log2_one (n:=b) xo;have H2:=hid (And.intro h2 hk);clear h2 hk hlog;go_wp2
    go_ret
    exact ⟨ret_int (by have:=H2.out;omega),rfl⟩
theorem Pow_any (k:Nat) (ki:Int) (hk:ki=k) (h1:k≤40) (w:World):
    Calls Tryz.prog 105 #[.int .i64 ki] w fun e w'=>e= .returned (.int .i64 ((2^k:Nat):Int))∧w=w':=by
 subst hk;go_enter Tryz.func105,Tryz.ntmps105
 go_wp2
 go_loopg [3,4] k (fun gk p i wr=>∃j q:Nat,j+gk=k∧i= .int .i64 j∧p= .int .i64 q∧q=2^j∧wr=w)
 case atStart=>exact ⟨0,1,by omega,rfl,rfl,rfl,rfl⟩
 case round=>
  obtain ⟨j,q,hj,rfl,rfl,hq,rfl⟩:=hrel;have hb:q≤2^40:=by rw [hq];exact Nat.pow_le_pow_right xo xo
  have HQ:=hid hq;clear hq;by_cases h:j<k
  · go_wp2
    go_roundg (gk-1)
    case measure=>omega
    case rel=>exact ⟨j+1,2*q,by omega,by go_num,by go_num,by rw [HQ.out,Nat.pow_succ];omega,rfl⟩
  · obtain rfl:j=k:=xo;go_wp2
    go_ret
    exact ⟨ret_int (by rw [HQ.out]),rfl⟩
theorem Power01_ok (n:Int) (h1:n≤65536) (w:World):
    Calls Tryz.prog 119 #[.int .i64 n] w fun e w'=>e= .returned (.bool (pwB n))∧w=w':=by
 by_cases h:1≤n
 · obtain ⟨m,rfl⟩:=Int.eq_ofNat_of_zero_le (show 0≤n by omega);have hl:m.log2≤16:=by
    have:m.log2<17:=(Nat.log2_lt xo).2 xo;omega
   have L1:=hid (fun w=>Log_any m m rfl xo w);have P1:=hid (fun w=>Pow_any m.log2 m.log2 rfl xo w);have e:pwB (m:Int)=(((2^m.log2:Nat):Int)==(m:Int)):=by
    rw [Bool.eq_iff_iff,pwB_iff xo,beq_iff_eq];omega
   rw [e];generalize ((2^m.log2:Nat):Int)=z at *;generalize m.log2=q at *;clear e;go_enter Tryz.func119,Tryz.ntmps119
   go_wp2_with (first
     | (go_at_call 70;refine (L1.out _).mono ?_;rintro e w' ⟨rfl,rfl⟩)
     | (go_at_call 105;refine (P1.out _).mono ?_;rintro e w' ⟨rfl,rfl⟩))
   go_ret
   exact ⟨rfl,rfl⟩
 · rw [pwB_neg xo];go_enter Tryz.func119,Tryz.ntmps119
   go_wp2
   go_ret
   exact ⟨rfl,rfl⟩
theorem infoR_int64:(Tryz.prog.info? 2).map (fun i=>(i.zero,i.size,i.bytes))=some (some (.int .i64 0),1,8):=by kernel_rfl
theorem Clone_int64 (ga:Option Addr) (gc:Nat) (xs:List Int) (w:World) (hg:IsRow .i64 w ga xs) (hl:xs.length≤100000):
    Calls Tryz.prog 51 #[.slice ga xs.length gc] w (FreshRow .i64 2 w xs):=by
 have q22:∀(w:World) (a:Option Addr) (n c n' c':Nat),(binOp .eql 25 (.slice a n c) (.slice none n' c')).run Tryz.prog w= .ok (.bool a.isNone) w:=fun w a n c n' c'=>Lib.run_eql_slice_nil w _ _ a n c n' c' Tryz.underlying25
 have HG:=hid hg;clear hg;cases ga with
 | none=>
  have hx:xs=[]:=row_none HG.out;subst hx;go_enter Tryz.func51,Tryz.ntmps51
  go_wp2
  go_ret
  exact ⟨_,rfl,World.ownsRow_nil _ _ _ _,Below.refl _ _⟩
 | some a=>
  have HN:=hid (row_news HG.out);go_enter Tryz.func51,Tryz.ntmps51
  go_wp2_with (at_builtin;refine wpl_append (.tmp 5) (.tmp 6) 25 2 (.int .i64 0) 1 8 Tryz.underlying25 infoR_int64 rfl xdd xdd w.heap.size _ 0 [] (some a) xs.length gc (xs.map (Value.int .i64)) (World.ownsRow_made w #[] 0 (Nat.le_refl _) (Nat.zero_le _) rfl) xsi xzc (fun ad h j u hj=>Lib.cell?_alloc_some _ (HN.out ad h j u hj)) (numCells _) xo xsi rfl rfl rfl rfl ?_;intro v' w1 hown hgrow _)
  go_wp2
  go_ret
  refine ⟨v',rfl,by simpa using hown,?_⟩;exact ((Below.refl _ w).alloc (Nat.le_refl _) _).grown hgrow xsi (by intro k hk;simp [Value.ownBlock] at hk;omega)
theorem infoR_int:(Tryz.prog.info? 3).map (fun i=>(i.zero,i.size,i.bytes))=some (some (.int .i64 0),1,8):=by kernel_rfl
theorem Clone_int (ga:Option Addr) (gc:Nat) (xs:List Int) (w:World) (hg:IsRow .i64 w ga xs) (hl:xs.length≤100000):
    Calls Tryz.prog 52 #[.slice ga xs.length gc] w (FreshRow .i64 3 w xs):=by
 have q22:∀(w:World) (a:Option Addr) (n c n' c':Nat),(binOp .eql 26 (.slice a n c) (.slice none n' c')).run Tryz.prog w= .ok (.bool a.isNone) w:=fun w a n c n' c'=>Lib.run_eql_slice_nil w _ _ a n c n' c' Tryz.underlying26
 have HG:=hid hg;clear hg;cases ga with
 | none=>
  have hx:xs=[]:=row_none HG.out;subst hx;go_enter Tryz.func52,Tryz.ntmps52
  go_wp2
  go_ret
  exact ⟨_,rfl,World.ownsRow_nil _ _ _ _,Below.refl _ _⟩
 | some a=>
  have HN:=hid (row_news HG.out);go_enter Tryz.func52,Tryz.ntmps52
  go_wp2_with (at_builtin;refine wpl_append (.tmp 5) (.tmp 6) 26 3 (.int .i64 0) 1 8 Tryz.underlying26 infoR_int rfl xdd xdd w.heap.size _ 0 [] (some a) xs.length gc (xs.map (Value.int .i64)) (World.ownsRow_made w #[] 0 (Nat.le_refl _) (Nat.zero_le _) rfl) xsi xzc (fun ad h j u hj=>Lib.cell?_alloc_some _ (HN.out ad h j u hj)) (numCells _) xo xsi rfl rfl rfl rfl ?_;intro v' w1 hown hgrow _)
  go_wp2
  go_ret
  refine ⟨v',rfl,by simpa using hown,?_⟩;exact ((Below.refl _ w).alloc (Nat.le_refl _) _).grown hgrow xsi (by intro k hk;simp [Value.ownBlock] at hk;omega)
theorem SameKeys_ok (a b:Option Addr) (ca cb:Nat) (xs ys:List Int) (w:World) (ha:IsRow .i64 w a xs) (hb:IsRow .i64 w b ys) (hm:xs.length≤1000000000):
    Calls Tryz.prog 68 #[.slice a xs.length ca,.slice b ys.length cb] w fun e w'=>e= .returned (.bool (decide (xs=ys)))∧∃n,w'=w.drewN n:=by
 by_cases hlen:xs.length=ys.length
 · have hl1:((xs.length:Int) != (ys.length:Int))=false:=by simp [hlen]
   have HL:=hid hlen;clear hlen;have HA:=hid ha;have HB:=hid hb;clear ha hb;go_enter Tryz.func68,Tryz.ntmps68
   go_wp2
   go_loopg [5] xs.length (fun g i wr=>∃(k n:Nat),k+g=xs.length∧i= .int .i64 k∧wr=w.drewN n∧xs.take k=ys.take k)
   case atStart=>exact ⟨0,0,by omega,rfl,rfl,by simp⟩
   case round=>
    obtain ⟨k,n,hk,rfl,rfl,ht⟩:=hrel;have HT:=hid ht;clear ht;by_cases hlt:k<xs.length
    · have hlt2 : k<ys.length:=by rw [←HL.out];exact hlt
      obtain ⟨b1,o1,x,rfl,hx,h1,_⟩:=HA.out.get hlt;obtain ⟨b2,o2,y,rfl,hy,h2,_⟩:=HB.out.get hlt2;by_cases heq:x=y
      · have he:(x != y)=false:=by simpa using heq
        have HE:=hid heq;clear heq;go_wp2
        go_quiet (fail)
        go_wp2
        go_roundg (gk-1)
        case measure=>omega
        case rel=>exact ⟨k+1,n+nq,by omega,by go_num,by simp,row_take_succ HL.out hlt HT.out (hx.out.trans (HE.out.trans hy.out.symm))⟩
      · have he : (x != y)=true:=by simpa using heq
        have HE:=hid heq;clear heq;go_wp2
        go_quiet (fail)
        go_wp2
        go_ret
        exact ⟨by have:xs≠ys:=fun h=>HE.out (by rw [←hx.out,←hy.out,h])
                  simp [this],_,World.drewN_drewN _ _ _⟩
    · go_wp2
      go_ret
      have hk2:k=xs.length:=xo;have hxy:xs=ys:=by
       have:=HT.out;rw [hk2,List.take_length,HL.out,List.take_length] at this;exact this
      exact ⟨by simp [hxy],_,rfl⟩
 · have hl1:((xs.length:Int) != (ys.length:Int))=true:=by simp;omega
   have hxy:xs≠ys:=fun h=>hlen (by rw [h])
   have HX:=hid hxy;clear ha hb hlen hxy;go_enter Tryz.func68,Tryz.ntmps68
   go_wp2
   go_ret
   exact ⟨by simp [HX.out],0,rfl⟩
theorem SameNums_ok (a b:Option Addr) (ca cb:Nat) (xs ys:List Int) (w:World) (ha:IsRow .i64 w a xs) (hb:IsRow .i64 w b ys) (hm:xs.length≤1000000000):
    Calls Tryz.prog 69 #[.slice a xs.length ca,.slice b ys.length cb] w fun e w'=>e= .returned (.bool (decide (xs=ys)))∧∃n,w'=w.drewN n:=by
 by_cases hlen:xs.length=ys.length
 · have hl1:((xs.length:Int) != (ys.length:Int))=false:=by simp [hlen]
   have HL:=hid hlen;clear hlen;have HA:=hid ha;have HB:=hid hb;clear ha hb;go_enter Tryz.func69,Tryz.ntmps69
   go_wp2
   go_loopg [5] xs.length (fun g i wr=>∃(k n:Nat),k+g=xs.length∧i= .int .i64 k∧wr=w.drewN n∧xs.take k=ys.take k)
   case atStart=>exact ⟨0,0,by omega,rfl,rfl,by simp⟩
   case round=>
    obtain ⟨k,n,hk,rfl,rfl,ht⟩:=hrel;have HT:=hid ht;clear ht;by_cases hlt:k<xs.length
    · have hlt2 : k<ys.length:=by rw [←HL.out];exact hlt
      obtain ⟨b1,o1,x,rfl,hx,h1,_⟩:=HA.out.get hlt;obtain ⟨b2,o2,y,rfl,hy,h2,_⟩:=HB.out.get hlt2;by_cases heq:x=y
      · have he:(x != y)=false:=by simpa using heq
        have HE:=hid heq;clear heq;go_wp2
        go_quiet (fail)
        go_wp2
        go_roundg (gk-1)
        case measure=>omega
        case rel=>exact ⟨k+1,n+nq,by omega,by go_num,by simp,row_take_succ HL.out hlt HT.out (hx.out.trans (HE.out.trans hy.out.symm))⟩
      · have he : (x != y)=true:=by simpa using heq
        have HE:=hid heq;clear heq;go_wp2
        go_quiet (fail)
        go_wp2
        go_ret
        exact ⟨by have:xs≠ys:=fun h=>HE.out (by rw [←hx.out,←hy.out,h])
                  simp [this],_,World.drewN_drewN _ _ _⟩
    · go_wp2
      go_ret
      have hk2:k=xs.length:=xo;have hxy:xs=ys:=by
       have:=HT.out;rw [hk2,List.take_length,HL.out,List.take_length] at this;exact this
      exact ⟨by simp [hxy],_,rfl⟩
 · have hl1:((xs.length:Int) != (ys.length:Int))=true:=by simp;omega
   have hxy:xs≠ys:=fun h=>hlen (by rw [h])
   have HX:=hid hxy;clear ha hb hlen hxy;go_enter Tryz.func69,Tryz.ntmps69
   go_wp2
   go_ret
   exact ⟨by simp [HX.out],0,rfl⟩
structure Calm (B:Nat) (W W':World):Prop where
 os:W'.os=W.os
 tape:W'.tape=W.tape
 output:W'.output=W.output
 size:W.heap.size≤W'.heap.size
 low:∀k,k<B→W'.heap[k]? =W.heap[k]?
 cells:∀(k:Nat) (o:Obj),W.heap[k]? =some o→o.isCells=true→W'.heap[k]? =some o
theorem Calm.refl (B:Nat) (W:World):Calm B W W:=⟨rfl,rfl,rfl,Nat.le_refl _,fun _ _=>rfl,fun _ _ h _=>h⟩
theorem Calm.trans {B:Nat} {X Y Z:World} (h:Calm B X Y) (k:Calm B Y Z):Calm B X Z:=
  ⟨k.os.trans h.os,k.tape.trans h.tape,k.output.trans h.output,Nat.le_trans h.size k.size,fun i hi=>(k.low i hi).trans (h.low i hi),fun i o hi ho=>k.cells i o (h.cells i o hi ho) ho⟩
theorem Calm.mono {B B':Nat} {X Y:World} (h:Calm B X Y) (hb:B'≤B):Calm B' X Y:=⟨h.os,h.tape,h.output,h.size,fun i hi=>h.low i xo,h.cells⟩
theorem Calm.putObj {B:Nat} {W:World} {l:Nat} {o:Obj} (o':Obj) (hB:B≤l) (hl:W.heap[l]? =some o) (ho:o.isCells=false):Calm B W (W.putObj l o'):=
  ⟨rfl,rfl,rfl,by simp [World.putObj],fun k hk=>World.putObj_heap_other xo,fun k o2 hk ho2=>by
   by_cases e:k=l
   · subst e;rw [hl] at hk;cases hk;rw [ho] at ho2;cases ho2
   · exact (World.putObj_heap_other e).trans hk⟩
theorem Calm.alloc {B:Nat} {W:World} (o:Obj) (hB:B≤W.heap.size):Calm B W (W.alloc o):=
  ⟨rfl,rfl,rfl,by simp,fun k hk=>Below.heap_alloc W o k xo,fun k o2 hk _=>(Below.heap_alloc W o k (Array.getElem?_eq_some_iff.1 hk).1).trans hk⟩
theorem Calm.drew {B:Nat} {W:World}:Calm B W W.drew:=⟨rfl,rfl,rfl,Nat.le_refl _,fun _ _=>rfl,fun _ _ h _=>h⟩
theorem Calm.cell {B:Nat} {W W':World} (h:Calm B W W') {a:Addr} {v:Value} (hc:W.cell? a=some v):W'.cell? a=some v:=by
 obtain ⟨o,ho,hoc⟩:=cells_of_cell hc;rw [World.cell?_of_block (w:=W) ((h.cells _ _ ho hoc).trans ho.symm)];exact hc
theorem Calm.frozen {B:Nat} {W W':World} (h:Calm B W W') {a:Addr} {v:Value} (hc:W.cell? a=some v) {x:Bool} (hf:W.frozen? a=x):W'.frozen? a=x:=by
 obtain ⟨o,ho,hoc⟩:=cells_of_cell hc;rw [World.frozen?_of_block (w:=W) ((h.cells _ _ ho hoc).trans ho.symm)];exact hf
theorem Calm.owns {B:Nat} {W W':World} (h:Calm B W W') {base:Nat} {e:TypeId} {size:Nat} {v:Value} {n:Nat} {xs:List Value} (ho:W.ownsRow base e size v n xs):W'.ownsRow base e size v n xs:=by
 obtain ⟨h1,h2⟩:=ho;refine ⟨h1,?_⟩;rcases h2 with h2 | ⟨g,cap,cur,hv,hg,hh,r⟩
 · exact .inl h2
 · exact .inr ⟨g,cap,cur,hv,hg,h.cells _ _ hh rfl,r⟩
theorem Calm.ints {B:Nat} {W W':World} (h:Calm B W W') {a:Option Addr} {xs:List Int} (hi:IsInts W a xs):IsInts W' a xs:=by
 intro i hl;obtain ⟨b,off,ha,hlt,hc⟩:=hi i hl;exact ⟨b,off,ha,Nat.lt_of_lt_of_le hlt h.size,fun j hj=>h.cell (hc j hj)⟩
theorem Calm.below {B n:Nat} {w W W':World} (h:Calm B W W') (hn:n≤B) (hb:Below n w W):Below n w W':=
  ⟨h.os.trans hb.os,h.tape.trans hb.tape,h.output.trans hb.output,Nat.le_trans hb.size h.size,fun k hk=>(h.low k xo).trans (hb.block k hk)⟩
theorem keeps_below {W W':World} (h:Below W.heap.size W W'):KeepsOthers W W':=
  ⟨h.size,fun k o hk _=>(h.block k (Array.getElem?_eq_some_iff.1 hk).1).trans hk⟩
theorem keeps_drewN (W:World) (n:Nat):KeepsOthers W (W.drewN n):=⟨Nat.le_refl _,fun _ _ h _=>h⟩
def Iter (P:Program) (gf:Nat) (lb:Array Value) (xs:List (Array Value)) (Kp:World→World→Prop) (w:World):Prop:=
  ∀ (l:Nat) (J Jx:Nat→World→Prop) (W:World),Below w.heap.size w W→
    (∀k W1 W2,J k W1→Below W1.heap.size W1 W2→J k W2)→(∀k W1 W2,Jx k W1→Below W1.heap.size W1 W2→Jx k W2)→
    (∀k W1,k<xs.length→J k W1→YieldAt Fence.wide 0 P l (xs.getD k #[]) W1 fun e W'=>
     (e= .returned (.bool true)∧J (k+1) W'∧Kp W1 W')∨(e= .returned (.bool false)∧Jx (k+1) W'))→
    J 0 W→
    CallsIn Fence.wide 0 P gf (#[.func (.yield l) #[] #[]]++lb) W fun e W'=>(∃v,e= .returned v)∧(J xs.length W'∨∃k,k≤xs.length∧Jx k W')
theorem Iter.later {P:Program} {gf:Nat} {lb:Array Value} {xs:List (Array Value)} {Kp:World→World→Prop} {w w':World} (h:Iter P gf lb xs Kp w) (hb:Below w.heap.size w w'):Iter P gf lb xs Kp w':=
  fun l J Jx W hW hJ hJx hY h0=>h l J Jx W (hb.trans (hW.mono hb.size)) hJ hJx hY h0
def rEnd (Kp:World→World→Prop) (I:Nat→World→Prop) (Ix:Code→World→Prop) (k:Nat) (W:World):Exit→Act→World→Prop
  | .normal,_,W'=>KeepsOthers W W'∧Kp W W'∧I (k+1) W'
  | .ret,_,W'=>KeepsOthers W W'∧Ix .ret W'
  | .exit id,_,W'=>KeepsOthers W W'∧Ix (.exit id) W'
  | .goto t,_,W'=>KeepsOthers W W'∧Ix (.goto t) W'
  | .panic _,_,_=>False
  | .outgrown,_,_=>False
theorem calls_of_wp_m {P:Program} {f:FuncId} {fn:Func} {c:Code} {args:Array Value} {w:World} {R:Ending→World→Prop}
    (hf:P.funcs[f]? =some fn) (hb:fn.body=some c)
    (h:c.wp P (bodyPostM Fence.wide 0 P fn R) {tmps:=args++Array.replicate (fn.ntmps-args.size) undef,defers:=[]} w):Calls P f args w R:=
  callsIn_wide.1 (callsIn_of_wp_marks (n:=0) hf hb trivial (wpIn_wide.2 h))
theorem postM_none {P:Program} {fn:Func} {R:Ending→World→Prop} {t:Array Value} {w:World} {v:Value} (hr:(results fn t).run P w= .ok v w) (hR:R (.returned v) w):
    bodyPostM Fence.wide 0 P fn R .ret {tmps:=t,defers:=[]} w:=by
 exact ⟨v,hr,hR⟩
theorem postM_one {P:Program} {fn:Func} {R:Ending→World→Prop} {t:Array Value} {w:World} {D:Nat} {v:Value} (hK:w.heap[D]? =some (.deferred (some [])))
    (hr:(results fn t).run P (w.putObj D (.deferred none))= .ok v (w.putObj D (.deferred none))) (hR:R (.returned v) (w.putObj D (.deferred none))):
    bodyPostM Fence.wide 0 P fn R .ret {tmps:=t,defers:=[{target:= .collected D,args:= #[]}]} w:=
  ⟨by simp,.inl ⟨_,_,rfl,run_takeDeferred hK,v,hr,hR⟩⟩
abbrev inRd (l:Nat):Fence:=Fence.wide.inRound l
structure BodyOkW (P:Program) (l:Nat) (body:Code) (B:Nat) (Kp:World→World→Prop) (I:Nat→World→Prop) (Ix:Code→World→Prop) (k:Nat) (W:World) (a1:Act) (W1:World):Prop where
 keeps:KeepsOthers W W1
 kp:Kp W W1
 body:∀W2,Calm B W1 W2→body.wpIn (inRd l) 0 P (rEnd Kp I Ix k W2) a1 W2
structure BodyOk (P:Program) (l:Nat) (body:Code) (Kp:World→World→Prop) (I:Nat→World→Prop) (Ix:Code→World→Prop) (k:Nat) (W:World) (a1:Act) (W1:World):Prop where
 same:W1=W
 body:∀W2,I k W2→body.wpIn (inRd l) 0 P (rEnd Kp I Ix k W2) a1 W2
theorem wp_range_w {P:Program} {g:Operand} {ps:Array Tmp} {assign body:Code} {Q:Exit→Act→World→Prop} {a:Act} {w:World}
    {gf:Nat} {lb:Array Value} (hg:a.eval g= .func (.func gf) #[] lb) (eg:∀args w,(callFunc gf args).run P w= .ok (.enter gf args) w)
    {xs:List (Array Value)} {Kp:World→World→Prop} {w0:World} (hseq:Iter P gf lb xs Kp w0) (hb0:Below w0.heap.size w0 w)
    (hKt:∀ {A B C:World},Kp A B→Kp B C→Kp A C) (hKb:∀(W:World) (l:Nat) (o o':Obj),w.heap.size≤l→W.heap[l]? =some o→o.isCells=false→Kp W (W.putObj l o'))
    (hps:∀x ∈ xs,x.size=ps.size)
    (I:Nat→World→Prop) (Ix:Code→World→Prop) (hI:∀k W W',I k W→Calm w.heap.size W W'→I k W') (hIx:∀c W W',Ix c W→Calm w.heap.size W W'→Ix c W') (h0:I 0 w)
    (hround:∀(l k:Nat) (W:World),w.heap.size≤l→k<xs.length→I k W→
      assign.wpIn (inRd l) 0 P (Exit.then (BodyOkW P l body w.heap.size Kp I Ix k W) (fun _ _ _=>False))
        {tmps:=(ps.zip (xs.getD k #[])).foldl (fun t (p,v)=>t.setIfInBounds p v) a.tmps,defers:=[]} W)
    (hdone:∀(D:Nat) (W:World),w.heap.size≤D→I xs.length W→W.heap[D]? =some (.deferred (some []))→Q .normal {a with defers:= {target:= .collected D,args:= #[]}::a.defers} W)
    (hstop:∀(D:Nat) (c:Code) (W:World),w.heap.size≤D→Ix c W→W.heap[D]? =some (.deferred (some []))→c.wp P Q {a with defers:= {target:= .collected D,args:= #[]}::a.defers} W):
    (Code.rangeFunc g ps assign body).wp P Q a w:=by
 refine wpIn_wide (n:=0).1 (wpIn_rangeFunc ?_);intro fn hfn;obtain ⟨rec,hrec⟩:∃rec:LoopState→Option Code→Loop,rec=fun st pe=> {state:=st,pending:=pe,fn,tmps:=a.tmps,params:=ps,assign,body,defers:=w.heap.size}:=⟨_,rfl⟩
 obtain ⟨W1,hW1⟩:∃W1,(w.alloc (.deferred (some []))).alloc (.loop (rec .ready none))=W1:=⟨_,rfl⟩
 have hL1:W1.heap[w.heap.size+1]? =some (.loop (rec .ready none)):=by
  rw [←hW1];have:=World.alloc_heap_new (w.alloc (.deferred (some []))) (.loop (rec .ready none));rwa [World.size_alloc] at this
 have hK1:W1.heap[w.heap.size]? =some (.deferred (some [])):=by
  rw [←hW1];exact (Below.heap_alloc _ _ _ xsi).trans (World.alloc_heap_new w _)
 have hI1:I 0 W1:=by rw [←hW1];exact hI _ _ _ h0 ((Calm.alloc _ (Nat.le_refl _)).trans (Calm.alloc _ xsi))
 have hb1:Below w0.heap.size w0 W1:=by
  rw [←hW1];exact hb0.trans ((((Below.refl _ w).alloc (Nat.le_refl _) _).alloc xsi _).mono hb0.size)
 have calmOf:∀ {A C:World},w.heap.size≤A.heap.size→Below A.heap.size A C→Calm w.heap.size A C:=fun hs hb=>
  ⟨hb.os,hb.tape,hb.output,hb.size,fun k hk=>hb.block k xo,fun k o hk _=>(hb.block k (Array.getElem?_eq_some_iff.1 hk).1).trans hk⟩
 refine ⟨w.heap.size+1,[{target:= .collected w.heap.size,args:= #[]}],W1,{target:= .fn (.func gf) lb,args:= #[.func (.yield (w.heap.size+1)) #[] #[]]},W1,gf,
   #[.func (.yield (w.heap.size+1)) #[] #[]]++lb,W1,?_,?_,fun _ _=>trivial,?_,fun h=>(by cases h),?_⟩
 · rw [←hW1,hrec];exact run_enterLoop_outer _ _ _ _ _
 · simp only [resolve,hg];simp [go_sem]
 · simp [invoke,go_sem,eg]
 · refine (hseq (w.heap.size+1)
     (fun k W=>I k W∧W.heap[w.heap.size+1]? =some (.loop (rec .ready none))∧W.heap[w.heap.size]? =some (.deferred (some [])))
     (fun _ W=>∃c,Ix c W∧W.heap[w.heap.size+1]? =some (.loop (rec .done (some c)))∧W.heap[w.heap.size]? =some (.deferred (some [])))
     W1 hb1 ?_ ?_ ?_ ⟨hI1,hL1,hK1⟩).mono ?_
   · rintro k A C ⟨h1,h2,h3⟩ hb;have l2:=(Array.getElem?_eq_some_iff.1 h2).1;exact ⟨hI _ _ _ h1 (calmOf xo hb),(hb.block _ l2).trans h2,(hb.block _ xo).trans h3⟩
   · rintro k A C ⟨c,h1,h2,h3⟩ hb;have l2:=(Array.getElem?_eq_some_iff.1 h2).1;exact ⟨c,hIx _ _ _ h1 (calmOf xo hb),(hb.block _ l2).trans h2,(hb.block _ xo).trans h3⟩
   · -- one round
     rintro k W hkl ⟨hi,hl,hk⟩;have hlt:w.heap.size+1<W.heap.size:=(Array.getElem?_eq_some_iff.1 hl).1;have hsz:(xs.getD k #[]).size=ps.size:=by
      rw [List.getD_eq_getElem?_getD,List.getElem?_eq_getElem hkl];exact hps _ (List.getElem_mem _)
     have hy:=run_yield (P:=P) (args:=xs.getD k #[]) hl (by rw [hrec];exact hsz);rw [hrec] at hy;refine ⟨fn,_,assign,body,hy,roundIn_of_wpIn trivial (wpIn_mono (hround _ k W xo hkl hi) ?_)⟩;intro e a1 Wa hq;cases e with
     | normal=>
      obtain ⟨hks,hkpa,hbody⟩:=hq;have hl0:=hl;have hlt0:=hlt;replace hl:Wa.heap[w.heap.size+1]? =some (.loop (rec .ready none)):=hks.same _ _ hl0 (by rfl);replace hk:Wa.heap[w.heap.size]? =some (.deferred (some [])):=hks.same _ _ hk (by rfl);replace hlt:w.heap.size+1<Wa.heap.size:=(Array.getElem?_eq_some_iff.1 hl).1;refine ⟨_,run_beginRound hl (by rw [hrec]),?_⟩;have hl2:(Wa.putObj (w.heap.size+1) (.loop {rec .ready none with state:= .busy})).heap[w.heap.size+1]? =some (.loop {rec .ready none with state:= .busy}):=World.putObj_heap_same hlt;have hk2:(Wa.putObj (w.heap.size+1) (.loop {rec .ready none with state:= .busy})).heap[w.heap.size]? =some (.deferred (some [])):=(World.putObj_heap_other xo).trans hk;have hw2:Kp Wa (Wa.putObj (w.heap.size+1) (.loop {rec .ready none with state:= .busy})):=hKb _ _ _ _ xo hl rfl;have hi2:Calm w.heap.size Wa (Wa.putObj (w.heap.size+1) (.loop {rec .ready none with state:= .busy})):=Calm.putObj _ xo hl rfl;refine wpIn_mono (hbody _ hi2) ?_;have fin:∀(jump:Option Code) (W3:World),KeepsOthers (Wa.putObj (w.heap.size+1) (.loop {rec .ready none with state:= .busy})) W3→
          (Instr.endRound (w.heap.size+1) jump).run P W3= .ok (.bool jump.isNone) (W3.putObj (w.heap.size+1) (.loop (rec (if jump.isNone then .ready else .done) jump)))∧
          W3.heap[w.heap.size+1]? =some (.loop {rec .ready none with state:= .busy})∧
          (W3.putObj (w.heap.size+1) (.loop (rec (if jump.isNone then .ready else .done) jump))).heap[w.heap.size+1]? =some (.loop (rec (if jump.isNone then .ready else .done) jump))∧
          (W3.putObj (w.heap.size+1) (.loop (rec (if jump.isNone then .ready else .done) jump))).heap[w.heap.size]? =some (.deferred (some [])):=fun jump W3 hk3=>by
       have hl3:=hk3.same _ _ hl2 rfl;have:=run_endRound (P:=P) jump hl3;rw [hrec] at this ⊢;exact ⟨this,by rw [hrec] at hl3;exact hl3,World.putObj_heap_same (Array.getElem?_eq_some_iff.1 hl3).1,(World.putObj_heap_other xo).trans (hk3.same _ _ hk2 rfl)⟩
      rintro e a3 W3 hp;cases e with
      | normal=>
       obtain ⟨hk3,hkp3,hi3⟩:=hp;obtain ⟨hr,hl3,hl4,hk4⟩:=fin none W3 hk3;exact ⟨_,_,hr,.inl ⟨rfl,⟨hI _ _ _ hi3 (Calm.putObj _ xo hl3 rfl),hl4,hk4⟩,hKt (hKt (hKt hkpa hw2) hkp3) (hKb _ _ _ _ xo hl3 rfl)⟩⟩
      | ret=>
       obtain ⟨hk3,hi3⟩:=hp;obtain ⟨hr,hl3,hl4,hk4⟩:=fin (some .ret) W3 hk3;exact ⟨_,_,hr,.inr ⟨rfl,.ret,hIx _ _ _ hi3 (Calm.putObj _ xo hl3 rfl),hl4,hk4⟩⟩
      | exit id=>
       obtain ⟨hk3,hi3⟩:=hp;obtain ⟨hr,hl3,hl4,hk4⟩:=fin (some (.exit id)) W3 hk3;exact ⟨_,_,hr,.inr ⟨rfl,.exit id,hIx _ _ _ hi3 (Calm.putObj _ xo hl3 rfl),hl4,hk4⟩⟩
      | goto t=>
       obtain ⟨hk3,hi3⟩:=hp;obtain ⟨hr,hl3,hl4,hk4⟩:=fin (some (.goto t)) W3 hk3;exact ⟨_,_,hr,.inr ⟨rfl,.goto t,hIx _ _ _ hi3 (Calm.putObj _ xo hl3 rfl),hl4,hk4⟩⟩
      | panic ch=>exact hp.elim
      | outgrown=>exact hp.elim
     | ret=>exact hq.elim
     | exit id=>exact hq.elim
     | goto t=>exact hq.elim
     | panic ch=>exact hq.elim
     | outgrown=>exact hq.elim
   · -- behind the iterator
     rintro e W2 ⟨⟨v,rfl⟩,(⟨hi,hl,hk⟩ | ⟨k,_,c,hi,hl,hk⟩)⟩
     · exact ⟨none,_,by have:=run_endLoop (P:=P) hl (by rw [hrec];simp);rw [hrec] at this;exact this,hdone _ _ (Nat.le_refl _) (hI _ _ _ hi (Calm.putObj _ xo hl rfl)) ((World.putObj_heap_other xo).trans hk)⟩
     · exact ⟨some c,_,by have:=run_endLoop (P:=P) hl (by rw [hrec];simp);rw [hrec] at this;exact this,wpIn_wide.2 (hstop _ c _ (Nat.le_refl _) (hIx _ _ _ hi (Calm.putObj _ xo hl rfl)) ((World.putObj_heap_other xo).trans hk))⟩
theorem wp_range {P:Program} {g:Operand} {ps:Array Tmp} {assign body:Code} {Q:Exit→Act→World→Prop} {a:Act} {w:World}
    {gf:Nat} {lb:Array Value} (hg:a.eval g= .func (.func gf) #[] lb) (eg:∀args w,(callFunc gf args).run P w= .ok (.enter gf args) w)
    {xs:List (Array Value)} {Kp:World→World→Prop} {w0:World} (hseq:Iter P gf lb xs Kp w0) (hb0:Below w0.heap.size w0 w)
    (hKr:∀A:World,Kp A A) (hKt:∀ {A B C:World},Kp A B→Kp B C→Kp A C) (hKb:∀(W:World) (l:Nat) (o o':Obj),w.heap.size≤l→W.heap[l]? =some o→o.isCells=false→Kp W (W.putObj l o'))
    (hps:∀x ∈ xs,x.size=ps.size)
    (I:Nat→World→Prop) (Ix:Code→World→Prop) (hI:∀k W W',I k W→Calm w.heap.size W W'→I k W') (hIx:∀c W W',Ix c W→Calm w.heap.size W W'→Ix c W') (h0:I 0 w)
    (hround:∀(l k:Nat) (W:World),w.heap.size≤l→k<xs.length→I k W→
      assign.wpIn (inRd l) 0 P (Exit.then (BodyOk P l body Kp I Ix k W) (fun _ _ _=>False))
        {tmps:=(ps.zip (xs.getD k #[])).foldl (fun t (p,v)=>t.setIfInBounds p v) a.tmps,defers:=[]} W)
    (hdone:∀(D:Nat) (W:World),w.heap.size≤D→I xs.length W→W.heap[D]? =some (.deferred (some []))→Q .normal {a with defers:= {target:= .collected D,args:= #[]}::a.defers} W)
    (hstop:∀(D:Nat) (c:Code) (W:World),w.heap.size≤D→Ix c W→W.heap[D]? =some (.deferred (some []))→c.wp P Q {a with defers:= {target:= .collected D,args:= #[]}::a.defers} W):
    (Code.rangeFunc g ps assign body).wp P Q a w:=by
 refine wp_range_w hg eg hseq hb0 hKt hKb hps I Ix hI hIx h0 (fun l k W hl hk hi=> ?_) hdone hstop;refine wpIn_mono (hround l k W hl hk hi) ?_;intro e a1 W1 h;cases e with
 | normal=>
  obtain ⟨rfl,hb⟩:=h;exact ⟨KeepsOthers.refl _,hKr _,fun W2 hc=>hb W2 (hI _ _ _ hi hc)⟩
 | ret=>exact h.elim
 | exit id=>exact h.elim
 | goto t=>exact h.elim
 | panic ch=>exact h.elim
 | outgrown=>exact h.elim
end
end Go.Proofs.YtbedhbpgnfffmaaGreat

/- Merged: Fits, OccP, RowIx, Range. -/
import Derived.Test.YtookgoidlnlckaaGreatDoorGapTellsP3
import Derived.Test.YtookgoidlnlckaaGreatDoorGapTellsP2
import Derived.BigRegion
import Derived.Lib.SliceRun
import Derived.Test.YtookgoidlnlckaaGreatDoorGapTellsP1
import Derived.RangeFuncNested
import Derived.RangeFuncBound
import Derived.RangeFuncCalls
import Derived.RangeFuncLeaves
import Derived.Shelf.Abstract
import Derived.Shelf.RegionOpen
import Derived.OwnWalkIn
import Derived.TacticsInMore
import Derived.LoopNIn
import Derived.LoopIn
namespace Go.Proofs.YtookgoidlnlckaaGreatDoor
set_option maxRecDepth 100000
set_option maxHeartbeats 40000000
set_option linter.unusedVariables false
set_option linter.unusedSimpArgs false
section
open Go.RowKit
theorem fits_ok (seg many:Int) (w:World):
    Calls Tryz.prog 49 #[.int .i64 seg,.int .i64 many] w fun e w'=>e= .returned (.bool (fitB seg many))∧w=w':=by
 by_cases c1:4≤seg
 · by_cases c2:seg≤64
   · have PW:=hid Power_ok;obtain ⟨b1,hb1⟩:∃b,pwB seg=b:=⟨_,rfl⟩
     cases b1 with
     | false=>
      have e:fitB seg many=false:=by simp [fitB,hb1]
      rw [e];clear e;go_enter Tryz.func49,Tryz.ntmps49
      go_wp2_with (go_at_call 85;refine (PW.out _ xo _).mono ?_;rintro e w' ⟨rfl,rfl⟩;rw [hb1])
      go_ret
      exact ⟨rfl,rfl⟩
     | true =>
      by_cases c4:seg≤many
      · by_cases c5:many≤65536
        · obtain ⟨r,hr⟩:∃r,many%seg=r:=⟨_,rfl⟩
          obtain ⟨q,hq⟩:∃q,many/seg=q:=⟨_,rfl⟩
          have hq2:q≤65536:=by rw [←hq];exact Int.le_trans (Int.ediv_le_self _ xo) c5
          have hq0:0≤q:=by rw [←hq];exact Int.ediv_nonneg xo xo
          have ht1:many.tmod seg=r:=by rw [Int.tmod_eq_emod_of_nonneg xo];exact hr
          have ht2:many.tdiv seg=q:=by rw [Int.tdiv_eq_ediv_of_nonneg xo];exact hq
          have hs0:(seg==0)=false:=by simp;omega
          by_cases c6:r=0
          · have e:fitB seg many=pwB q:=by simp [fitB,hb1,hr,hq,c1,c2,c4,c5,c6]
            rw [e];subst c6;clear e;go_enter Tryz.func49,Tryz.ntmps49
            go_wp2_with (go_at_call 85;refine (PW.out _ xo _).mono ?_;rintro e w' ⟨rfl,rfl⟩;try rw [hb1])
            go_ret
            exact ⟨rfl,rfl⟩
          · have e:fitB seg many=false:=by simp [fitB,hb1,hr,c6]
            rw [e];have c6':(r==0)=false:=by simpa using c6
            clear e;go_enter Tryz.func49,Tryz.ntmps49
            go_wp2_with (go_at_call 85;refine (PW.out _ xo _).mono ?_;rintro e w' ⟨rfl,rfl⟩;rw [hb1])
            go_ret
            exact ⟨rfl,rfl⟩
        · have e:fitB seg many=false:=by simp [fitB,c5]
          rw [e];clear e;go_enter Tryz.func49,Tryz.ntmps49
          go_wp2_with (go_at_call 85;refine (PW.out _ xo _).mono ?_;rintro e w' ⟨rfl,rfl⟩;rw [hb1])
          go_ret
          exact ⟨rfl,rfl⟩
      · have e:fitB seg many=false:=by simp [fitB,c4]
        rw [e];clear e;go_enter Tryz.func49,Tryz.ntmps49
        go_wp2_with (go_at_call 85;refine (PW.out _ xo _).mono ?_;rintro e w' ⟨rfl,rfl⟩;rw [hb1])
        go_ret
        exact ⟨rfl,rfl⟩
   · have e:fitB seg many=false:=by simp [fitB,c2]
     rw [e];clear e;go_enter Tryz.func49,Tryz.ntmps49
     go_wp2
     go_ret
     exact ⟨rfl,rfl⟩
 · have e:fitB seg many=false:=by simp [fitB,c1]
   rw [e];clear e;go_enter Tryz.func49,Tryz.ntmps49
   go_wp2
   go_ret
   exact ⟨rfl,rfl⟩
theorem Fits04_ok (seg many:Int) (w:World):
    Calls Tryz.prog 113 #[.int .i64 seg,.int .i64 many] w fun e w'=>e= .returned (.bool (fitB seg many))∧w=w':=by
 by_cases c1:4≤seg
 · by_cases c2:seg≤64
   · have PW:=hid Power01_ok;obtain ⟨b1,hb1⟩:∃b,pwB seg=b:=⟨_,rfl⟩
     cases b1 with
     | false=>
      have e:fitB seg many=false:=by simp [fitB,hb1]
      rw [e];clear e;go_enter Tryz.func113,Tryz.ntmps113
      go_wp2_with (go_at_call 88;refine (PW.out _ xo _).mono ?_;rintro e w' ⟨rfl,rfl⟩;rw [hb1])
      go_ret
      exact ⟨rfl,rfl⟩
     | true =>
      have hm0:seg≤many∨many<seg:=xo;by_cases c4:seg≤many
      · by_cases c5:many≤65536
        · obtain ⟨r,hr⟩:∃r,many%seg=r:=⟨_,rfl⟩
          obtain ⟨q,hq⟩:∃q,many/seg=q:=⟨_,rfl⟩
          have hq2:q≤65536:=by rw [←hq];exact Int.le_trans (Int.ediv_le_self _ xo) c5
          have hq0:0≤q:=by rw [←hq];exact Int.ediv_nonneg xo xo
          have ht1:many.tmod seg=r:=by rw [Int.tmod_eq_emod_of_nonneg xo];exact hr
          have ht2:many.tdiv seg=q:=by rw [Int.tdiv_eq_ediv_of_nonneg xo];exact hq
          have hs0:(seg==0)=false:=by simp;omega
          by_cases c6:r=0
          · have e:fitB seg many=pwB q:=by simp [fitB,hb1,hr,hq,c1,c2,c4,c5,c6]
            rw [e];subst c6;clear e;go_enter Tryz.func113,Tryz.ntmps113
            go_wp2_with (go_at_call 88;refine (PW.out _ xo _).mono ?_;rintro e w' ⟨rfl,rfl⟩;try rw [hb1])
            go_ret
            exact ⟨rfl,rfl⟩
          · have e:fitB seg many=false:=by simp [fitB,hb1,hr,c6]
            rw [e];have c6':(r==0)=false:=by simpa using c6
            clear e;go_enter Tryz.func113,Tryz.ntmps113
            go_wp2_with (go_at_call 88;refine (PW.out _ xo _).mono ?_;rintro e w' ⟨rfl,rfl⟩;rw [hb1])
            go_ret
            exact ⟨rfl,rfl⟩
        · have e:fitB seg many=false:=by simp [fitB,c5]
          rw [e];clear e;go_enter Tryz.func113,Tryz.ntmps113
          go_wp2_with (go_at_call 88;refine (PW.out _ xo _).mono ?_;rintro e w' ⟨rfl,rfl⟩;rw [hb1])
          go_ret
          exact ⟨rfl,rfl⟩
      · have e:fitB seg many=false:=by simp [fitB,c4]
        rw [e];clear e;have ht1:1≤many→many.tmod seg=many:=fun h=>by rw [Int.tmod_eq_emod_of_nonneg xo];exact Int.emod_eq_of_lt xo xo
        by_cases c7:1≤many
        · replace ht1:=ht1 c7;have c7':(many==0)=false:=by simp;omega
          have hs0:(seg==0)=false:=by simp;omega
          have c8:many≤65536:=xo;go_enter Tryz.func113,Tryz.ntmps113
          go_wp2_with (go_at_call 88;refine (PW.out _ xo _).mono ?_;rintro e w' ⟨rfl,rfl⟩;rw [hb1])
          go_ret
          exact ⟨rfl,rfl⟩
        · clear ht1;go_enter Tryz.func113,Tryz.ntmps113
          go_wp2_with (go_at_call 88;refine (PW.out _ xo _).mono ?_;rintro e w' ⟨rfl,rfl⟩;rw [hb1])
          go_ret
          exact ⟨rfl,rfl⟩
   · have e:fitB seg many=false:=by simp [fitB,c2]
     rw [e];clear e;go_enter Tryz.func113,Tryz.ntmps113
     go_wp2
     go_ret
     exact ⟨rfl,rfl⟩
 · have e:fitB seg many=false:=by simp [fitB,c1]
   rw [e];clear e;go_enter Tryz.func113,Tryz.ntmps113
   go_wp2
   go_ret
   exact ⟨rfl,rfl⟩
theorem Down_ok (n:Nat) (ni:Int) (hn:ni=n) (h0:1≤n) (h1:n≤65536) (w:World):
    Calls Tryz.prog 86 #[.int .i64 ni] w fun e w'=>e= .returned (.tuple #[.int .i64 (n.log2:Nat),.int .i64 0])∧w=w':=by
 subst hn;have hlog:n.log2≤n:=Nat.log2_le_self n;have HL:=hid hlog;clear hlog;go_enter Tryz.func86,Tryz.ntmps86
 go_wp2
 refine wp_scope_loop 0 (fun g a' w'=>w'=w∧∃b k:Nat,b=g∧b≤n∧1≤b∧k+b.log2=n.log2∧∃u:Nat→Value,a'= {tmps:= #[.int .i64 b,u 1,.int .i64 k,u 3,u 4,u 5,u 6,u 7,u 8,u 9,u 10,u 11,u 12],defers:=[]}) rfl ?_ ?_
 · rintro g a wo ⟨rfl,b,k,rfl,hbn,hb1,hk,u,rfl⟩ H hH;have hkb:k≤65536:=by have:=HL.out;omega
   by_cases h:2≤b
   · have h2:=log2_two h;have H2:=hid (And.intro h2 hk);clear h2 hk;go_wp2
     refine wp_goto ?_;refine show (0=0∧H _ _) from ⟨rfl,hH (b/2) _ _ xo ⟨rfl,b/2,k+1,rfl,by omega,by omega,by have:=H2.out;omega,frame_mk _ _ _ ?_⟩⟩
     rw [show ((b/2:Nat):Int)=(b:Int)/2 by omega,show ((k+1:Nat):Int)=(k:Int)+1 by omega];rfl
   · have h2:=log2_one (n:=b) xo;have hkl:k=n.log2:=xo;subst hkl;have hb:b=1:=xo;subst hb;clear h2 hk;go_wp2
     simp only [Exit.jump];go_ret2
     exact ⟨rfl,rfl⟩
 · intro H hH hpass;go_wp2
   refine wp_label ?_;go_step
   go_step
   refine hpass n _ _ ?_;exact ⟨rfl,n,0,rfl,Nat.le_refl _,h0,by omega,frame_mk _ _ _ rfl⟩
end
section
open Go.RowKit
def cutA (ws:List Int) (a k:Nat):Int:=if 64*k<a then cutLo (ws.getD k 0) (a-64*k) else ws.getD k 0
def cutV (ws:List Int) (a b k:Nat):Int:=if b<64*k+64 then cutHi (cutA ws a k) (64*k+64-b) else cutA ws a k
theorem cutA_bd {ws:List Int} (h:U64s ws) (a k:Nat):0≤cutA ws a k∧cutA ws a k<18446744073709551616:=by
 have:=h.get k;unfold cutA;split
 · have:=cutLo_bd (x:=ws.getD k 0) xo (a-64*k);omega
 · exact this
theorem cutV_bd {ws:List Int} (h:U64s ws) {a b k:Nat} (hb:64*k≤b):0≤cutV ws a b k∧cutV ws a b k<18446744073709551616:=by
 have:=cutA_bd h a k;unfold cutV;split
 · exact cutHi_bd this.1 this.2 xo
 · exact this
theorem bitW_at (ws:List Int) (k:Nat) {j:Nat} (hj:j<64):bitW ws (64*k+j)=bitI (ws.getD k 0) j:=by
 rw [bitW,show (64*k+j)/64=k by omega,show (64*k+j)%64=j by omega]
def inW (ws:List Int) (a b i:Nat):Bool:=bitW ws i&&(decide (a≤i)&&decide (i<b))
theorem cutV_bit {ws:List Int} (h:U64s ws) {a b k j:Nat} (hb:64*k≤b) (hj:j<64):bitI (cutV ws a b k) j=inW ws a b (64*k+j):=by
 have h1:=h.get k;have h2:=cutA_bd h a k;have e1:bitI (cutA ws a k) j=(bitW ws (64*k+j)&&decide (a≤64*k+j)):=by
  rw [bitW_at ws k hj];unfold cutA;split
  · rw [cutLo_bit h1.1];congr 1
    rw [decide_eq_decide];omega
  · rw [decide_eq_true xo,Bool.and_true]
 unfold cutV inW;split
 · rw [cutHi_bit h2.1 xo,e1,Bool.and_assoc];congr 2
   rw [decide_eq_decide];omega
 · rw [e1,decide_eq_true (by omega:64*k+j<b),Bool.and_true]
theorem popI_cutV {ws:List Int} (h:U64s ws) {a b k:Nat} (hb:64*k≤b):popI (cutV ws a b k)=(List.range 64).countP fun j=>inW ws a b (64*k+j):=by
 unfold popI;apply List.countP_congr;intro j hj;rw [List.mem_range] at hj;rw [cutV_bit h hb hj]
def cntP (ws:List Int) (a b m:Nat):Nat:=((List.range' (a/64) m).map fun k=>popI (cutV ws a b k)).sum
theorem cntP_zero (ws:List Int) (a b:Nat):cntP ws a b 0=0:=rfl
theorem cntP_succ (ws:List Int) (a b m:Nat):cntP ws a b (m+1)=cntP ws a b m+popI (cutV ws a b (a/64+m)):=by
 unfold cntP;rw [List.range'_concat,List.map_append,List.sum_append];simp
theorem cnt_blocks (g:Nat→Bool) (s:Nat) (hs:∀i,i<64*s→g i=false):∀m,(List.range (64*(s+m))).countP g=((List.range' s m).map fun k=>(List.range 64).countP fun j=>g (64*k+j)).sum:=by
 intro m;induction m with
 | zero=>
  simp only [Nat.add_zero,List.range'_zero,List.map_nil,List.sum_nil];rw [List.countP_eq_zero];intro i hi;rw [List.mem_range] at hi;simp [hs i hi]
 | succ m ih=>
  rw [show 64*(s+(m+1))=64*(s+m)+64 by omega,List.range_add,List.countP_append,ih,List.range'_concat,List.map_append,List.sum_append,List.countP_map];simp only [List.map_cons,List.map_nil,List.sum_cons,List.sum_nil,Nat.add_zero,Nat.one_mul];rfl
theorem cnt_in (ws:List Int) {a b n:Nat} (h1:a≤b) (h2:b≤n):(List.range n).countP (inW ws a b)=cntW ws a b:=by
 have e:List.range n=List.range' 0 a++(List.range' a (b-a)++List.range' b (n-b)):=by
  have e1:=List.range'_append (s:=a) (m:=b-a) (n:=n-b) (step:=1);have e2:=List.range'_append (s:=0) (m:=a) (n:=n-a) (step:=1);simp only [Nat.one_mul,Nat.zero_add] at e1 e2;rw [show a+(b-a)=b by omega,show b-a+(n-b)=n-a by omega] at e1;rw [show a+(n-a)=n by omega] at e2;rw [e1,e2,List.range_eq_range']
 rw [e,List.countP_append,List.countP_append];have z1:(List.range' 0 a).countP (inW ws a b)=0:=by
  rw [List.countP_eq_zero];intro i hi;have:=List.mem_range'_1.1 hi;simp [inW,show ¬a≤i by omega]
 have z2:(List.range' b (n-b)).countP (inW ws a b)=0:=by
  rw [List.countP_eq_zero];intro i hi;have:=List.mem_range'_1.1 hi;simp [inW,show ¬i<b by omega]
 have z3:(List.range' a (b-a)).countP (inW ws a b)=cntW ws a b:=by
  apply List.countP_congr;intro i hi;have:=List.mem_range'_1.1 hi;simp [inW,show a≤i by omega,show i<b by omega]
 omega
theorem cntP_all {ws:List Int} (h:U64s ws) {a b:Nat} (hab:a≤b):cntP ws a b ((b+63)/64-a/64)=cntW ws a b:=by
 rw [←cnt_in ws hab (show b≤64*(a/64+((b+63)/64-a/64)) by omega),cnt_blocks (inW ws a b) (a/64) (fun i hi=>by simp [inW,show ¬a≤i by omega]),cntP];congr 1
 apply List.map_congr_left;intro k hk;have:=List.mem_range'_1.1 hk;exact popI_cutV h xo
theorem cntP_le {ws:List Int} (a b m:Nat):cntP ws a b m≤64*m:=by
 induction m with
 | zero=>rw [cntP_zero];omega
 | succ m ih=>rw [cntP_succ];have:=popI_le (cutV ws a b (a/64+m));omega
def partsL (ws:List Int) (a b:Nat):List (Array Value):=(List.range' (a/64) ((b+63)/64-a/64)).map fun k=> #[.int .i64 ((64*k:Nat):Int),.int .u64 (cutV ws a b k)]
theorem partsL_length (ws:List Int) (a b:Nat):(partsL ws a b).length=(b+63)/64-a/64:=by simp [partsL]
theorem partsL_get (ws:List Int) {a b k:Nat} (h:k<(b+63)/64-a/64):(partsL ws a b).getD k #[]= #[.int .i64 ((64*(a/64+k):Nat):Int),.int .u64 (cutV ws a b (a/64+k))]:=by
 rw [List.getD_eq_getElem?_getD,partsL,List.getElem?_map,List.getElem?_eq_getElem (by simpa using h)];simp
theorem plsW_nil (ws:List Int) (a:Nat):plsW ws a a=[]:=by simp [plsW]
theorem plsW_succ {ws:List Int} {a b:Nat} (h:a≤b):plsW ws a (b+1)=plsW ws a b++if bitW ws b=true then [b] else []:=by
 unfold plsW;rw [show b+1-a=b-a+1 by omega,List.range'_concat,List.filter_append];congr 1
 rw [show a+1*(b-a)=b by omega];simp [List.filter_cons]
theorem plsW_none {ws:List Int} {a b:Nat} (h:b≤a):plsW ws a b=[]:=by simp [plsW,show b-a=0 by omega]
theorem cntW_none {ws:List Int} {a b:Nat} (h:b≤a):cntW ws a b=0:=by simp [cntW,show b-a=0 by omega]
theorem wMayB_iff {ws:List Int} (hu:U64s ws) {n:Nat} (hl:ws.length=(n+63)/64):wMayB ws n=true↔n%64=0∨ws.getD (ws.length-1) 0/2^(n%64)=0:=by
 have hg:=hu.get (ws.length-1);unfold wMayB;rw [decide_eq_true hl,Bool.true_and,List.all_eq_true];constructor
 · intro h;by_cases h0:n%64=0
   · exact .inl h0
   · right;rw [shr_zero hg.1];intro i hi;by_cases h64:i<64
     · have:=h (64*(ws.length-1)+i) (List.mem_range'_1.2 xo);rw [bitW_at _ _ h64] at this;simpa using this
     · exact bitI_high hg.2 xo
 · rintro h i hi;have hi:=List.mem_range'_1.1 hi;rcases h with h|h
   · omega
   · rw [shr_zero hg.1] at h;have:=h (i%64) xo;rw [bitW,show i/64=ws.length-1 by omega,this];rfl
end
section
open Go.RowKit
theorem infoR_int64:(Tryz.prog.info? 2).map (fun i=>(i.zero,i.size,i.bytes))=some (some (.int .i64 0),1,8):=by kernel_rfl
theorem Clone_int64 (ga:Option Addr) (gc:Nat) (xs:List Int) (w:World) (hg:IsRow .i64 w ga xs) (hl:xs.length≤100000):
    Calls Tryz.prog 106 #[.slice ga xs.length gc] w (FreshRow .i64 2 w xs):=by
 have q22:∀(w:World) (a:Option Addr) (n c n' c':Nat),(binOp .eql 25 (.slice a n c) (.slice none n' c')).run Tryz.prog w= .ok (.bool a.isNone) w:=fun w a n c n' c'=>Lib.run_eql_slice_nil w _ _ a n c n' c' Tryz.underlying25
 have HG:=hid hg;clear hg;cases ga with
 | none=>
  have hx:xs=[]:=row_none HG.out;subst hx;go_enter Tryz.func106,Tryz.ntmps106
  go_wp2
  go_ret
  exact ⟨_,rfl,World.ownsRow_nil _ _ _ _,Below.refl _ _⟩
 | some a=>
  have HN:=hid (row_news HG.out);go_enter Tryz.func106,Tryz.ntmps106
  go_wp2_with (at_builtin;refine wpl_append (.tmp 5) (.tmp 6) 25 2 (.int .i64 0) 1 8 Tryz.underlying25 infoR_int64 rfl (by decide) (by decide) w.heap.size _ 0 [] (some a) xs.length gc (xs.map (Value.int .i64)) (World.ownsRow_made w #[] 0 (Nat.le_refl _) (Nat.zero_le _) rfl) (by simp) xzc (fun ad h j u hj=>Lib.cell?_alloc_some _ (HN.out ad h j u hj)) (numCells _) xo (by simp) rfl rfl rfl rfl ?_;intro v' w1 hown hgrow _)
  go_wp2
  go_ret
  refine ⟨v',rfl,by simpa using hown,?_⟩;exact ((Below.refl _ w).alloc (Nat.le_refl _) _).grown hgrow (by simp) (by intro k hk;simp [Value.ownBlock] at hk;omega)
theorem infoR_int:(Tryz.prog.info? 3).map (fun i=>(i.zero,i.size,i.bytes))=some (some (.int .i64 0),1,8):=by kernel_rfl
theorem Clone_int (ga:Option Addr) (gc:Nat) (xs:List Int) (w:World) (hg:IsRow .i64 w ga xs) (hl:xs.length≤100000):
    Calls Tryz.prog 107 #[.slice ga xs.length gc] w (FreshRow .i64 3 w xs):=by
 have q22:∀(w:World) (a:Option Addr) (n c n' c':Nat),(binOp .eql 26 (.slice a n c) (.slice none n' c')).run Tryz.prog w= .ok (.bool a.isNone) w:=fun w a n c n' c'=>Lib.run_eql_slice_nil w _ _ a n c n' c' Tryz.underlying26
 have HG:=hid hg;clear hg;cases ga with
 | none=>
  have hx:xs=[]:=row_none HG.out;subst hx;go_enter Tryz.func107,Tryz.ntmps107
  go_wp2
  go_ret
  exact ⟨_,rfl,World.ownsRow_nil _ _ _ _,Below.refl _ _⟩
 | some a=>
  have HN:=hid (row_news HG.out);go_enter Tryz.func107,Tryz.ntmps107
  go_wp2_with (at_builtin;refine wpl_append (.tmp 5) (.tmp 6) 26 3 (.int .i64 0) 1 8 Tryz.underlying26 infoR_int rfl (by decide) (by decide) w.heap.size _ 0 [] (some a) xs.length gc (xs.map (Value.int .i64)) (World.ownsRow_made w #[] 0 (Nat.le_refl _) (Nat.zero_le _) rfl) (by simp) xzc (fun ad h j u hj=>Lib.cell?_alloc_some _ (HN.out ad h j u hj)) (numCells _) xo (by simp) rfl rfl rfl rfl ?_;intro v' w1 hown hgrow _)
  go_wp2
  go_ret
  refine ⟨v',rfl,by simpa using hown,?_⟩;exact ((Below.refl _ w).alloc (Nat.le_refl _) _).grown hgrow (by simp) (by intro k hk;simp [Value.ownBlock] at hk;omega)
theorem SameKeys_ok (a b:Option Addr) (ca cb:Nat) (xs ys:List Int) (w:World) (ha:IsRow .i64 w a xs) (hb:IsRow .i64 w b ys) (hm:xs.length≤1000000000):
    Calls Tryz.prog 43 #[.slice a xs.length ca,.slice b ys.length cb] w fun e w'=>e= .returned (.bool (decide (xs=ys)))∧∃n,w'=w.drewN n:=by
 by_cases hlen:xs.length=ys.length
 · have hl1:((xs.length:Int) != (ys.length:Int))=false:=by simp [hlen]
   have HL:=hid hlen;clear hlen;have HA:=hid ha;have HB:=hid hb;clear ha hb;go_enter Tryz.func43,Tryz.ntmps43
   go_wp2
   go_loopg [5] xs.length (fun g i wr=>∃(k n:Nat),k+g=xs.length∧i= .int .i64 k∧wr=w.drewN n∧xs.take k=ys.take k)
   case atStart=>exact ⟨0,0,by omega,rfl,rfl,by simp⟩
   case round=>
    obtain ⟨k,n,hk,rfl,rfl,ht⟩:=hrel;have HT:=hid ht;clear ht;by_cases hlt:k<xs.length
    · have hlt2 : k<ys.length:=by rw [←HL.out];exact hlt
      obtain ⟨b1,o1,x,rfl,hx,h1,_⟩:=HA.out.get hlt;obtain ⟨b2,o2,y,rfl,hy,h2,_⟩:=HB.out.get hlt2;by_cases heq:x=y
      · have he:(x != y)=false:=by simpa using heq
        have HE:=hid heq;clear heq;go_wp2
        go_quiet (fail)
        go_wp2
        go_roundg (gk-1)
        case measure=>omega
        case rel=>exact ⟨k+1,n+nq,by omega,by go_num,by simp,row_take_succ HL.out hlt HT.out (hx.out.trans (HE.out.trans hy.out.symm))⟩
      · have he : (x != y)=true:=by simpa using heq
        have HE:=hid heq;clear heq;go_wp2
        go_quiet (fail)
        go_wp2
        go_ret
        exact ⟨by have:xs≠ys:=fun h=>HE.out (by rw [←hx.out,←hy.out,h])
                  simp [this],_,World.drewN_drewN _ _ _⟩
    · go_wp2
      go_ret
      have hk2:k=xs.length:=xo;have hxy:xs=ys:=by
       have:=HT.out;rw [hk2,List.take_length,HL.out,List.take_length] at this;exact this
      exact ⟨by simp [hxy],_,rfl⟩
 · have hl1:((xs.length:Int) != (ys.length:Int))=true:=by simp;omega
   have hxy:xs≠ys:=fun h=>hlen (by rw [h])
   have HX:=hid hxy;clear ha hb hlen hxy;go_enter Tryz.func43,Tryz.ntmps43
   go_wp2
   go_ret
   exact ⟨by simp [HX.out],0,rfl⟩
theorem SameNums_ok (a b:Option Addr) (ca cb:Nat) (xs ys:List Int) (w:World) (ha:IsRow .i64 w a xs) (hb:IsRow .i64 w b ys) (hm:xs.length≤1000000000):
    Calls Tryz.prog 44 #[.slice a xs.length ca,.slice b ys.length cb] w fun e w'=>e= .returned (.bool (decide (xs=ys)))∧∃n,w'=w.drewN n:=by
 by_cases hlen:xs.length=ys.length
 · have hl1:((xs.length:Int) != (ys.length:Int))=false:=by simp [hlen]
   have HL:=hid hlen;clear hlen;have HA:=hid ha;have HB:=hid hb;clear ha hb;go_enter Tryz.func44,Tryz.ntmps44
   go_wp2
   go_loopg [5] xs.length (fun g i wr=>∃(k n:Nat),k+g=xs.length∧i= .int .i64 k∧wr=w.drewN n∧xs.take k=ys.take k)
   case atStart=>exact ⟨0,0,by omega,rfl,rfl,by simp⟩
   case round=>
    obtain ⟨k,n,hk,rfl,rfl,ht⟩:=hrel;have HT:=hid ht;clear ht;by_cases hlt:k<xs.length
    · have hlt2 : k<ys.length:=by rw [←HL.out];exact hlt
      obtain ⟨b1,o1,x,rfl,hx,h1,_⟩:=HA.out.get hlt;obtain ⟨b2,o2,y,rfl,hy,h2,_⟩:=HB.out.get hlt2;by_cases heq:x=y
      · have he:(x != y)=false:=by simpa using heq
        have HE:=hid heq;clear heq;go_wp2
        go_quiet (fail)
        go_wp2
        go_roundg (gk-1)
        case measure=>omega
        case rel=>exact ⟨k+1,n+nq,by omega,by go_num,by simp,row_take_succ HL.out hlt HT.out (hx.out.trans (HE.out.trans hy.out.symm))⟩
      · have he : (x != y)=true:=by simpa using heq
        have HE:=hid heq;clear heq;go_wp2
        go_quiet (fail)
        go_wp2
        go_ret
        exact ⟨by have:xs≠ys:=fun h=>HE.out (by rw [←hx.out,←hy.out,h])
                  simp [this],_,World.drewN_drewN _ _ _⟩
    · go_wp2
      go_ret
      have hk2:k=xs.length:=xo;have hxy:xs=ys:=by
       have:=HT.out;rw [hk2,List.take_length,HL.out,List.take_length] at this;exact this
      exact ⟨by simp [hxy],_,rfl⟩
 · have hl1:((xs.length:Int) != (ys.length:Int))=true:=by simp;omega
   have hxy:xs≠ys:=fun h=>hlen (by rw [h])
   have HX:=hid hxy;clear ha hb hlen hxy;go_enter Tryz.func44,Tryz.ntmps44
   go_wp2
   go_ret
   exact ⟨by simp [HX.out],0,rfl⟩
end
section
open Go.RowKit
structure Calm (B:Nat) (W W':World):Prop where
 os:W'.os=W.os
 tape:W'.tape=W.tape
 output:W'.output=W.output
 size:W.heap.size≤W'.heap.size
 low:∀k,k<B→W'.heap[k]? =W.heap[k]?
 cells:∀(k:Nat) (o:Obj),W.heap[k]? =some o→o.isCells=true→W'.heap[k]? =some o
theorem Calm.refl (B:Nat) (W:World):Calm B W W:=⟨rfl,rfl,rfl,Nat.le_refl _,fun _ _=>rfl,fun _ _ h _=>h⟩
theorem Calm.trans {B:Nat} {X Y Z:World} (h:Calm B X Y) (k:Calm B Y Z):Calm B X Z:=
  ⟨k.os.trans h.os,k.tape.trans h.tape,k.output.trans h.output,Nat.le_trans h.size k.size,fun i hi=>(k.low i hi).trans (h.low i hi),fun i o hi ho=>k.cells i o (h.cells i o hi ho) ho⟩
theorem Calm.mono {B B':Nat} {X Y:World} (h:Calm B X Y) (hb:B'≤B):Calm B' X Y:=⟨h.os,h.tape,h.output,h.size,fun i hi=>h.low i xo,h.cells⟩
theorem Calm.putObj {B:Nat} {W:World} {l:Nat} {o:Obj} (o':Obj) (hB:B≤l) (hl:W.heap[l]? =some o) (ho:o.isCells=false):Calm B W (W.putObj l o'):=
  ⟨rfl,rfl,rfl,by simp [World.putObj],fun k hk=>World.putObj_heap_other xo,fun k o2 hk ho2=>by
   by_cases e:k=l
   · subst e;rw [hl] at hk;cases hk;rw [ho] at ho2;cases ho2
   · exact (World.putObj_heap_other e).trans hk⟩
theorem Calm.alloc {B:Nat} {W:World} (o:Obj) (hB:B≤W.heap.size):Calm B W (W.alloc o):=
  ⟨rfl,rfl,rfl,by simp,fun k hk=>Below.heap_alloc W o k xo,fun k o2 hk _=>(Below.heap_alloc W o k (Array.getElem?_eq_some_iff.1 hk).1).trans hk⟩
theorem Calm.drew {B:Nat} {W:World}:Calm B W W.drew:=⟨rfl,rfl,rfl,Nat.le_refl _,fun _ _=>rfl,fun _ _ h _=>h⟩
theorem Calm.cell {B:Nat} {W W':World} (h:Calm B W W') {a:Addr} {v:Value} (hc:W.cell? a=some v):W'.cell? a=some v:=by
 obtain ⟨o,ho,hoc⟩:=cells_of_cell hc;rw [World.cell?_of_block (w:=W) ((h.cells _ _ ho hoc).trans ho.symm)];exact hc
theorem Calm.frozen {B:Nat} {W W':World} (h:Calm B W W') {a:Addr} {v:Value} (hc:W.cell? a=some v) {x:Bool} (hf:W.frozen? a=x):W'.frozen? a=x:=by
 obtain ⟨o,ho,hoc⟩:=cells_of_cell hc;rw [World.frozen?_of_block (w:=W) ((h.cells _ _ ho hoc).trans ho.symm)];exact hf
theorem Calm.owns {B:Nat} {W W':World} (h:Calm B W W') {base:Nat} {e:TypeId} {size:Nat} {v:Value} {n:Nat} {xs:List Value} (ho:W.ownsRow base e size v n xs):W'.ownsRow base e size v n xs:=by
 obtain ⟨h1,h2⟩:=ho;refine ⟨h1,?_⟩;rcases h2 with h2 | ⟨g,cap,cur,hv,hg,hh,r⟩
 · exact .inl h2
 · exact .inr ⟨g,cap,cur,hv,hg,h.cells _ _ hh rfl,r⟩
theorem Calm.ints {B:Nat} {W W':World} (h:Calm B W W') {a:Option Addr} {xs:List Int} (hi:IsInts W a xs):IsInts W' a xs:=by
 intro i hl;obtain ⟨b,off,ha,hlt,hc⟩:=hi i hl;exact ⟨b,off,ha,Nat.lt_of_lt_of_le hlt h.size,fun j hj=>h.cell (hc j hj)⟩
theorem Calm.below {B n:Nat} {w W W':World} (h:Calm B W W') (hn:n≤B) (hb:Below n w W):Below n w W':=
  ⟨h.os.trans hb.os,h.tape.trans hb.tape,h.output.trans hb.output,Nat.le_trans hb.size h.size,fun k hk=>(h.low k xo).trans (hb.block k hk)⟩
theorem keeps_below {W W':World} (h:Below W.heap.size W W'):KeepsOthers W W':=
  ⟨h.size,fun k o hk _=>(h.block k (Array.getElem?_eq_some_iff.1 hk).1).trans hk⟩
theorem keeps_drewN (W:World) (n:Nat):KeepsOthers W (W.drewN n):=⟨Nat.le_refl _,fun _ _ h _=>h⟩
def Iter (P:Program) (gf:Nat) (lb:Array Value) (xs:List (Array Value)) (Kp:World→World→Prop) (w:World):Prop:=
  ∀ (l:Nat) (J Jx:Nat→World→Prop) (W:World),Below w.heap.size w W→
    (∀k W1 W2,J k W1→Below W1.heap.size W1 W2→J k W2)→(∀k W1 W2,Jx k W1→Below W1.heap.size W1 W2→Jx k W2)→
    (∀k W1,k<xs.length→J k W1→YieldAt Fence.wide 0 P l (xs.getD k #[]) W1 fun e W'=>
     (e= .returned (.bool true)∧J (k+1) W'∧Kp W1 W')∨(e= .returned (.bool false)∧Jx (k+1) W'))→
    J 0 W→
    CallsIn Fence.wide 0 P gf (#[.func (.yield l) #[] #[]]++lb) W fun e W'=>(∃v,e= .returned v)∧(J xs.length W'∨∃k,k≤xs.length∧Jx k W')
theorem Iter.later {P:Program} {gf:Nat} {lb:Array Value} {xs:List (Array Value)} {Kp:World→World→Prop} {w w':World} (h:Iter P gf lb xs Kp w) (hb:Below w.heap.size w w'):Iter P gf lb xs Kp w':=
  fun l J Jx W hW hJ hJx hY h0=>h l J Jx W (hb.trans (hW.mono hb.size)) hJ hJx hY h0
def rEnd (Kp:World→World→Prop) (I:Nat→World→Prop) (Ix:Code→World→Prop) (k:Nat) (W:World):Exit→Act→World→Prop
  | .normal,_,W'=>KeepsOthers W W'∧Kp W W'∧I (k+1) W'
  | .ret,_,W'=>KeepsOthers W W'∧Ix .ret W'
  | .exit id,_,W'=>KeepsOthers W W'∧Ix (.exit id) W'
  | .goto t,_,W'=>KeepsOthers W W'∧Ix (.goto t) W'
  | .panic _,_,_=>False
  | .outgrown,_,_=>False
theorem calls_of_wp_m {P:Program} {f:FuncId} {fn:Func} {c:Code} {args:Array Value} {w:World} {R:Ending→World→Prop}
    (hf:P.funcs[f]? =some fn) (hb:fn.body=some c)
    (h:c.wp P (bodyPostM Fence.wide 0 P fn R) {tmps:=args++Array.replicate (fn.ntmps-args.size) undef,defers:=[]} w):Calls P f args w R:=
  callsIn_wide.1 (callsIn_of_wp_marks (n:=0) hf hb trivial (wpIn_wide.2 h))
theorem postM_one {P:Program} {fn:Func} {R:Ending→World→Prop} {t:Array Value} {w:World} {D:Nat} {v:Value} (hK:w.heap[D]? =some (.deferred (some [])))
    (hr:(results fn t).run P (w.putObj D (.deferred none))= .ok v (w.putObj D (.deferred none))) (hR:R (.returned v) (w.putObj D (.deferred none))):
    bodyPostM Fence.wide 0 P fn R .ret {tmps:=t,defers:=[{target:= .collected D,args:= #[]}]} w:=
  ⟨by simp,.inl ⟨_,_,rfl,run_takeDeferred hK,v,hr,hR⟩⟩
abbrev inRd (l:Nat):Fence:=Fence.wide.inRound l
structure BodyOkW (P:Program) (l:Nat) (body:Code) (B:Nat) (Kp:World→World→Prop) (I:Nat→World→Prop) (Ix:Code→World→Prop) (k:Nat) (W:World) (a1:Act) (W1:World):Prop where
 keeps:KeepsOthers W W1
 kp:Kp W W1
 body:∀W2,Calm B W1 W2→body.wpIn (inRd l) 0 P (rEnd Kp I Ix k W2) a1 W2
structure BodyOk (P:Program) (l:Nat) (body:Code) (Kp:World→World→Prop) (I:Nat→World→Prop) (Ix:Code→World→Prop) (k:Nat) (W:World) (a1:Act) (W1:World):Prop where
 same:W1=W
 body:∀W2,I k W2→body.wpIn (inRd l) 0 P (rEnd Kp I Ix k W2) a1 W2
theorem wp_range_w {P:Program} {g:Operand} {ps:Array Tmp} {assign body:Code} {Q:Exit→Act→World→Prop} {a:Act} {w:World}
    {gf:Nat} {lb:Array Value} (hg:a.eval g= .func (.func gf) #[] lb) (eg:∀args w,(callFunc gf args).run P w= .ok (.enter gf args) w)
    {xs:List (Array Value)} {Kp:World→World→Prop} {w0:World} (hseq:Iter P gf lb xs Kp w0) (hb0:Below w0.heap.size w0 w)
    (hKt:∀ {A B C:World},Kp A B→Kp B C→Kp A C) (hKb:∀(W:World) (l:Nat) (o o':Obj),w.heap.size≤l→W.heap[l]? =some o→o.isCells=false→Kp W (W.putObj l o'))
    (hps:∀x ∈ xs,x.size=ps.size)
    (I:Nat→World→Prop) (Ix:Code→World→Prop) (hI:∀k W W',I k W→Calm w.heap.size W W'→I k W') (hIx:∀c W W',Ix c W→Calm w.heap.size W W'→Ix c W') (h0:I 0 w)
    (hround:∀(l k:Nat) (W:World),w.heap.size≤l→k<xs.length→I k W→
      assign.wpIn (inRd l) 0 P (Exit.then (BodyOkW P l body w.heap.size Kp I Ix k W) (fun _ _ _=>False))
        {tmps:=(ps.zip (xs.getD k #[])).foldl (fun t (p,v)=>t.setIfInBounds p v) a.tmps,defers:=[]} W)
    (hdone:∀(D:Nat) (W:World),w.heap.size≤D→I xs.length W→W.heap[D]? =some (.deferred (some []))→Q .normal {a with defers:= {target:= .collected D,args:= #[]}::a.defers} W)
    (hstop:∀(D:Nat) (c:Code) (W:World),w.heap.size≤D→Ix c W→W.heap[D]? =some (.deferred (some []))→c.wp P Q {a with defers:= {target:= .collected D,args:= #[]}::a.defers} W):
    (Code.rangeFunc g ps assign body).wp P Q a w:=by
 refine wpIn_wide (n:=0).1 (wpIn_rangeFunc ?_);intro fn hfn;obtain ⟨rec,hrec⟩:∃rec:LoopState→Option Code→Loop,rec=fun st pe=> {state:=st,pending:=pe,fn,tmps:=a.tmps,params:=ps,assign,body,defers:=w.heap.size}:=⟨_,rfl⟩
 obtain ⟨W1,hW1⟩:∃W1,(w.alloc (.deferred (some []))).alloc (.loop (rec .ready none))=W1:=⟨_,rfl⟩
 have hL1:W1.heap[w.heap.size+1]? =some (.loop (rec .ready none)):=by
  rw [←hW1];have:=World.alloc_heap_new (w.alloc (.deferred (some []))) (.loop (rec .ready none));rwa [World.size_alloc] at this
 have hK1:W1.heap[w.heap.size]? =some (.deferred (some [])):=by
  rw [←hW1];exact (Below.heap_alloc _ _ _ (by simp)).trans (World.alloc_heap_new w _)
 have hI1:I 0 W1:=by rw [←hW1];exact hI _ _ _ h0 ((Calm.alloc _ (Nat.le_refl _)).trans (Calm.alloc _ (by simp)))
 have hb1:Below w0.heap.size w0 W1:=by
  rw [←hW1];exact hb0.trans ((((Below.refl _ w).alloc (Nat.le_refl _) _).alloc (by simp) _).mono hb0.size)
 have calmOf:∀ {A C:World},w.heap.size≤A.heap.size→Below A.heap.size A C→Calm w.heap.size A C:=fun hs hb=>
  ⟨hb.os,hb.tape,hb.output,hb.size,fun k hk=>hb.block k xo,fun k o hk _=>(hb.block k (Array.getElem?_eq_some_iff.1 hk).1).trans hk⟩
 refine ⟨w.heap.size+1,[{target:= .collected w.heap.size,args:= #[]}],W1,{target:= .fn (.func gf) lb,args:= #[.func (.yield (w.heap.size+1)) #[] #[]]},W1,gf,
   #[.func (.yield (w.heap.size+1)) #[] #[]]++lb,W1,?_,?_,fun _ _=>trivial,?_,fun h=>(by cases h),?_⟩
 · rw [←hW1,hrec];exact run_enterLoop_outer _ _ _ _ _
 · simp only [resolve,hg];simp [go_sem]
 · simp [invoke,go_sem,eg]
 · refine (hseq (w.heap.size+1)
     (fun k W=>I k W∧W.heap[w.heap.size+1]? =some (.loop (rec .ready none))∧W.heap[w.heap.size]? =some (.deferred (some [])))
     (fun _ W=>∃c,Ix c W∧W.heap[w.heap.size+1]? =some (.loop (rec .done (some c)))∧W.heap[w.heap.size]? =some (.deferred (some [])))
     W1 hb1 ?_ ?_ ?_ ⟨hI1,hL1,hK1⟩).mono ?_
   · rintro k A C ⟨h1,h2,h3⟩ hb;have l2:=(Array.getElem?_eq_some_iff.1 h2).1;exact ⟨hI _ _ _ h1 (calmOf xo hb),(hb.block _ l2).trans h2,(hb.block _ xo).trans h3⟩
   · rintro k A C ⟨c,h1,h2,h3⟩ hb;have l2:=(Array.getElem?_eq_some_iff.1 h2).1;exact ⟨c,hIx _ _ _ h1 (calmOf xo hb),(hb.block _ l2).trans h2,(hb.block _ xo).trans h3⟩
   · -- one round
     rintro k W hkl ⟨hi,hl,hk⟩;have hlt:w.heap.size+1<W.heap.size:=(Array.getElem?_eq_some_iff.1 hl).1;have hsz:(xs.getD k #[]).size=ps.size:=by
      rw [List.getD_eq_getElem?_getD,List.getElem?_eq_getElem hkl];exact hps _ (List.getElem_mem _)
     have hy:=run_yield (P:=P) (args:=xs.getD k #[]) hl (by rw [hrec];exact hsz);rw [hrec] at hy;refine ⟨fn,_,assign,body,hy,roundIn_of_wpIn trivial (wpIn_mono (hround _ k W xo hkl hi) ?_)⟩;intro e a1 Wa hq;cases e with
     | normal=>
      obtain ⟨hks,hkpa,hbody⟩:=hq;have hl0:=hl;have hlt0:=hlt;replace hl:Wa.heap[w.heap.size+1]? =some (.loop (rec .ready none)):=hks.same _ _ hl0 (by rfl);replace hk:Wa.heap[w.heap.size]? =some (.deferred (some [])):=hks.same _ _ hk (by rfl);replace hlt:w.heap.size+1<Wa.heap.size:=(Array.getElem?_eq_some_iff.1 hl).1;refine ⟨_,run_beginRound hl (by rw [hrec]),?_⟩;have hl2:(Wa.putObj (w.heap.size+1) (.loop {rec .ready none with state:= .busy})).heap[w.heap.size+1]? =some (.loop {rec .ready none with state:= .busy}):=World.putObj_heap_same hlt;have hk2:(Wa.putObj (w.heap.size+1) (.loop {rec .ready none with state:= .busy})).heap[w.heap.size]? =some (.deferred (some [])):=(World.putObj_heap_other xo).trans hk;have hw2:Kp Wa (Wa.putObj (w.heap.size+1) (.loop {rec .ready none with state:= .busy})):=hKb _ _ _ _ xo hl rfl;have hi2:Calm w.heap.size Wa (Wa.putObj (w.heap.size+1) (.loop {rec .ready none with state:= .busy})):=Calm.putObj _ xo hl rfl;refine wpIn_mono (hbody _ hi2) ?_;have fin:∀(jump:Option Code) (W3:World),KeepsOthers (Wa.putObj (w.heap.size+1) (.loop {rec .ready none with state:= .busy})) W3→
          (Instr.endRound (w.heap.size+1) jump).run P W3= .ok (.bool jump.isNone) (W3.putObj (w.heap.size+1) (.loop (rec (if jump.isNone then .ready else .done) jump)))∧
          W3.heap[w.heap.size+1]? =some (.loop {rec .ready none with state:= .busy})∧
          (W3.putObj (w.heap.size+1) (.loop (rec (if jump.isNone then .ready else .done) jump))).heap[w.heap.size+1]? =some (.loop (rec (if jump.isNone then .ready else .done) jump))∧
          (W3.putObj (w.heap.size+1) (.loop (rec (if jump.isNone then .ready else .done) jump))).heap[w.heap.size]? =some (.deferred (some [])):=fun jump W3 hk3=>by
       have hl3:=hk3.same _ _ hl2 rfl;have:=run_endRound (P:=P) jump hl3;rw [hrec] at this ⊢;exact ⟨this,by rw [hrec] at hl3;exact hl3,World.putObj_heap_same (Array.getElem?_eq_some_iff.1 hl3).1,(World.putObj_heap_other xo).trans (hk3.same _ _ hk2 rfl)⟩
      rintro e a3 W3 hp;cases e with
      | normal=>
       obtain ⟨hk3,hkp3,hi3⟩:=hp;obtain ⟨hr,hl3,hl4,hk4⟩:=fin none W3 hk3;exact ⟨_,_,hr,.inl ⟨rfl,⟨hI _ _ _ hi3 (Calm.putObj _ xo hl3 rfl),hl4,hk4⟩,hKt (hKt (hKt hkpa hw2) hkp3) (hKb _ _ _ _ xo hl3 rfl)⟩⟩
      | ret=>
       obtain ⟨hk3,hi3⟩:=hp;obtain ⟨hr,hl3,hl4,hk4⟩:=fin (some .ret) W3 hk3;exact ⟨_,_,hr,.inr ⟨rfl,.ret,hIx _ _ _ hi3 (Calm.putObj _ xo hl3 rfl),hl4,hk4⟩⟩
      | exit id=>
       obtain ⟨hk3,hi3⟩:=hp;obtain ⟨hr,hl3,hl4,hk4⟩:=fin (some (.exit id)) W3 hk3;exact ⟨_,_,hr,.inr ⟨rfl,.exit id,hIx _ _ _ hi3 (Calm.putObj _ xo hl3 rfl),hl4,hk4⟩⟩
      | goto t=>
       obtain ⟨hk3,hi3⟩:=hp;obtain ⟨hr,hl3,hl4,hk4⟩:=fin (some (.goto t)) W3 hk3;exact ⟨_,_,hr,.inr ⟨rfl,.goto t,hIx _ _ _ hi3 (Calm.putObj _ xo hl3 rfl),hl4,hk4⟩⟩
      | panic ch=>exact hp.elim
      | outgrown=>exact hp.elim
     | ret=>exact hq.elim
     | exit id=>exact hq.elim
     | goto t=>exact hq.elim
     | panic ch=>exact hq.elim
     | outgrown=>exact hq.elim
   · -- behind the iterator
     rintro e W2 ⟨⟨v,rfl⟩,(⟨hi,hl,hk⟩ | ⟨k,_,c,hi,hl,hk⟩)⟩
     · exact ⟨none,_,by have:=run_endLoop (P:=P) hl (by rw [hrec];simp);rw [hrec] at this;exact this,hdone _ _ (Nat.le_refl _) (hI _ _ _ hi (Calm.putObj _ xo hl rfl)) ((World.putObj_heap_other xo).trans hk)⟩
     · exact ⟨some c,_,by have:=run_endLoop (P:=P) hl (by rw [hrec];simp);rw [hrec] at this;exact this,wpIn_wide.2 (hstop _ c _ (Nat.le_refl _) (hIx _ _ _ hi (Calm.putObj _ xo hl rfl)) ((World.putObj_heap_other xo).trans hk))⟩
theorem wp_range {P:Program} {g:Operand} {ps:Array Tmp} {assign body:Code} {Q:Exit→Act→World→Prop} {a:Act} {w:World}
    {gf:Nat} {lb:Array Value} (hg:a.eval g= .func (.func gf) #[] lb) (eg:∀args w,(callFunc gf args).run P w= .ok (.enter gf args) w)
    {xs:List (Array Value)} {Kp:World→World→Prop} {w0:World} (hseq:Iter P gf lb xs Kp w0) (hb0:Below w0.heap.size w0 w)
    (hKr:∀A:World,Kp A A) (hKt:∀ {A B C:World},Kp A B→Kp B C→Kp A C) (hKb:∀(W:World) (l:Nat) (o o':Obj),w.heap.size≤l→W.heap[l]? =some o→o.isCells=false→Kp W (W.putObj l o'))
    (hps:∀x ∈ xs,x.size=ps.size)
    (I:Nat→World→Prop) (Ix:Code→World→Prop) (hI:∀k W W',I k W→Calm w.heap.size W W'→I k W') (hIx:∀c W W',Ix c W→Calm w.heap.size W W'→Ix c W') (h0:I 0 w)
    (hround:∀(l k:Nat) (W:World),w.heap.size≤l→k<xs.length→I k W→
      assign.wpIn (inRd l) 0 P (Exit.then (BodyOk P l body Kp I Ix k W) (fun _ _ _=>False))
        {tmps:=(ps.zip (xs.getD k #[])).foldl (fun t (p,v)=>t.setIfInBounds p v) a.tmps,defers:=[]} W)
    (hdone:∀(D:Nat) (W:World),w.heap.size≤D→I xs.length W→W.heap[D]? =some (.deferred (some []))→Q .normal {a with defers:= {target:= .collected D,args:= #[]}::a.defers} W)
    (hstop:∀(D:Nat) (c:Code) (W:World),w.heap.size≤D→Ix c W→W.heap[D]? =some (.deferred (some []))→c.wp P Q {a with defers:= {target:= .collected D,args:= #[]}::a.defers} W):
    (Code.rangeFunc g ps assign body).wp P Q a w:=by
 refine wp_range_w hg eg hseq hb0 hKt hKb hps I Ix hI hIx h0 (fun l k W hl hk hi=> ?_) hdone hstop;refine wpIn_mono (hround l k W hl hk hi) ?_;intro e a1 W1 h;cases e with
 | normal=>
  obtain ⟨rfl,hb⟩:=h;exact ⟨KeepsOthers.refl _,hKr _,fun W2 hc=>hb W2 (hI _ _ _ hi hc)⟩
 | ret=>exact h.elim
 | exit id=>exact h.elim
 | goto t=>exact h.elim
 | panic ch=>exact h.elim
 | outgrown=>exact h.elim
end
end Go.Proofs.YtookgoidlnlckaaGreatDoor

/- Merged: SlLayOk, SlFill, FillPl, Plc, LayW, Put02. -/
import Derived.Test.YtjhpblejlchhjaaGreatDoorOmMovesP8
import Derived.Laws.BitsAllLaws
import Derived.Test.YtjhpblejlchhjaaGreatDoorOmMovesP5
import Derived.Test.YtjhpblejlchhjaaGreatDoorOmMovesP7
import Derived.Deep.CutRange
import Derived.Test.YtjhpblejlchhjaaGreatDoorOmMovesP6
namespace Go.Proofs.YtjhpblejlchhjaaGreatDoor
set_option maxRecDepth 100000
set_option maxHeartbeats 40000000
set_option linter.unusedVariables false
set_option linter.unusedSimpArgs false
section
open Go.RowKit
def tkC (c:SlC) (i:Nat):SlC:=⟨c.seg,clrL c.ws i,c.ks.set i 0,c.vs.set i 0,(if bitW c.ws i=true then c.cs.set (i/c.seg.toNat) (c.cs.getD (i/c.seg.toNat) 0-1) else c.cs),c.laid⟩
def lyC (c:SlC) (i:Nat) (key val:Int):SlC:=⟨c.seg,setL (tkC c i).ws i,(tkC c i).ks.set i key,(tkC c i).vs.set i val,(tkC c i).cs.set (i/c.seg.toNat) ((tkC c i).cs.getD (i/c.seg.toNat) 0+1),IntKind.u64.wrap (c.laid+1)⟩
def okC (c:SlC):Bool:=c.ws.all (fun x=>decide (0≤x)&&decide (x<18446744073709551616))&&c.cs.all (fun x=>decide (0≤x)&&decide (x≤65535))
theorem okC_u {c:SlC} (h:okC c=true):U64s c.ws:=by
 intro x hx;simp only [okC,Bool.and_eq_true,List.all_eq_true,decide_eq_true_eq] at h;exact h.1 x hx
theorem okC_n {c:SlC} (h:okC c=true) (k:Nat):0≤c.cs.getD k 0∧c.cs.getD k 0≤65535:=by
 simp only [okC,Bool.and_eq_true,List.all_eq_true,decide_eq_true_eq] at h;rw [List.getD_eq_getElem?_getD];cases hx:c.cs[k]? with
 | none=>simp
 | some x=>simpa using h.2 x (List.mem_of_getElem? hx)
def ArrC (B:Nat) (W:World) (b g1 g2 g3 g4 k1 k2 k3 k4 lw n lc:Nat) (c:SlC):Prop:=ArrOn B W b g1 g2 g3 g4 k1 k2 k3 k4 lw n lc c.seg c.laid c.ws c.ks c.vs c.cs
theorem take_ok (w:World) (B b g1 g2 g3 g4 k1 k2 k3 k4 lw n lc i S:Nat) (c:SlC) (h:ArrC B w b g1 g2 g3 g4 k1 k2 k3 k4 lw n lc c) (hne:ArrNe b g1 g2 g3 g4) (hok:okC c=true) (hin:i<n) (hn:n≤65536) (hq:i/64<lw) (hlw:lw≤65536) (hS:c.seg=S) (hS4:4≤S) (hs:i/S<lc) (hlc:lc≤65536):
    Calls Tryz.prog 122 #[.pointer (some ⟨b,0,none⟩),.int .i64 i] w fun e W=>e= .returned (.agg #[.int .i64 (c.ks.getD i 0),.int .i64 (c.vs.getD i 0)])∧ArrC B W b g1 g2 g3 g4 k1 k2 k3 k4 lw n lc (tkC c i)∧KeptA g1 g2 g3 g4 w W:=by
 have:=slTake_ok w B b g1 g2 g3 g4 k1 k2 k3 k4 lw n lc i S c.seg c.laid c.ws c.ks c.vs c.cs h hne (okC_u hok) hin hn hq hlw hS hS4 hs hlc (fun k=>by have:=okC_n hok k;omega);have e:c.seg.toNat=S:=by rw [hS];rfl
 unfold ArrC tkC;rw [e];exact this
theorem ArrOn.blocks {B:Nat} {W:World} {b g1 g2 g3 g4 k1 k2 k3 k4 lw n lc:Nat} {seg laid:Int} {ws ks vs cs:List Int} (h:ArrOn B W b g1 g2 g3 g4 k1 k2 k3 k4 lw n lc seg laid ws ks vs cs):b<W.heap.size∧g1<W.heap.size∧g2<W.heap.size∧g3<W.heap.size∧g4<W.heap.size:=
  ⟨World.block_lt_of_cell? _ _ h.c0,(h.o1.lt g1 rfl).2,(h.o2.lt g2 rfl).2,(h.o3.lt g3 rfl).2,(h.o4.lt g4 rfl).2⟩
theorem ArrOn.below {B:Nat} {W W':World} {b g1 g2 g3 g4 k1 k2 k3 k4 lw n lc:Nat} {seg laid:Int} {ws ks vs cs:List Int} (h:ArrOn B W b g1 g2 g3 g4 k1 k2 k3 k4 lw n lc seg laid ws ks vs cs) (hb:Below W.heap.size W W'):ArrOn B W' b g1 g2 g3 g4 k1 k2 k3 k4 lw n lc seg laid ws ks vs cs:=by
 have hl:=h.blocks.1;exact ⟨(hb.cell (p:=⟨b,0,none⟩) hl).trans h.c0,(hb.cell (p:=⟨b,1,none⟩) hl).trans h.c1,(hb.cell (p:=⟨b,2,none⟩) hl).trans h.c2,(hb.cell (p:=⟨b,3,none⟩) hl).trans h.c3,(hb.cell (p:=⟨b,4,none⟩) hl).trans h.c4,(hb.cell (p:=⟨b,5,none⟩) hl).trans h.c5,(hb.frozen (p:=⟨b,5,none⟩) hl).trans h.f5,owns_below h.o1 hb,owns_below h.o2 hb,owns_below h.o3 hb,owns_below h.o4 hb⟩
theorem lay_ok (w:World) (B b g1 g2 g3 g4 k1 k2 k3 k4 lw n lc i S:Nat) (c:SlC) (key val:Int) (h:ArrC B w b g1 g2 g3 g4 k1 k2 k3 k4 lw n lc c) (hne:ArrNe b g1 g2 g3 g4) (hok:okC c=true) (hin:i<n) (hn:n≤65536) (hq:i/64<lw) (hlw:lw≤65536) (hS:c.seg=S) (hS4:4≤S) (hs:i/S<lc) (hlc:lc≤65536):
    Calls Tryz.prog 178 #[.pointer (some ⟨b,0,none⟩),.int .i64 i,.agg #[.int .i64 key,.int .i64 val]] w fun e W=>e= .returned (.tuple #[])∧ArrC B W b g1 g2 g3 g4 k1 k2 k3 k4 lw n lc (lyC c i key val)∧Kept5 b g1 g2 g3 g4 w W:=by
 have e:c.seg.toNat=S:=by rw [hS];rfl
 have hbl:=ArrOn.blocks h;have hrT:(i:Int).tmod 64=(i%64:Nat):=by rw [Int.tmod_eq_emod_of_nonneg xo];omega
 have hsI:(i:Int)/c.seg=(i/S:Nat):=by rw [hS];push_cast;rfl
 have hnx: -1≤(tkC c i).cs.getD (i/S) 0∧(tkC c i).cs.getD (i/S) 0≤65536:=by
  have hk:=okC_n hok (i/S);unfold tkC;rw [e];dsimp only;split
  · by_cases hl:i/S<c.cs.length
    · rw [set_getD hl];rw [if_pos rfl];omega
    · rw [List.getD_eq_getElem?_getD,List.getElem?_eq_none (by rw [List.length_set];omega)];simp
  · omega
 have:=slLay_core w B b g1 g2 g3 g4 k1 k2 k3 k4 lw n lc i (i/64) (i%64) (i/S) c.seg _ _ c.laid key val (tkC c i).ws (tkC c i).ks (tkC c i).vs (tkC c i).cs hbl.1 hbl.2.1 hbl.2.2.1 hbl.2.2.2.1 hbl.2.2.2.2 hin hn xo xo hrT xo hq hs hsI (by simp;omega) xo xo hlc hlw hne.n1 hne.n2 hne.n3 hne.n4 hne.n12 hne.n13 hne.n14 hne.n23 hne.n24 hne.n34 rfl rfl hnx.1 hnx.2
   (hid fun W hb=>(take_ok W B b g1 g2 g3 g4 k1 k2 k3 k4 lw n lc i S c (ArrOn.below h hb) hne hok hin hn hq hlw hS hS4 hs hlc).mono fun e' W' ⟨h1,h2,h3⟩=>⟨⟨_,h1⟩,h2,h3⟩)
 unfold ArrC lyC;rw [e];exact this
end
section
open Go.RowKit
def tks (c:SlC) (lo:Nat):Nat→SlC
  | 0=>c
  | j+1=>tkC (tks c lo j) (lo+j)
def lys (c:SlC) (ps:List Nat) (L:List (Int×Int)):Nat→SlC
  | 0=>c
  | k+1=>lyC (lys c ps L k) (ps.getD k 0) (L.getD k (0,0)).1 (L.getD k (0,0)).2
theorem tks_seg (c:SlC) (lo:Nat):∀j,(tks c lo j).seg=c.seg
  | 0=>rfl
  | j+1=>by rw [tks,tkC];exact tks_seg c lo j
theorem lys_seg (c:SlC) (ps:List Nat) (L:List (Int×Int)):∀k,(lys c ps L k).seg=c.seg
  | 0=>rfl
  | k+1=>by rw [lys,lyC];exact lys_seg c ps L k
def pvF (ps:List Nat) (lo:Nat) (k:Nat):Int:=if k=0 then (lo:Int)-1 else (ps.getD (k-1) 0:Nat)
theorem kept_below {B g1 g2 g3 g4:Nat} {w0 w W:World} (hb:Below B w0 w) (k:KeptA g1 g2 g3 g4 w W) (hB:B≤w.heap.size) (h1:B≤g1) (h2:B≤g2) (h3:B≤g3) (h4:B≤g4):Below B w0 W:=
  ⟨k.os.trans hb.os,k.tape.trans hb.tape,k.output.trans hb.output,Nat.le_trans hb.size k.size,fun q hq=>(k.block q xo xo xo xo xo).trans (hb.block q hq)⟩
theorem kept5_below {B b g1 g2 g3 g4:Nat} {w0 w W:World} (hb:Below B w0 w) (k:Kept5 b g1 g2 g3 g4 w W) (hB:B≤w.heap.size) (h0:B≤b) (h1:B≤g1) (h2:B≤g2) (h3:B≤g3) (h4:B≤g4):Below B w0 W:=
  ⟨k.os.trans hb.os,k.tape.trans hb.tape,k.output.trans hb.output,Nat.le_trans hb.size k.size,fun q hq=>(k.block q xo xo xo xo xo xo).trans (hb.block q hq)⟩
theorem owns_at {w:World} {B:Nat} {e:TypeId} {v:Value} {n:Nat} {xs:List Value} (h:w.ownsRow B e 1 v n xs) (hn:0<n):∃g k,v= .slice (some ⟨g,0,none⟩) n k∧B≤g∧g<w.heap.size:=by
 obtain ⟨h1,⟨rfl,h2⟩ | ⟨g,cap,cur,rfl,hg,hh,_⟩⟩:=h
 · omega
 · exact ⟨g,cap,rfl,hg,(Array.getElem?_eq_some_iff.1 hh).1⟩
theorem slFill_core (w:World) (seg:Int) (wa ka va ca:Option Addr) (wc kc vc cc lw n lc:Nat) (laid:Int) (c:SlC) (lo hi m S:Nat) (ps:List Nat) (L:List (Int×Int)) (pa la:Option Addr) (pc pl:Nat)
    (hseg:c.seg=seg) (hlaid:c.laid=laid) (hlw:c.ws.length=lw) (hlk:c.ks.length=n) (hlv:c.vs.length=n) (hlc:c.cs.length=lc) (h1:0<lw) (h2:0<n) (h3:0<lc) (hn:n≤65536) (hlw2:lw≤65536) (hlc2:lc≤65536) (hS:seg=S) (hS4:4≤S) (hlo:lo≤hi) (hhi:hi≤n) (hwn:n≤64*lw) (hcn:n=S*lc)
    (hps:ps.length=m) (hL:L.length=m) (hm:m≤65536) (hpv:∀k,k<m→pvF ps lo k<(ps.getD k 0:Nat)∧ps.getD k 0<hi) (hokt:∀j,j<hi-lo→okC (tks c lo j)=true) (hokl:∀k,k<m→okC (lys (tks c lo (hi-lo)) ps L k)=true)
    (HP:Hid (IsRow .i64 w pa (ints ps))) (HL:Hid (IsRow .i64 w la (prI L)))
    (PT:Hid (∀W,Below w.heap.size w W→Calls Tryz.prog 84 #[.agg #[.int .i64 seg,.slice wa lw wc,.slice ka n kc,.slice va n vc,.slice ca lc cc,.int .u64 laid],.int .i64 lo,.int .i64 hi] W (AnsB W (.int .i64 0))))
    (TW:Hid (∀W,Below w.heap.size w W→Calls Tryz.prog 56 #[.agg #[.int .i64 seg,.slice wa lw wc,.slice ka n kc,.slice va n vc,.slice ca lc cc,.int .u64 laid]] W (FreshSlN W c))):
    Calls Tryz.prog 162 #[.agg #[.int .i64 seg,.slice wa lw wc,.slice ka n kc,.slice va n vc,.slice ca lc cc,.int .u64 laid],.int .i64 lo,.int .i64 hi,.slice pa m pc,.slice la m pl] w (FreshSl2 w (lys (tks c lo (hi-lo)) ps L m) (.int .i64 0)):=by
 have HPV:=hid hpv;have HOT:=hid hokt;have HOL:=hid hokl;have HPS:=hid hps;have HLL:=hid hL;have HC:=hid (And.intro hseg (And.intro hlaid (And.intro hlw (And.intro hlk (And.intro hlv hlc)))));have HSS:=hid hS;have HCN:=hid hcn;have gm:((m:Int) != (m:Int))=false:=by simp
 have hwl:IntKind.i64.wrap ((lo:Int)-1)=(lo:Int)-1:=IntWalk.i64_in _ xo;clear hpv hokt hokl hps hL hseg hlaid hlw hlk hlv hlc hS hcn;go_enter Tryz.func162,Tryz.ntmps162
 go_wp2_with fail
 refine (PT.out _ ((br.alloc (Nat.le_refl _) _).alloc xsi _)).mono ?_;rintro e w1 ⟨rfl,hb1⟩;have hz_w1:=hb1.size;try simp only [World.size_alloc,World.size_setCell] at hz_w1
 have hh:=bc6 hb1 (au6 (al6 (b:=w.heap.size) xsi));obtain ⟨c_t0,c_t1,c_t2,c_t3,c_t4,c_t5⟩:=hh;have z_t:=blt hb1 (auz (alz (b:=w.heap.size) xsi));have hh:=bc6 hb1 (al6 (b:=w.heap.size+1) xsi);obtain ⟨c_r0,c_r1,c_r2,c_r3,c_r4,c_r5⟩:=hh;have hh:=bf6 hb1 (alz (b:=w.heap.size+1) xsi) (alf6 (b:=w.heap.size+1) xsi);obtain ⟨f_r0,f_r1,f_r2,f_r3,f_r4,f_r5⟩:=hh;have z_r:=blt hb1 (alz (b:=w.heap.size+1) xsi);have hB1:Below w.heap.size w w1:=xbel;have HB1:=hid hB1;have hz1:w.heap.size+2≤w1.heap.size:=xo;clear hb1 hB1;go_wp2
 go_loopg [13,38] m (fun gk v iv wr=>∃k:Nat,k+gk=m∧iv= .int .i64 k∧v= .int .i64 (pvF ps lo k)∧w1=wr)
 case atStart=>exact ⟨0,by omega,rfl,by simp [pvF],rfl⟩
 case round=>
  obtain ⟨k,hk,rfl,rfl,rfl⟩:=hrel;by_cases hlt:k<m
  · obtain ⟨bl,ol,x',rfl,hx',cl,zl⟩:=(HP.out.below HB1.out).get (i:=k) (by rw [ints_length,HPS.out];exact hlt);obtain ⟨x,hx⟩:∃x,ps.getD k 0=x:=⟨_,rfl⟩
    have hxx:x'=(x:Int):=by rw [←hx'.out,getD_ints,hx]
    subst hxx;have hpv:=HPV.out k hlt;rw [hx] at hpv;have HX:=hid hx;obtain ⟨pv,hpvv⟩:∃pv,pvF ps lo k=pv:=⟨_,rfl⟩
    rw [hpvv] at hpv ⊢;have g1:decide ((x:Int)≤pv)=false:=by simp;omega
    have g2:decide ((x:Int)≥hi)=false:=by simp;omega
    have HK:=hid hk;clear hx hx' hpvv hk;go_wp2
    go_roundg (gk-1)
    case measure=>have:=HK.out;omega
    case rel=>exact ⟨k+1,by have:=HK.out;omega,by go_num,by rw [pvF,if_neg xo,Nat.add_sub_cancel,HX.out],rfl⟩
  · have hkm:m=k:=xo;subst hkm;go_wp2_with fail
    refine (TW.out w1 HB1.out).mono ?_;rintro e w2 ⟨v1,v2,v3,v4,rfl,o1,o2,o3,o4,hb2,hne⟩;obtain ⟨eseg,elaid,elw,elk,elv,elc⟩:=HC.out;rw [elw] at o1;rw [elk] at o2;rw [elv] at o3;rw [elc] at o4;rw [eseg,elaid];obtain ⟨g1,k1,rfl,hg1,hg1'⟩:=owns_at o1 h1;obtain ⟨g2,k2,rfl,hg2,hg2'⟩:=owns_at o2 h2;obtain ⟨g3,k3,rfl,hg3,hg3'⟩:=owns_at o3 h2;obtain ⟨g4,k4,rfl,hg4,hg4'⟩:=owns_at o4 h3;have n23:g2≠g3:=hne g2 g3 rfl rfl;have apart:∀ {e e':TypeId} {g g' n n' k k':Nat} {xs xs':List Value},w2.ownsRow w1.heap.size e 1 (.slice (some ⟨g,0,none⟩) n k) n xs→w2.ownsRow w1.heap.size e' 1 (.slice (some ⟨g',0,none⟩) n' k') n' xs'→e≠e'→g≠g':=by
     intro e e' g g' n n' k k' xs xs' ha hb hc;rcases owns_apart ha hb hc with h|h
     · cases h
     · intro hgg;exact h (by subst hgg;rfl)
    have n12:=apart o1 o2 xdd;have n13:=apart o1 o3 xdd;have n14:=apart o1 o4 xdd;have n24:=apart o2 o4 xdd;have n34:=apart o3 o4 xdd;clear apart hne;have hz_w2:=hb2.size;have HBW:Hid (Below w1.heap.size w1 w2):=hid hb2;have HO:=hid (And.intro o1 (And.intro o2 (And.intro o3 o4)));clear o1 o2 o3 o4 hb2;go_wp2
    have hb3:Below w2.heap.size w2 (w2.alloc (.cells #[.int .i64 seg,.slice (some ⟨g1,0,none⟩) lw k1,.slice (some ⟨g2,0,none⟩) n k2,.slice (some ⟨g3,0,none⟩) n k3,.slice (some ⟨g4,0,none⟩) lc k4,.int .u64 laid] 174)):=br.alloc (Nat.le_refl _) _;have hA:ArrC w1.heap.size (w2.alloc (.cells #[.int .i64 seg,.slice (some ⟨g1,0,none⟩) lw k1,.slice (some ⟨g2,0,none⟩) n k2,.slice (some ⟨g3,0,none⟩) n k3,.slice (some ⟨g4,0,none⟩) lc k4,.int .u64 laid] 174)) w2.heap.size g1 g2 g3 g4 k1 k2 k3 k4 lw n lc c:=by
     unfold ArrC;rw [eseg,elaid];exact ⟨by (exact xcw),by (exact xcw),by (exact xcw),by (exact xcw),by (exact xcw),by (exact xcw),by (exact xcw),owns_below HO.out.1 hb3,owns_below HO.out.2.1 hb3,owns_below HO.out.2.2.1 hb3,owns_below HO.out.2.2.2 hb3⟩
    have HA:=hid hA;have hzz:(w2.alloc (.cells #[.int .i64 seg,.slice (some ⟨g1,0,none⟩) lw k1,.slice (some ⟨g2,0,none⟩) n k2,.slice (some ⟨g3,0,none⟩) n k3,.slice (some ⟨g4,0,none⟩) lc k4,.int .u64 laid] 174)).heap.size=w2.heap.size+1:=by simp
    have HB3:Hid (Below w1.heap.size w1 (w2.alloc (.cells #[.int .i64 seg,.slice (some ⟨g1,0,none⟩) lw k1,.slice (some ⟨g2,0,none⟩) n k2,.slice (some ⟨g3,0,none⟩) n k3,.slice (some ⟨g4,0,none⟩) lc k4,.int .u64 laid] 174))):=hid (HBW.out.trans (hb3.mono HBW.out.size));generalize w2.alloc (.cells #[.int .i64 seg,.slice (some ⟨g1,0,none⟩) lw k1,.slice (some ⟨g2,0,none⟩) n k2,.slice (some ⟨g3,0,none⟩) n k3,.slice (some ⟨g4,0,none⟩) lc k4,.int .u64 laid] 174)=w3 at *;have HNE:Hid (ArrNe w2.heap.size g1 g2 g3 g4):=hid ⟨by omega,by omega,by omega,by omega,n12,n13,n14,n23,n24,n34⟩;have hbb:w1.heap.size≤w2.heap.size:=HBW.out.size;have HEQ:=hid (And.intro eseg elaid);clear hA hb3 HO n12 n13 n14 n23 n24 n34 eseg elaid elw elk elv elc HBW;go_loopg [17] (hi-lo) (fun gk iv wr=>∃j:Nat,j+gk=hi-lo∧iv= .int .i64 ((lo:Int)+j)∧Hid (ArrC w1.heap.size wr w2.heap.size g1 g2 g3 g4 k1 k2 k3 k4 lw n lc (tks c lo j))∧Hid (Below w1.heap.size w1 wr)∧w2.heap.size<wr.heap.size)
    case atStart=>exact ⟨0,by omega,by simp,HA,HB3,by omega⟩
    case round=>
     obtain ⟨j,hj,rfl,HAj,HBj,hzj⟩:=hrel;by_cases hjt:lo+j<hi
     · have g5:decide ((lo:Int)+j<hi)=true:=by simp;omega
       have TK:=take_ok wr w1.heap.size w2.heap.size g1 g2 g3 g4 k1 k2 k3 k4 lw n lc (lo+j) S (tks c lo j) HAj.out HNE.out (HOT.out j xo) xo hn xo hlw2 (by rw [tks_seg,HEQ.out.1];exact HSS.out) hS4 (by have:=HCN.out;exact Nat.div_lt_of_lt_mul xo) hlc2;rw [show ((lo+j:Nat):Int)=(lo:Int)+j by omega] at TK;have TKH:=hid TK;have HJ:=hid hj;clear TK hj;go_wp2_with fail
       refine TKH.out.mono ?_;rintro e w5 ⟨rfl,hA5,hk5⟩;have hB5:=kept_below HBj.out hk5 xo hg1 hg2 hg3 hg4;have hz5:=hk5.size;have HA5:=hid hA5;have HB5:=hid hB5;clear hA5 hk5 hB5;go_wp2
       go_roundg (gk-1)
       case measure=>have:=HJ.out;omega
       case rel=>exact ⟨j+1,by have:=HJ.out;omega,congrArg _ xo,HA5,HB5,by omega⟩
     · have g5:decide ((lo:Int)+j<hi)=false:=by simp;omega
       obtain rfl:j=hi-lo:=xo;go_wp2
       generalize hi-lo=dl at *;go_loopg [68] m (fun gk iv wr=>∃k:Nat,k+gk=m∧iv= .int .i64 k∧Hid (ArrC w1.heap.size wr w2.heap.size g1 g2 g3 g4 k1 k2 k3 k4 lw n lc (lys (tks c lo dl) ps L k))∧Hid (Below w1.heap.size w1 wr)∧w2.heap.size<wr.heap.size)
       case atStart=>exact ⟨0,by omega,rfl,HAj,HBj,hzj⟩
       case round=>
        obtain ⟨k,hk,rfl,HAk,HBk,hzk⟩:=hrel;have hBk:Below w.heap.size w wr:=below_via HBk.out HB1.out xo;by_cases hkt:k<m
        · obtain ⟨bp,op,x',rfl,hx',cl,zl⟩:=(HP.out.below hBk).get (i:=k) (by rw [ints_length,HPS.out];exact hkt);obtain ⟨bl,ol,rfl,q0,q1,zq⟩:=pr_get (HL.out.below hBk) (i:=k) (by rw [HLL.out];exact hkt);obtain ⟨x,hx⟩:∃x,ps.getD k 0=x:=⟨_,rfl⟩
          have hxx:x'=(x:Int):=by rw [←hx'.out,getD_ints,hx]
          subst hxx;have hpv:=(HPV.out k hkt).2;have LY:=lay_ok wr w1.heap.size w2.heap.size g1 g2 g3 g4 k1 k2 k3 k4 lw n lc x S (lys (tks c lo dl) ps L k) (L.getD k (0,0)).1 (L.getD k (0,0)).2 HAk.out HNE.out (HOL.out k hkt) xo hn xo hlw2 (by rw [lys_seg,tks_seg,HEQ.out.1];exact HSS.out) hS4 (by have:=HCN.out;exact Nat.div_lt_of_lt_mul xo) hlc2;have LYH:Hid (Calls Tryz.prog 178 #[.pointer (some ⟨w2.heap.size,0,none⟩),.int .i64 x,.agg #[.int .i64 (L.getD k (0,0)).1,.int .i64 (L.getD k (0,0)).2]] wr fun e W=>e= .returned (.tuple #[])∧ArrC w1.heap.size W w2.heap.size g1 g2 g3 g4 k1 k2 k3 k4 lw n lc (lys (tks c lo dl) ps L (k+1))∧Kept5 w2.heap.size g1 g2 g3 g4 wr W):=hid (by rw [lys,hx];exact LY);have HK:=hid hk;generalize (L.getD k (0,0)).1=kx at *;generalize (L.getD k (0,0)).2=vx at *;clear LY hk hx hx';go_wp2_with fail
          refine LYH.out.mono ?_;rintro e w5 ⟨rfl,hA5,hk5⟩;have hB5:=kept5_below HBk.out hk5 xo xo hg1 hg2 hg3 hg4;have hz5:=hk5.size;have HA5:=hid hA5;have HB5:=hid hB5;clear hA5 hk5 hB5;go_wp2
          go_roundg (gk-1)
          case measure=>have:=HK.out;omega
          case rel=>exact ⟨k+1,by have:=HK.out;omega,by go_num,HA5,HB5,by omega⟩
        · have hkm:m=k:=xo;subst hkm;have hAe:=HAk.out;unfold ArrC at hAe;obtain ⟨e0,e1,e2,e3,e4,e5,-,p1,p2,p3,p4⟩:=hAe;have l1:=own_len p1;have l2:=own_len p2;have l3:=own_len p3;have l4:=own_len p4;generalize lys (tks c lo dl) ps L m=d at *;have hz_wr:=HBk.out.size;simp (disch:=omega) only [xcl HBk.out,xfr HBk.out] at c_t0 c_t1 c_t2 c_t3 c_t4 c_t5 c_r0 c_r1 c_r2 c_r3 c_r4 c_r5 f_r0 f_r1 f_r2 f_r3 f_r4 f_r5;replace z_t:=blt HBk.out z_t;replace z_r:=blt HBk.out z_r;have HP1:=hid p1;have HP2:=hid p2;have HP3:=hid p3;have HP4:=hid p4;clear p1 p2 p3 p4 HAk;go_wp2
          have HQ:Hid (∀q,w.heap.size+2≤q→((((((wr.setCell ⟨w.heap.size+1,0,none⟩ (.int .i64 d.seg)).setCell ⟨w.heap.size+1,1,none⟩ (.slice (some ⟨g1,0,none⟩) lw k1)).setCell ⟨w.heap.size+1,2,none⟩ (.slice (some ⟨g2,0,none⟩) n k2)).setCell ⟨w.heap.size+1,3,none⟩ (.slice (some ⟨g3,0,none⟩) n k3)).setCell ⟨w.heap.size+1,4,none⟩ (.slice (some ⟨g4,0,none⟩) lc k4)).setCell ⟨w.heap.size+1,5,none⟩ (.int .u64 d.laid)).heap[q]? =wr.heap[q]?):=hid fun q hq=>by
           rw [heap_setCell_ne _ _ _ xdo,heap_setCell_ne _ _ _ xdo,heap_setCell_ne _ _ _ xdo,heap_setCell_ne _ _ _ xdo,heap_setCell_ne _ _ _ xdo,heap_setCell_ne _ _ _ xdo]
          refine bodyPost_ret (results_ct rfl rfl (run_loadVar_many _ Tryz.underlying29 rfl xk (six_set c_r0 c_r1 c_r2 c_r3 c_r4 c_r5))) rfl ⟨_,_,_,_,rfl,?_,?_,?_,?_,?_⟩
          · rw [l1];exact owns_base (owns_heap HP1.out fun j hj=>HQ.out j (by have:=(HP1.out.lt j hj).1;omega)) xo
          · rw [l2];exact owns_base (owns_heap HP2.out fun j hj=>HQ.out j (by have:=(HP2.out.lt j hj).1;omega)) xo
          · rw [l3];exact owns_base (owns_heap HP3.out fun j hj=>HQ.out j (by have:=(HP3.out.lt j hj).1;omega)) xo
          · rw [l4];exact owns_base (owns_heap HP4.out fun j hj=>HQ.out j (by have:=(HP4.out.lt j hj).1;omega)) xo
          · exact (((((hBk.setCell xdo _).setCell xdo _).setCell xdo _).setCell xdo _).setCell xdo _).setCell xdo _
end
section
open Go Go.RowKit
theorem wrap_two {r:Nat} (hr:r<64):IntKind.u64.wrap (2^r)=((2^r:Nat):Int):=by
 have h:2^r<2^64:=Nat.pow_lt_pow_right xo hr;have e:(2:Int)^r=((2^r:Nat):Int):=by push_cast;rfl
 rw [e,IntKind.wrap_u64,Int.emod_eq_of_lt (Int.natCast_nonneg _) xo]
theorem clrX_nat {x r:Nat} (hx:x<18446744073709551616) (hr:r<64):clrX (x:Int) r=((x &&& (2^64-(2^r+1)):Nat):Int):=by
 have h:2^r<2^64:=Nat.pow_lt_pow_right xo hr;rw [clrX,wrap_two hr,u64_andNot_nat _ _ hx xo,show 18446744073709551615-2^r=2^64-(2^r+1) by omega]
theorem setX_nat {x r:Nat} (hx:x<18446744073709551616) (hr:r<64):setX (x:Int) r=((x ||| 2^r:Nat):Int):=by
 have h:2^r<2^64:=Nat.pow_lt_pow_right xo hr;rw [setX,wrap_two hr,u64_or_nat _ _ hx xo]
theorem bitI_clr {x:Int} {r:Nat} (h0:0≤x) (h1:x<18446744073709551616) (hr:r<64) (k:Nat):bitI (clrX x r) k=(bitI x k&&decide (k≠r)):=by
 obtain ⟨n,rfl⟩:=Int.eq_ofNat_of_zero_le h0;have h:2^r<2^64:=Nat.pow_lt_pow_right xo hr;rw [clrX_nat xo hr,bitI_nat,bitI_nat,Nat.testBit_and,Nat.testBit_two_pow_sub_succ h,Nat.testBit_two_pow];by_cases hk:k<64
 · by_cases hkr:r=k
   · subst hkr;simp
   · have:k≠r:=fun e=>hkr e.symm
     simp [hk,hkr,this]
 · have:n.testBit k=false:=by
     have:=bitI_high (x:=(n:Int)) h1 (k:=k) xo;rwa [bitI_nat] at this
   simp [this]
theorem bitI_set {x:Int} {r:Nat} (h0:0≤x) (h1:x<18446744073709551616) (hr:r<64) (k:Nat):bitI (setX x r) k=(bitI x k||decide (k=r)):=by
 obtain ⟨n,rfl⟩:=Int.eq_ofNat_of_zero_le h0;rw [setX_nat xo hr,bitI_nat,bitI_nat,Nat.testBit_or,Nat.testBit_two_pow];by_cases hkr:r=k
 · subst hkr;simp
 · have:k≠r:=fun e=>hkr e.symm
   simp [hkr,this]
theorem clrX_bd {x:Int} {r:Nat} (h0:0≤x) (h1:x<18446744073709551616) (hr:r<64):0≤clrX x r∧clrX x r<18446744073709551616:=by
 obtain ⟨n,rfl⟩:=Int.eq_ofNat_of_zero_le h0;rw [clrX_nat xo hr];have:=Nat.and_le_left (n:=n) (m:=2^64-(2^r+1));omega
theorem setX_bd {x:Int} {r:Nat} (h0:0≤x) (h1:x<18446744073709551616) (hr:r<64):0≤setX x r∧setX x r<18446744073709551616:=by
 obtain ⟨n,rfl⟩:=Int.eq_ofNat_of_zero_le h0;rw [setX_nat xo hr];have h:2^r<2^64:=Nat.pow_lt_pow_right xo hr;have:=Nat.or_lt_two_pow (x:=n) (y:=2^r) (n:=64) xo h;omega
theorem getD_set_at (l:List Int) (i j:Nat) (v:Int):(l.set i v).getD j 0=if i=j∧i<l.length then v else l.getD j 0:=by
 rw [List.getD_eq_getElem?_getD,List.getD_eq_getElem?_getD,List.getElem?_set];by_cases h:i=j
 · subst h;by_cases h2:i<l.length
   · simp [h2]
   · simp [h2]
 · simp [h]
theorem bitW_clr {ws:List Int} (hu:U64s ws) {i:Nat} (hi:i/64<ws.length) (j:Nat):bitW (clrL ws i) j=(bitW ws j&&decide (j≠i)):=by
 have hg:=hu.get (i/64);rw [bitW,clrL,getD_set_at];by_cases h:i/64=j/64
 · rw [if_pos ⟨h,hi⟩,bitI_clr hg.1 hg.2 (Nat.mod_lt _ xo),h,bitW];congr 1
   rw [decide_eq_decide];omega
 · rw [if_neg (fun q=>h q.1),bitW];have:j≠i:=fun e=>h (by rw [e])
   simp [this]
theorem bitW_set {ws:List Int} (hu:U64s ws) {i:Nat} (hi:i/64<ws.length) (j:Nat):bitW (setL ws i) j=(bitW ws j||decide (j=i)):=by
 have hg:=hu.get (i/64);rw [bitW,setL,getD_set_at];by_cases h:i/64=j/64
 · rw [if_pos ⟨h,hi⟩,bitI_set hg.1 hg.2 (Nat.mod_lt _ xo),h,bitW];congr 1
   rw [decide_eq_decide];omega
 · rw [if_neg (fun q=>h q.1),bitW];have:j≠i:=fun e=>h (by rw [e])
   simp [this]
theorem U64s_clr {ws:List Int} (hu:U64s ws) (i:Nat):U64s (clrL ws i):=by
 intro x hx;rcases List.mem_or_eq_of_mem_set hx with h|rfl
 · exact hu x h
 · have hg:=hu.get (i/64);exact clrX_bd hg.1 hg.2 (Nat.mod_lt _ xo)
theorem U64s_set {ws:List Int} (hu:U64s ws) (i:Nat):U64s (setL ws i):=by
 intro x hx;rcases List.mem_or_eq_of_mem_set hx with h|rfl
 · exact hu x h
 · have hg:=hu.get (i/64);exact setX_bd hg.1 hg.2 (Nat.mod_lt _ xo)
theorem set_getD_self (l:List Int) (i:Nat):l.set i (l.getD i 0)=l:=by
 apply List.ext_getElem? fun j=> ?_
 rw [List.getElem?_set];by_cases h:i=j
 · subst h;rw [if_pos rfl];by_cases h2:i<l.length
   · simp [h2,List.getD_eq_getElem?_getD]
   · rw [if_neg h2,List.getElem?_eq_none xo]
 · rw [if_neg h]
theorem clrL_same {ws:List Int} (hu:U64s ws) {i:Nat} (hb:bitW ws i=false):clrL ws i=ws:=by
 have hg:=hu.get (i/64);have hr:i%64<64:=Nat.mod_lt _ xo;have hc:=clrX_bd hg.1 hg.2 hr;rw [clrL];have:clrX (ws.getD (i/64) 0) (i%64)=ws.getD (i/64) 0:=by
  apply int_eq_of_bits hc.1 hg.1;intro k;rw [bitI_clr hg.1 hg.2 hr];by_cases hk:k=i%64
  · subst hk;rw [bitW] at hb;rw [hb];rfl
  · simp [hk]
 rw [this,set_getD_self]
theorem countP_flip {p q:Nat→Bool} {i:Nat} (hp:p i=true) (hq:q i=false) (he:∀j,j≠i→q j=p j):∀(d a:Nat),(List.range' a d).countP p=(List.range' a d).countP q+if a≤i∧i<a+d then 1 else 0:=by
 intro d;induction d with
 | zero=>intro a;simp
 | succ d ih=>
  intro a;rw [List.range'_succ,List.countP_cons,List.countP_cons,ih (a+1)];by_cases h:a=i
  · subst h;have e1:¬(a+1≤a∧a<a+1+d):=xo;have e2:a≤a∧a<a+(d+1):=xo;rw [hp,hq,if_neg e1,if_pos e2];simp
  · rw [he a h];by_cases h2:a+1≤i∧i<a+1+d
    · have e2:a≤i∧i<a+(d+1):=xo;rw [if_pos h2,if_pos e2];omega
    · have e2:¬(a≤i∧i<a+(d+1)):=xo;rw [if_neg h2,if_neg e2];omega
theorem cntW_clr {ws:List Int} (hu:U64s ws) {i:Nat} (hi:i/64<ws.length) (hb:bitW ws i=true) (a b:Nat):cntW ws a b=cntW (clrL ws i) a b+if a≤i∧i<b then 1 else 0:=by
 rw [cntW,cntW,countP_flip (p:=bitW ws) (q:=bitW (clrL ws i)) hb (by rw [bitW_clr hu hi];simp) (fun j hj=>by rw [bitW_clr hu hi];simp [hj])];congr 1
 by_cases h:a≤i∧i<b
 · rw [if_pos xo,if_pos h]
 · rw [if_neg xo,if_neg h]
theorem cntW_set {ws:List Int} (hu:U64s ws) {i:Nat} (hi:i/64<ws.length) (hb:bitW ws i=false) (a b:Nat):cntW (setL ws i) a b=cntW ws a b+if a≤i∧i<b then 1 else 0:=by
 rw [cntW,cntW,countP_flip (p:=bitW (setL ws i)) (q:=bitW ws) (by rw [bitW_set hu hi];simp) hb (fun j hj=>by rw [bitW_set hu hi];simp [hj])];congr 1
 by_cases h:a≤i∧i<b
 · rw [if_pos xo,if_pos h]
 · rw [if_neg xo,if_neg h]
structure SlGd (c:SlC) (S lw n lc:Nat):Prop where
 seg:c.seg=S
 elw:c.ws.length=lw
 elk:c.ks.length=n
 elv:c.vs.length=n
 elc:c.cs.length=lc
 s4:4≤S
 s64:S≤64
 cn:n=S*lc
 wn:n≤64*lw
 n1:1≤n
 nm:n≤65536
 u:U64s c.ws
 cnt:∀k,k<lc→c.cs.getD k 0=(cntW c.ws (k*S) ((k+1)*S):Int)
 hi:∀i,n≤i→bitW c.ws i=false
 clr:∀i,bitW c.ws i=false→c.ks.getD i 0=0∧c.vs.getD i 0=0
theorem SlGd.ok {c:SlC} {S lw n lc:Nat} (h:SlGd c S lw n lc):okC c=true:=by
 simp only [okC,Bool.and_eq_true,List.all_eq_true,decide_eq_true_eq];refine ⟨fun x hx=>h.u x hx,fun x hx=> ?_⟩;obtain ⟨k,hk,rfl⟩:=List.mem_iff_getElem.1 hx;have:=h.cnt k (by rw [←h.elc];exact hk);rw [List.getD_eq_getElem?_getD,List.getElem?_eq_getElem hk,Option.getD_some] at this;have h2:=cntW_le c.ws (k*S) ((k+1)*S);rw [show (k+1)*S-k*S=S by rw [Nat.succ_mul];omega] at h2;have:=h.s64;omega
theorem seg_in {S i k:Nat} (hS:4≤S):(k*S≤i∧i<(k+1)*S)↔i/S=k:=by
 constructor
 · rintro ⟨h1,h2⟩;apply Nat.le_antisymm
   · exact Nat.le_of_lt_succ ((Nat.div_lt_iff_lt_mul xo).2 h2)
   · exact (Nat.le_div_iff_mul_le xo).2 h1
 · rintro rfl;exact ⟨Nat.div_mul_le_self _ _,by rw [Nat.succ_mul];have e:=Nat.div_add_mod i S;have:=Nat.mod_lt i (show 0<S by omega);rw [Nat.mul_comm] at e;omega⟩
theorem SlGd.tk {c:SlC} {S lw n lc:Nat} (h:SlGd c S lw n lc) {i:Nat} (hi:i<n):SlGd (tkC c i) S lw n lc:=by
 have hq:i/64<c.ws.length:=by rw [h.elw];have:=h.wn;omega
 have hs:i/S<lc:=(Nat.div_lt_iff_lt_mul (by have:=h.s4;omega)).2 (by rw [Nat.mul_comm,←h.cn];exact hi);have hseg:c.seg.toNat=S:=by rw [h.seg];rfl
 refine ⟨h.seg,?_,?_,?_,?_,h.s4,h.s64,h.cn,h.wn,h.n1,h.nm,U64s_clr h.u i,?_,?_,?_⟩
 · simp [tkC,clrL,h.elw]
 · simp [tkC,h.elk]
 · simp [tkC,h.elv]
 · simp only [tkC];split
   · rw [List.length_set];exact h.elc
   · exact h.elc
 · intro k hk;simp only [tkC];rw [hseg];cases hb:bitW c.ws i with
   | true=>
    have e:=cntW_clr h.u hq hb (k*S) ((k+1)*S);rw [if_pos rfl,getD_set_at,h.elc];by_cases hki:i/S=k
    · subst hki;rw [if_pos ((seg_in h.s4).2 rfl)] at e;rw [if_pos ⟨rfl,hk⟩,h.cnt _ hk,e];omega
    · rw [if_neg (fun q=>hki ((seg_in h.s4).1 q))] at e;rw [if_neg (fun q=>hki q.1),h.cnt _ hk,e];omega
   | false=>
    rw [if_neg xdd,clrL_same h.u hb,h.cnt k hk]
 · intro j hj;simp only [tkC];rw [bitW_clr h.u hq,h.hi j hj];rfl
 · intro j hj;simp only [tkC] at hj ⊢;rw [bitW_clr h.u hq] at hj;rw [getD_set_at,getD_set_at,h.elk,h.elv];by_cases hji:i=j
   · subst hji;simp [hi]
   · rw [if_neg (fun q=>hji q.1),if_neg (fun q=>hji q.1)];apply h.clr;have:j≠i:=fun e=>hji e.symm
     simpa [this] using hj
theorem tk_bit {c:SlC} {S lw n lc:Nat} (h:SlGd c S lw n lc) {i:Nat} (hi:i<n) (j:Nat):bitW (tkC c i).ws j=(bitW c.ws j&&decide (j≠i)):=
  bitW_clr h.u (by rw [h.elw];have:=h.wn;omega) j
theorem SlGd.ly {c:SlC} {S lw n lc:Nat} (h:SlGd c S lw n lc) {i:Nat} (hi:i<n) (key val:Int):SlGd (lyC c i key val) S lw n lc:=by
 have g:=h.tk hi;have hq:i/64<(tkC c i).ws.length:=by rw [g.elw];have:=h.wn;omega
 have hseg:c.seg.toNat=S:=by rw [h.seg];rfl
 have hb:bitW (tkC c i).ws i=false:=by rw [tk_bit h hi];simp
 have hs:i/S<lc:=(Nat.div_lt_iff_lt_mul (by have:=h.s4;omega)).2 (by rw [Nat.mul_comm,←h.cn];exact hi);refine ⟨h.seg,?_,?_,?_,?_,h.s4,h.s64,h.cn,h.wn,h.n1,h.nm,U64s_set g.u i,?_,?_,?_⟩
 · simp only [lyC,setL,List.length_set];exact g.elw
 · simp only [lyC,List.length_set];exact g.elk
 · simp only [lyC,List.length_set];exact g.elv
 · simp only [lyC,List.length_set];exact g.elc
 · intro k hk;simp only [lyC];rw [hseg];have e:=cntW_set g.u hq hb (k*S) ((k+1)*S);rw [getD_set_at,g.elc,e];by_cases hki:i/S=k
   · subst hki;rw [if_pos ⟨rfl,hk⟩,if_pos ((seg_in h.s4).2 rfl),g.cnt _ hk];push_cast
     rfl
   · rw [if_neg (fun q=>hki q.1),if_neg (fun q=>hki ((seg_in h.s4).1 q)),g.cnt _ hk];simp
 · intro j hj;simp only [lyC];rw [bitW_set g.u hq,g.hi j hj];simp;omega
 · intro j hj;simp only [lyC] at hj ⊢;rw [bitW_set g.u hq] at hj;have hji:¬i=j:=by
    intro e;subst e;simp at hj
   rw [getD_set_at,getD_set_at,if_neg (fun q=>hji q.1),if_neg (fun q=>hji q.1)];apply g.clr;simp only [Bool.or_eq_false_iff] at hj;exact hj.1
theorem ly_bit {c:SlC} {S lw n lc:Nat} (h:SlGd c S lw n lc) {i:Nat} (hi:i<n) (key val:Int) (j:Nat):bitW (lyC c i key val).ws j=(bitW c.ws j||decide (j=i)):=by
 have g:=h.tk hi;simp only [lyC];rw [bitW_set g.u (by rw [g.elw];have:=h.wn;omega),tk_bit h hi];by_cases hj:j=i
 · simp [hj]
 · simp [hj]
theorem SlGd.tks {c:SlC} {S lw n lc lo:Nat} (h:SlGd c S lw n lc):∀j,lo+j≤n→SlGd (tks c lo j) S lw n lc
  | 0,_=>h
  | j+1,hj=>(SlGd.tks h j xo).tk xo
theorem tks_bit {c:SlC} {S lw n lc lo:Nat} (h:SlGd c S lw n lc) (i:Nat):∀j,lo+j≤n→bitW (Go.Proofs.YtjhpblejlchhjaaGreatDoor.tks c lo j).ws i=(bitW c.ws i&& !(decide (lo≤i)&&decide (i<lo+j)))
  | 0,_=>by
   have:(decide (lo≤i)&&decide (i<lo+0))=false:=by simp
   rw [this];simp [Go.Proofs.YtjhpblejlchhjaaGreatDoor.tks]
  | j+1,hj=>by
   rw [Go.Proofs.YtjhpblejlchhjaaGreatDoor.tks,tk_bit (h.tks j xo) xo,tks_bit h i j xo];by_cases hi:i=lo+j
   · subst hi;simp
   · have e:(decide (i<lo+(j+1)))=decide (i<lo+j):=by rw [decide_eq_decide];omega
     rw [e];simp [hi]
theorem SlGd.lys {c:SlC} {S lw n lc:Nat} (h:SlGd c S lw n lc) {ps:List Nat} (hp:∀k,ps.getD k 0<n) (L:List (Int×Int)):∀k,SlGd (lys c ps L k) S lw n lc
  | 0=>h
  | k+1=>(SlGd.lys h hp L k).ly (hp k) _ _
theorem lys_bit {c:SlC} {S lw n lc:Nat} (h:SlGd c S lw n lc) {ps:List Nat} (hp:∀k,ps.getD k 0<n) (L:List (Int×Int)) (i:Nat):∀k,bitW (Go.Proofs.YtjhpblejlchhjaaGreatDoor.lys c ps L k).ws i=true↔bitW c.ws i=true∨∃j,j<k∧ps.getD j 0=i
  | 0=>by simp [Go.Proofs.YtjhpblejlchhjaaGreatDoor.lys]
  | k+1=>by
   rw [Go.Proofs.YtjhpblejlchhjaaGreatDoor.lys,ly_bit (h.lys hp L k) (hp k),Bool.or_eq_true,lys_bit h hp L i k,decide_eq_true_eq];constructor
   · rintro ((h1 | ⟨j,h1,h2⟩)|h1)
     · exact Or.inl h1
     · exact Or.inr ⟨j,by omega,h2⟩
     · exact Or.inr ⟨k,by omega,h1.symm⟩
   · rintro (h1 | ⟨j,h1,h2⟩)
     · exact Or.inl (Or.inl h1)
     · rcases Nat.lt_or_ge j k with q|q
       · exact Or.inl (Or.inr ⟨j,q,h2⟩)
       · obtain rfl:j=k:=xo;exact Or.inr h2.symm
theorem slMay_gd {c:SlC} (hu:U64s c.ws) (h:slMay c=true):∃S M:Nat,SlGd c S ((S*M+63)/64) (S*M) M∧pwB (S:Int)=true∧pwB (M:Int)=true∧1≤M:=by
 have hm:=h;simp only [slMay,Bool.and_eq_true] at h;obtain ⟨⟨h5,h6⟩,h7⟩:=h;obtain ⟨S,M,e1,b1,b2,b3,b4,b5,b6,b7,b8,b9,p1,p2,b10⟩:=slHead_facts h5;have hn1:1≤S*M:=Nat.mul_pos xo b6;refine ⟨S,M,⟨e1,b9,b3,b4,b5,b1,b2,rfl,by omega,hn1,b7,hu,?_,b10,?_⟩,p1,p2,b6⟩
 · intro k hk;have:=List.all_eq_true.1 h7 k (List.mem_range.2 (by rw [b5];exact hk));rw [beq_iff_eq,e1,Int.toNat_natCast] at this;exact this
 · intro i hi;rcases Nat.lt_or_ge i c.ks.length with q|q
   · have:=List.all_eq_true.1 h6 i (List.mem_range.2 q);rw [hi,Bool.false_or,Bool.and_eq_true,beq_iff_eq,beq_iff_eq] at this;exact this
   · rw [List.getD_eq_getElem?_getD,List.getD_eq_getElem?_getD,List.getElem?_eq_none q,List.getElem?_eq_none xo];exact ⟨rfl,rfl⟩
def plF (n lo hi k:Nat):Nat:=lo+k*(hi-lo)/n
def plR (n lo hi:Nat):List Nat:=(List.range n).map (plF n lo hi)
theorem plR_length (n lo hi:Nat):(plR n lo hi).length=n:=by simp [plR]
theorem plR_get {n lo hi k:Nat} (h:k<n):(plR n lo hi).getD k 0=plF n lo hi k:=by
 rw [List.getD_eq_getElem?_getD,plR,List.getElem?_map,List.getElem?_range h];rfl
theorem plF_step {n lo hi:Nat} (k:Nat) (h0:0<n) (h:n≤hi-lo):plF n lo hi k<plF n lo hi (k+1):=by
 unfold plF;have:k*(hi-lo)/n+1≤(k+1)*(hi-lo)/n:=by
  rw [←Nat.add_div_right _ h0,Nat.succ_mul];exact Nat.div_le_div_right xo
 omega
theorem plF_mono {n lo hi:Nat} (h0:0<n) (h:n≤hi-lo) (j:Nat):∀d,plF n lo hi j<plF n lo hi (j+(d+1))
  | 0=>plF_step j h0 h
  | d+1=>Nat.lt_trans (plF_mono h0 h j d) (plF_step _ h0 h)
theorem plF_lt {n lo hi k:Nat} (hk:k<n) (h:n≤hi-lo):plF n lo hi k<hi:=by
 unfold plF;have:k*(hi-lo)/n<hi-lo:=by
  rw [Nat.div_lt_iff_lt_mul xo,Nat.mul_comm];exact (Nat.mul_lt_mul_left xo).2 hk
 omega
theorem plR_pv {n lo hi k:Nat} (hk:k<n) (h:n≤hi-lo):pvF (plR n lo hi) lo k<((plR n lo hi).getD k 0:Nat)∧(plR n lo hi).getD k 0<hi:=by
 rw [plR_get hk];refine ⟨?_,plF_lt hk h⟩;unfold pvF;split
 · have:lo≤plF n lo hi k:=Nat.le_add_right _ _;omega
 · rw [plR_get xo];have:=plF_step (lo:=lo) (k-1) xo h;rw [show k-1+1=k by omega] at this;omega
theorem plR_ltn {n lo hi N:Nat} (h:n≤hi-lo) (hh:hi≤N) (hN:0<N) (k:Nat):(plR n lo hi).getD k 0<N:=by
 rcases Nat.lt_or_ge k n with q|q
 · rw [plR_get q];have:=plF_lt (lo:=lo) q h;omega
 · rw [List.getD_eq_getElem?_getD,List.getElem?_eq_none (by rw [plR_length];exact q)];exact hN
def spC (c:SlC) (lo hi:Nat) (L:List (Int×Int)):SlC:=lys (tks c lo (hi-lo)) (plR L.length lo hi) L L.length
theorem SlGd.sp {c:SlC} {S lw n lc lo hi:Nat} (h:SlGd c S lw n lc) (hlo:lo≤hi) (hh:hi≤n) {L:List (Int×Int)} (hL:L.length≤hi-lo):SlGd (spC c lo hi L) S lw n lc:=
  SlGd.lys (h.tks (hi-lo) xo) (fun k=>plR_ltn hL hh (by have:=h.n1;omega) k) L _
theorem lys_free {c:SlC} {S lw n lc lo hi:Nat} (h:SlGd c S lw n lc) (hlo:lo≤hi) (hh:hi≤n) {L:List (Int×Int)} (hL:L.length≤hi-lo) {k:Nat} (hk:k<L.length):bitW (lys (tks c lo (hi-lo)) (plR L.length lo hi) L k).ws ((plR L.length lo hi).getD k 0)=false:=by
 rw [Bool.eq_false_iff];intro hb;have hn:=h.n1;rcases (lys_bit (h.tks (hi-lo) xo) (fun k=>plR_ltn hL hh xo k) L _ k).1 hb with q | ⟨j,hj,q⟩
 · rw [tks_bit h _ _ xo,Bool.and_eq_true] at q;have h1:=plR_pv (lo:=lo) hk hL;have h2:lo≤(plR L.length lo hi).getD k 0:=by
    rw [plR_get hk];exact Nat.le_add_right _ _
   have:(decide (lo≤(plR L.length lo hi).getD k 0)&&decide ((plR L.length lo hi).getD k 0<lo+(hi-lo)))=true:=by
    rw [Bool.and_eq_true,decide_eq_true_eq,decide_eq_true_eq];omega
   rw [this] at q;simp at q
 · rw [plR_get hk,plR_get xo] at q;have:=plF_mono (lo:=lo) xo hL j (k-j-1);rw [show j+(k-j-1+1)=k by omega] at this;omega
theorem zero_gd {S M lw:Nat} (h4:4≤S) (h6:S≤64) (hM:1≤M) (hm:S*M≤65536) (hl:lw=(S*M+63)/64):SlGd (zeroSl S (S*M) lw M) S lw (S*M) M:=by
 have z:∀m i,(List.replicate m (0:Int)).getD i 0=0:=fun m i=>by
  rw [List.getD_eq_getElem?_getD,List.getElem?_replicate];split<;>rfl
 have zb:∀i,bitW (zeroSl S (S*M) lw M).ws i=false:=fun i=>by
  rw [bitW,zeroSl];dsimp only;rw [z];exact bitI_zero _
 have zc:∀a d,(List.range' a d).countP (bitW (zeroSl S (S*M) lw M).ws)=0:=fun a d=>by
  rw [List.countP_eq_zero];intro i _;rw [zb i];decide
 have hn1:1≤S*M:=Nat.mul_pos xo hM;refine ⟨rfl,by simp [zeroSl],by simp [zeroSl],by simp [zeroSl],by simp [zeroSl],h4,h6,rfl,by omega,hn1,hm,?_,?_,fun i _=>zb i,?_⟩
 · intro x hx;obtain ⟨-,rfl⟩:=List.mem_replicate.1 hx;omega
 · intro k hk;rw [cntW,zc];simp only [zeroSl];rw [z];rfl
 · intro i _;exact ⟨z _ _,z _ _⟩
end
section
open Go.RowKit Go.Shelf
attribute [local go_sem] Oper.semAt_some
def intsA (l:List Int):List (Array Value):=l.map fun x=> #[.int .i64 x]
theorem intsA_length (l:List Int):(intsA l).length=l.length:=by simp [intsA]
theorem intsA_get {l:List Int} {k:Nat} (h:k<l.length):(intsA l).getD k #[]= #[.int .i64 (l.getD k 0)]:=by
 simp [intsA,List.getD_eq_getElem?_getD,List.getElem?_eq_getElem h]
theorem take_succ_int {l:List Int} {k:Nat} (h:k<l.length):l.take (k+1)=l.take k++[l.getD k 0]:=by
 rw [List.take_succ_eq_append_getElem h];simp [List.getD_eq_getElem?_getD,List.getElem?_eq_getElem h]
structure PlBox (W:World) (b1 b2 b3:Nat) (m lo hi:Nat):Prop where
 n:W.cell? ⟨b1,0,none⟩=some (.int .i64 m)
 lo:W.cell? ⟨b2,0,none⟩=some (.int .i64 lo)
 hi:W.cell? ⟨b3,0,none⟩=some (.int .i64 hi)
theorem PlBox.below {W W':World} {b1 b2 b3 m lo hi:Nat} (h:PlBox W b1 b2 b3 m lo hi) (hb:Below W.heap.size W W'):PlBox W' b1 b2 b3 m lo hi:=
  ⟨(hb.cell (World.block_lt_of_cell? _ _ h.n)).trans h.n,(hb.cell (World.block_lt_of_cell? _ _ h.lo)).trans h.lo,(hb.cell (World.block_lt_of_cell? _ _ h.hi)).trans h.hi⟩
theorem PlBox.kept {S:Nat→Prop} {W W':World} {b1 b2 b3 m lo hi:Nat} (h:PlBox W b1 b2 b3 m lo hi) (hk:KpS S W W') (s1:S b1) (s2:S b2) (s3:S b3):PlBox W' b1 b2 b3 m lo hi:=
  ⟨hk.cell (a:=⟨b1,0,none⟩) s1 h.n,hk.cell (a:=⟨b2,0,none⟩) s2 h.lo,hk.cell (a:=⟨b3,0,none⟩) s3 h.hi⟩
theorem places1_iter (m lo hi:Nat) (hlh:lo≤hi) (hhi:hi≤65536) (hm:m≤65536) (S:Nat→Prop) (b1 b2 b3:Nat) (s1:S b1) (s2:S b2) (s3:S b3) (w:World) (hbx:PlBox w b1 b2 b3 m lo hi):
    Iter Tryz.prog 181 #[.pointer (some ⟨b1,0,none⟩),.pointer (some ⟨b2,0,none⟩),.pointer (some ⟨b3,0,none⟩)] (intsA (ints (plR m lo hi))) (KpS S) w:=by
 intro l J Jx W hW hJ hJx hY h0;have HY:=hid hY;have HJ:=hid hJ;have HBX:=hid (hbx.below hW);have HLN:=hid (show (intsA (ints (plR m lo hi))).length=m by rw [intsA_length,ints_length,plR_length]);have HGT:=hid (fun k (h:k<m)=>show (intsA (ints (plR m lo hi))).getD k #[]= #[.int .i64 (plF m lo hi k:Nat)] by
  rw [intsA_get (by rw [ints_length,plR_length];exact h),getD_ints,plR_get h])
 have HH0:=hid h0;clear hY hJ hJx hbx h0;generalize intsA (ints (plR m lo hi))=xs at *;refine callsIn_of_wp Tryz.func181 rfl trivial ?_ rfl;simp only [Tryz.ntmps181,List.size_toArray,List.length_cons,List.length_nil,Nat.reduceAdd,Nat.reduceSub,Array.replicate_succ,Array.replicate_zero,List.push_toArray,List.append_toArray,List.nil_append,List.cons_append];have q1:=HBX.out.n;gi_wp2
 gi_loopg [7] m (fun g iv wr=>∃i:Nat,i+g=m∧iv= .int .i64 i∧Hid (J i wr)∧Hid (PlBox wr b1 b2 b3 m lo hi))
 case atStart=>exact ⟨0,by omega,rfl,HH0,HBX⟩
 case round=>
  obtain ⟨i,hi',rfl,HJ0,HB⟩:=hrel;clear q1 HH0;by_cases hlt:i<m
  · obtain ⟨q1,q2,q3⟩:=HB.out;have hb1:i*(hi-lo)≤65536*65536:=Nat.mul_le_mul xo xo;obtain ⟨D,hD⟩:∃D:Int,((hi-lo:Nat):Int)=D:=⟨_,rfl⟩
    have hDw:IntKind.i64.wrap ((hi:Int)-lo)=D:=by rw [←hD];rw [show (hi:Int)-lo=((hi-lo:Nat):Int) by omega];exact IntWalk.i64_in _ xo
    obtain ⟨X,hX⟩:∃X:Int,((i*(hi-lo):Nat):Int)=X:=⟨_,rfl⟩
    have hXw:IntKind.i64.wrap ((i:Int)*D)=X:=by rw [←hX,←hD];push_cast;exact IntWalk.i64_in _ (by push_cast at hb1;omega)
    obtain ⟨qn,hqn⟩:∃qn,i*(hi-lo)/m=qn:=⟨_,rfl⟩
    have hqb:qn≤65536*65536:=by rw [←hqn];exact Nat.le_trans (Nat.div_le_self _ _) hb1
    have hqt:X.tdiv m=(qn:Int):=by rw [←hX,Int.tdiv_eq_ediv_of_nonneg xo,←Int.natCast_ediv,hqn]
    have hqw:IntKind.i64.wrap (qn:Int)=qn:=IntWalk.i64_in _ xo;obtain ⟨pl,hpl⟩:∃pl:Int,((plF m lo hi i:Nat):Int)=pl:=⟨_,rfl⟩
    have hplw:IntKind.i64.wrap ((lo:Int)+qn)=pl:=by
     rw [←hpl,plF,hqn];push_cast
     exact IntWalk.i64_in _ xo
    have hpa:=HGT.out i hlt;rw [hpl] at hpa;have hm0:((m:Int)==0)=false:=by simp;omega
    have hm1:¬(m:Int)=0:=xo;have hm2:¬m=0:=xo;have HI2:=hid hi';clear hD hX hqn hpl hqb hb1 hi';gi_wp2
    refine wpIn_region_facts 10 xk (N:=23) rfl xk xk xdd (fun w'=>∃q,w'=wr.drewN q) (Ext 29) (factAt [.is (.func (.yield l) #[] #[]),.is (.int .i64 lo),.is (.int .i64 i),.is (.int .i64 hi),.is (.int .i64 lo),.is (.int .i64 D),.is (.int .i64 X),.is (.int .i64 m),.is (.int .i64 qn),.is (.int .i64 pl)]) (factAt_stays _) ⟨1,rfl⟩ ?steps ?fin
    case steps=>
     refine ⟨?o0,?o1,?o2,?o3,?o4,?o5,?o6,?o7,?o8,?o9,trivial⟩
     case o0=>
      intro u a w' ev hJ hd K hK;rw [if_pos (wanted_free rfl)];have e0:tg a 0= .func (.yield l) #[] #[]:=ev 0 xdd;have HK:=hid hK;clear hK ev hd;go_simp;exact HK.out _ _ xzc hJ rfl (Ext.refl _ _)
     case o1=>
      intro u a w' ev hJ hd K hK;rw [if_pos (wanted_free rfl)];have e2:tg a 2= .pointer (some ⟨b2,0,none⟩):=ev 2 xdd;have g0:=(cell_at_drew hJ q2)
      have HK:=hid hK;clear hK ev hd;go_simp;exact HK.out _ _ xzc hJ rfl (Ext.refl _ _)
     case o2=>
      intro u a w' ev hJ hd K hK;rw [if_pos (wanted_free rfl)];have e5:tg a 5= .int .i64 i:=ev 5 xdd;have HK:=hid hK;clear hK ev hd;go_simp;exact HK.out _ _ xzc hJ rfl (Ext.refl _ _)
     case o3=>
      intro u a w' ev hJ hd K hK;rw [if_pos (wanted_free rfl)];have e3:tg a 3= .pointer (some ⟨b3,0,none⟩):=ev 3 xdd;have g0:=(cell_at_drew hJ q3)
      have HK:=hid hK;clear hK ev hd;go_simp;exact HK.out _ _ xzc hJ rfl (Ext.refl _ _)
     case o4=>
      intro u a w' ev hJ hd K hK;rw [if_pos (wanted_free rfl)];have e2:tg a 2= .pointer (some ⟨b2,0,none⟩):=ev 2 xdd;have g0:=(cell_at_drew hJ q2)
      have HK:=hid hK;clear hK ev hd;go_simp;exact HK.out _ _ xzc hJ rfl (Ext.refl _ _)
     case o5=>
      intro u a w' ev hJ hd K hK;rw [if_pos (wanted_free rfl)];have e13:tg a 13= .int .i64 hi:=(ev 13 xdd).trans (hd 3 _ xk rfl);have e14:tg a 14= .int .i64 lo:=(ev 14 xdd).trans (hd 4 _ xk rfl);have HK:=hid hK;clear hK ev hd;go_simp;exact HK.out _ _ xzc hJ rfl (Ext.refl _ _)
     case o6=>
      intro u a w' ev hJ hd K hK;rw [if_pos (wanted_free rfl)];have e12:tg a 12= .int .i64 i:=(ev 12 xdd).trans (hd 2 _ xk rfl);have e15:tg a 15= .int .i64 D:=(ev 15 xdd).trans (hd 5 _ xk rfl);have HK:=hid hK;clear hK ev hd;go_simp;exact HK.out _ _ xzc hJ rfl (Ext.refl _ _)
     case o7=>
      intro u a w' ev hJ hd K hK;rw [if_pos (wanted_free rfl)];have e1:tg a 1= .pointer (some ⟨b1,0,none⟩):=ev 1 xdd;have g0:=(cell_at_drew hJ q1)
      have HK:=hid hK;clear hK ev hd;go_simp;exact HK.out _ _ xzc hJ rfl (Ext.refl _ _)
     case o8=>
      intro u a w' ev hJ hd K hK;rw [if_pos (wanted_free rfl)];have e16:tg a 16= .int .i64 X:=(ev 16 xdd).trans (hd 6 _ xk rfl);have e17:tg a 17= .int .i64 m:=(ev 17 xdd).trans (hd 7 _ xk rfl);have HK:=hid hK;clear hK ev hd;go_simp;exact HK.out _ _ xzc hJ rfl (Ext.refl _ _)
     case o9=>
      intro u a w' ev hJ hd K hK;rw [if_pos (wanted_free rfl)];have e11:tg a 11= .int .i64 lo:=(ev 11 xdd).trans (hd 1 _ xk rfl);have e18:tg a 18= .int .i64 qn:=(ev 18 xdd).trans (hd 8 _ xk rfl);have HK:=hid hK;clear hK ev hd;go_simp;exact HK.out _ _ xzc hJ rfl (Ext.refl _ _)
    case fin=>
     intro u w3 hJ3 hG;have h10:u 10= .func (.yield l) #[] #[]:=hG 0 _ rfl;have h19:u 19= .int .i64 pl:=hG 9 _ rfl;have hBq:Below wr.heap.size wr w3:=by obtain ⟨q,rfl⟩:=hJ3;exact below_drewN br q
     have HBQ:=hid hBq;obtain ⟨fn,tmps,assign,body,hy,hR⟩:=HY.out i w3 (by rw [HLN.out];exact hlt) (HJ.out _ _ _ HJ0.out hBq);rw [hpa] at hy;clear hG hJ3 hpa hBq q1 q2 q3;simp only [mixFrame,mixL,dstsOf,List.take_succ_cons,List.take_zero,List.filterMap_cons,List.filterMap_nil,List.contains_cons,List.contains_nil,Nat.reduceBEq,Bool.or_false,Bool.false_or,Bool.or_true,Bool.true_or,if_true,if_false,Bool.false_eq_true,Nat.reduceAdd,Nat.zero_add,List.drop_succ_cons,List.drop_zero,h10,h19];gi_wp2
     refine ⟨rfl,hR.mono ?_⟩;rintro e W3 (⟨rfl,hJ3,hk3⟩ | ⟨rfl,hJx3⟩)
     · have HB3:=hid ((HB.out.below HBQ.out).kept hk3 s1 s2 s3);have HJ3:=hid hJ3;clear hJ3 hk3 hy hR;gi_wp2
       gi_roundg (gk-1)
       case measure=>have:=HI2.out;omega
       case rel=>exact ⟨i+1,by have:=HI2.out;omega,by go_num,HJ3,HB3⟩
     · have HJ3:=hid hJx3;clear hJx3 hy hR;gi_wp2
       exact bodyPost_ret (results_none rfl _ _ _) rfl ⟨⟨_,rfl⟩,.inr ⟨i+1,by rw [HLN.out];omega,HJ3.out⟩⟩
  · have him:i=m:=xo;subst him;gi_wp2
    refine bodyPost_end (results_none rfl _ _ _) rfl ⟨⟨_,rfl⟩,.inl ?_⟩;rw [HLN.out];exact HJ0.out
structure AppN (l:List Int) (B:Nat) (w:World) (k:Nat) (W:World):Prop where
 own:∃v,W.cell? ⟨B,0,none⟩=some v∧W.ownsRow (B+1) 3 1 v k ((l.take k).map (Value.int .i64))
 fz:W.frozen? ⟨B,0,none⟩=false
 bel:Below B w W
theorem AppN.calm {l:List Int} {B M:Nat} {w:World} {k:Nat} {W W':World} (h:AppN l B w k W) (hc:Calm M W W') (hB:B≤M):AppN l B w k W':=by
 obtain ⟨⟨v,h1,h2⟩,h3,h4⟩:=h;exact ⟨⟨v,hc.cell h1,hc.owns h2⟩,hc.frozen h1 h3,hc.below hB h4⟩
theorem AppendInt_ok (l:List Int) (hl:l.length≤100000) (gf:Nat) (lb:Array Value) (eg:∀args w,(callFunc gf args).run Tryz.prog w= .ok (.enter gf args) w) (w:World) (hit:Iter Tryz.prog gf lb (intsA l) (KpS (fun k=>k<w.heap.size)) w):
    Calls Tryz.prog 180 #[.slice none 0 0,.func (.func gf) #[] lb] w (FreshInts w l):=by
 have IT:=hid (fun W (hb:Below w.heap.size w W)=>hit.later hb);have HPL:=hid (intsA_length l);have HPG:=hid (fun k (h:k<l.length)=>intsA_get h);clear hit;refine calls_of_wp_m Tryz.func180 rfl ?_;simp only [Tryz.ntmps180,List.size_toArray,List.length_cons,List.length_nil,Nat.reduceAdd,Nat.reduceSub,Array.replicate_succ,Array.replicate_zero,List.push_toArray,List.append_toArray,List.nil_append,List.cons_append];go_wp2
 refine wp_range_w (xs:=intsA l) (Kp:=KpS (fun k=>k<w.heap.size)) rfl eg
   (IT.out _ (br.alloc (Nat.le_refl _) _)) br (fun h k=>fun i hi=>(k i hi).trans (h i hi)) ?kb ?ps
   (AppN l w.heap.size w) (fun _ _=>False) ?hI (fun _ _ _ h _=>h) ?h0 ?round ?done (fun _ _ _ _ h _=>h.elim)
 case kb=>
  intro W q o o' hl _ _ k hk;simp at hl;exact World.putObj_heap_other xo
 case ps=>
  intro x hx;simp only [intsA,List.mem_map] at hx;obtain ⟨k,_,rfl⟩:=hx;rfl
 case hI=>
  intro k W W' h hc;exact h.calm hc xsi
 case h0=>
  exact ⟨⟨_,by (exact xcn),World.ownsRow_nil _ _ _ _⟩,by (exact xcn),by (exact xbel)⟩
 case round=>
  intro q k W hq hk hi;rw [HPL.out] at hk;rw [HPG.out k hk];have htk:=hid (take_succ_int hk);generalize l.getD k 0=x at *;obtain ⟨⟨v,hv,ho⟩,hfz,hbel⟩:=hi;have hzb:w.heap.size<W.heap.size:=World.block_lt_of_cell? _ _ hv;obtain ⟨ao,co,rfl,-⟩:=owns_news ho;have hlt1:(l.take k).length=k:=by rw [List.length_take];omega
  gi_wp2
  have hab:Below W.heap.size W W:=Below.refl _ _;refine ⟨keeps_below hab,fun i hi=>hab.block i xo,?_⟩;intro W2 hc;have hv2:W2.cell? ⟨w.heap.size,0,none⟩=some (.slice ao k co):=hc.cell ((hab.cell (p:=⟨w.heap.size,0,none⟩) hzb).trans hv);have hfz2:W2.frozen? ⟨w.heap.size,0,none⟩=false:=hc.frozen ((hab.cell (p:=⟨w.heap.size,0,none⟩) hzb).trans hv) ((hab.frozen (p:=⟨w.heap.size,0,none⟩) hzb).trans hfz);have ho2:=hc.owns (owns_below ho hab);have hbel2:Below w.heap.size w W2:=hc.below xsi hbel;have hz2:=hbel2.size;have HO2:=hid ho2;have HB2:=hid hbel2;have hzw:w.heap.size<W2.heap.size:=World.block_lt_of_cell? _ _ hv2;clear ho hbel hab hc ho2 hbel2 hv hfz
  gi_wp2_with (gi_at_builtin;refine wpListIn_append_own _ rfl (.tmp 8) (.tmp 10) 26 rfl (w.heap.size+1) 3 _ (.int .i64 0) 1 8 Tryz.underlying26 (info_parts info_int).choose_spec.1 (info_parts info_int).choose_spec.2.1 (info_parts info_int).choose_spec.2.2.1 (info_parts info_int).choose_spec.2.2.2 rfl xdd _ k _ rfl (HO2.out.alloc (.cells #[.int .i64 x] 3)) ⟨W2.heap.size,0,none⟩ 1 1 [.int .i64 x] rfl rfl (new_cells _ [.int .i64 x] _ _ rfl _ rfl) (by simp [Value.oneCell']) (by unfold maxLen;omega) xo (by simp;omega) ?_;intro v' w3 ho3 hg3 _
               obtain ⟨a3,c3,rfl,-⟩:=owns_news ho3;have hne3:some w.heap.size≠(Value.slice ao k co).ownBlock:=fun e=>(by have:=(HO2.out.lt _ e.symm).1;omega)
               have hbl3:=hg3.block w.heap.size (by simp;omega) hne3;have hv3:w3.cell? ⟨w.heap.size,0,none⟩=some (.slice ao k co):=(World.cell?_of_block (a:=⟨w.heap.size,0,none⟩) hbl3).trans ((((Below.refl _ W2).alloc (Nat.le_refl _) _).cell (p:=⟨w.heap.size,0,none⟩) hzw).trans hv2);have hfz3:w3.frozen? ⟨w.heap.size,0,none⟩=false:=(World.frozen?_of_block (a:=⟨w.heap.size,0,none⟩) hbl3).trans ((((Below.refl _ W2).alloc (Nat.le_refl _) _).frozen (p:=⟨w.heap.size,0,none⟩) hzw).trans hfz2);have HO3:=hid ho3;have HG3:=hid hg3;clear ho3 hg3 hbl3 hne3)
  have hB3:Below w.heap.size w w3:=(HB2.out.alloc xo (.cells #[.int .i64 x] 3)).grown HG3.out (by simp;omega) (fun z hz=>by have:=(HO2.out.lt _ hz).1;omega);have hK3:KeepsOthers W2 w3:=(keeps_below (((Below.refl _ W2).alloc (Nat.le_refl _) _))).trans (KeepsOthers.of_grownBy HG3.out (own_isCells (HO2.out.alloc _)));refine ⟨hK3.trans (KeepsOthers.setCell _ _ _),fun i hi=> ?_,⟨⟨_,World.cell?_setCell_same _ _ _ hv3,?_⟩,?_,hB3.setCell (Nat.le_refl _) _⟩⟩
  · rw [Below.heap_setCell _ _ _ _ (show i≠w.heap.size by omega),HG3.out.block i (by simp;omega) (fun e=>by have:=(HO2.out.lt _ e.symm).1;omega)];exact ((Below.refl _ W2).alloc (Nat.le_refl _) _).block i xo
  · rw [htk.out,List.map_append];exact owns_heap HO3.out fun z hz=>Below.heap_setCell _ _ _ _ (by have:=(HO3.out.lt _ hz).1;show z≠w.heap.size;omega)
  · rw [World.frozen?_setCell];exact hfz3
 case done=>
  intro D W hD hi hK;obtain ⟨⟨v,hv,ho⟩,hfz,hbel⟩:=hi;rw [HPL.out,List.take_length] at ho;obtain ⟨ao,co,rfl,-⟩:=owns_news ho;have HO:=hid ho;have HB:=hid hbel;clear ho hbel;go_wp2
  simp at hD;refine postM_one hK (results_tmp rfl _ _ _) ⟨_,rfl,?_,?_⟩
  · exact owns_base ((Calm.putObj (B:=0) _ (Nat.zero_le _) hK rfl).owns HO.out) xo
  · exact (Calm.putObj (B:=w.heap.size) _ xo hK rfl).below (Nat.le_refl _) HB.out
theorem CollectInt_ok (l:List Int) (hl:l.length≤100000) (gf:Nat) (lb:Array Value) (eg:∀args w,(callFunc gf args).run Tryz.prog w= .ok (.enter gf args) w) (w:World) (hit:Iter Tryz.prog gf lb (intsA l) (KpS (fun k=>k<w.heap.size)) w):
    Calls Tryz.prog 176 #[.func (.func gf) #[] lb] w (FreshInts w l):=by
 have A:=hid (AppendInt_ok l hl gf lb eg w hit);clear hit;go_enter Tryz.func176,Tryz.ntmps176
 go_wp2_with fail
 refine A.out.mono ?_;rintro e w1 ⟨v,rfl,ho,hb⟩;have HO:=hid ho;have HB:=hid hb;clear ho hb;go_wp2
 go_ret
 exact ⟨v,rfl,HO.out,HB.out⟩
theorem splaces_ok (m lo hi:Int) (w:World):
    Calls Tryz.prog 177 #[.int .i64 m,.int .i64 lo,.int .i64 hi] w fun e w'=>e= .returned (.func (.func 181) #[] #[.pointer (some ⟨w.heap.size,0,none⟩),.pointer (some ⟨w.heap.size+1,0,none⟩),.pointer (some ⟨w.heap.size+2,0,none⟩)])∧
      w'=((w.alloc (.cells #[.int .i64 m] 3)).alloc (.cells #[.int .i64 lo] 3)).alloc (.cells #[.int .i64 hi] 3):=by
 go_enter Tryz.func177,Tryz.ntmps177
 go_wp2
 go_ret
 exact ⟨rfl,rfl⟩
theorem smay_ok (m lo hi:Nat) (hlh:lo≤hi) (hhi:hi≤65536) (hm:m≤hi-lo) (w:World):
    Calls Tryz.prog 175 #[.int .i64 m,.int .i64 lo,.int .i64 hi] w fun e w'=>e= .returned (.bool true)∧w=w':=by
 have hw:IntKind.i64.wrap ((hi:Int)-lo)=(hi:Int)-lo:=IntWalk.i64_in _ xo;have hg:decide ((m:Int)≤(hi:Int)-lo)=true:=by simp;omega
 go_enter Tryz.func175,Tryz.ntmps175
 go_wp2
 go_ret
 exact ⟨rfl,rfl⟩
def FreshI2 (w:World) (l:List Int) (x:Value) (e:Ending) (w':World):Prop:=
  ∃v,e= .returned (.tuple #[v,x])∧w'.ownsRow w.heap.size 3 1 v l.length (l.map (Value.int .i64))∧Below w.heap.size w w'
theorem Places_ok (m lo hi:Nat) (hlh:lo≤hi) (hhi:hi≤65536) (hm:m≤hi-lo) (w:World):
    Calls Tryz.prog 161 #[.int .i64 m,.int .i64 lo,.int .i64 hi] w (FreshI2 w (ints (plR m lo hi)) (.int .i64 0)):=by
 have MY:=hid (fun w=>smay_ok m lo hi hlh hhi hm w);have PS:=hid (fun w=>splaces_ok m lo hi w);have HL:=hid (show (ints (plR m lo hi)).length≤100000 by rw [ints_length,plR_length];omega);have IT:=hid (fun W hbx=>places1_iter m lo hi hlh hhi xo (fun k=>k<w.heap.size+3) w.heap.size (w.heap.size+1) (w.heap.size+2) xo xo xo W hbx);generalize ints (plR m lo hi)=L at *;go_enter Tryz.func161,Tryz.ntmps161
 go_wp2_with (first
   | (go_at_call 175;refine (MY.out _).mono ?_;rintro e w' ⟨rfl,rfl⟩)
   | (go_at_call 177;refine (PS.out _).mono ?_;rintro e w' ⟨rfl,rfl⟩)
   | (go_at_call 176;fail))
 have hB:Below w.heap.size w (((w.alloc (.cells #[.int .i64 m] 3)).alloc (.cells #[.int .i64 lo] 3)).alloc (.cells #[.int .i64 hi] 3)):=xbel;have hI:Iter Tryz.prog 181 #[.pointer (some ⟨w.heap.size,0,none⟩),.pointer (some ⟨w.heap.size+1,0,none⟩),.pointer (some ⟨w.heap.size+2,0,none⟩)] (intsA L) (KpS (fun k=>k<w.heap.size+3)) (((w.alloc (.cells #[.int .i64 m] 3)).alloc (.cells #[.int .i64 lo] 3)).alloc (.cells #[.int .i64 hi] 3)):=
   IT.out _ ⟨by (exact xcn),by (exact xcn),by (exact xcn)⟩
 have hz:(((w.alloc (.cells #[.int .i64 m] 3)).alloc (.cells #[.int .i64 lo] 3)).alloc (.cells #[.int .i64 hi] 3)).heap.size=w.heap.size+3:=by simp
 generalize (((w.alloc (.cells #[.int .i64 m] 3)).alloc (.cells #[.int .i64 lo] 3)).alloc (.cells #[.int .i64 hi] 3))=w1 at *;rw [←hz] at hI;have CO:=hid (CollectInt_ok L HL.out 181 _ (fun args w=>rfl) w1 hI);have HB:=hid hB;clear hI hB IT;go_wp2_with fail
 refine CO.out.mono ?_;rintro e w2 ⟨v,rfl,ho,hb⟩;have HO:=hid (owns_base ho (by omega:w.heap.size≤w1.heap.size));have HB2:=xv hb HB;clear ho hb;go_wp2
 go_ret2
 exact ⟨v,rfl,HO.out,HB2.out⟩
end
section
open Go.RowKit Go.Shelf
attribute [local go_sem] Oper.semAt_some
theorem over_core (w:World) (seg:Int) (wa ka va ca:Option Addr) (wc kc vc cc lw n lv lc:Nat) (laid:Int) (lo hi m:Nat) (ps:List Int) (la:Option Addr) (pl:Nat) (d:SlC) (hps:ps.length=m)
    (CK:Hid (∀W,Below w.heap.size w W→Calls Tryz.prog 89 #[.agg #[.int .i64 seg,.slice wa lw wc,.slice ka n kc,.slice va lv vc,.slice ca lc cc,.int .u64 laid]] W (AnsB W (.int .i64 0))))
    (PL:Hid (∀W,Below w.heap.size w W→Calls Tryz.prog 161 #[.int .i64 m,.int .i64 lo,.int .i64 hi] W (FreshI2 W ps (.int .i64 0))))
    (FI:Hid (∀W pa pc,Below w.heap.size w W→IsRow .i64 W pa ps→Calls Tryz.prog 162 #[.agg #[.int .i64 seg,.slice wa lw wc,.slice ka n kc,.slice va lv vc,.slice ca lc cc,.int .u64 laid],.int .i64 lo,.int .i64 hi,.slice pa m pc,.slice la m pl] W (FreshSl2 W d (.int .i64 0)))):
    Calls Tryz.prog 126 #[.agg #[.int .i64 seg,.slice wa lw wc,.slice ka n kc,.slice va lv vc,.slice ca lc cc,.int .u64 laid],.int .i64 lo,.int .i64 hi,.slice la m pl] w (FreshSl2 w d (.int .i64 0)):=by
 have HPL:=hid hps;clear hps;go_enter Tryz.func126,Tryz.ntmps126
 go_wp2
 refine wp_scope_loop 0 (fun _ _ _=>False) rfl (fun _ _ _ h=>h.elim) ?_;intro H hH hpass;go_wp2_with fail
 refine (CK.out _ xbel).mono ?_;rintro e w1 ⟨rfl,hb1⟩;have hz_w1:=hb1.size;try simp only [World.size_alloc,World.size_setCell] at hz_w1
 have hh:=bc6 hb1 (au6 (al6 (b:=w.heap.size) xsi));obtain ⟨c_t0,c_t1,c_t2,c_t3,c_t4,c_t5⟩:=hh;have z_t:=blt hb1 (auz (alz (b:=w.heap.size) xsi));have hh:=bc6 hb1 (al6 (b:=w.heap.size+1) xsi);obtain ⟨c_r0,c_r1,c_r2,c_r3,c_r4,c_r5⟩:=hh;have hh:=bf6 hb1 (alz (b:=w.heap.size+1) xsi) (alf6 (b:=w.heap.size+1) xsi);obtain ⟨f_r0,f_r1,f_r2,f_r3,f_r4,f_r5⟩:=hh;have z_r:=blt hb1 (alz (b:=w.heap.size+1) xsi);have hB1:Below w.heap.size w w1:=xbel;have HB1:=hid hB1;clear hb1 hB1;go_wp2_with fail
 refine (PL.out _ HB1.out).mono ?_;rintro e w2 ⟨v,rfl,ho,hb2⟩;have hz_w2:=hb2.size;simp (disch:=omega) only [xcl hb2,xfr hb2] at c_t0 c_t1 c_t2 c_t3 c_t4 c_t5 c_r0 c_r1 c_r2 c_r3 c_r4 c_r5 f_r0 f_r1 f_r2 f_r3 f_r4 f_r5;replace z_t:=blt hb2 z_t;replace z_r:=blt hb2 z_r;have HB2:=xv hb2 HB1;rw [HPL.out] at ho;obtain ⟨pa,pc,rfl,hi2,-⟩:=row_of_owns ho;have FC:=hid (FI.out w2 pa pc HB2.out hi2);have hz2:=z_r;clear hb2 ho hi2;go_wp2_with fail
 refine (FC.out).mono ?_;rintro e w3 ⟨v1,v2,v3,v4,rfl,p1,p2,p3,p4,hb3⟩;have hz_w3:=hb3.size;simp (disch:=omega) only [xcl hb3,xfr hb3] at c_t0 c_t1 c_t2 c_t3 c_t4 c_t5 c_r0 c_r1 c_r2 c_r3 c_r4 c_r5 f_r0 f_r1 f_r2 f_r3 f_r4 f_r5;replace z_t:=blt hb3 z_t;replace z_r:=blt hb3 z_r;have HB3:=xv hb3 HB2;obtain ⟨a1,k1,rfl,-⟩:=owns_news p1;obtain ⟨a2,k2,rfl,-⟩:=owns_news p2;obtain ⟨a3,k3,rfl,-⟩:=owns_news p3;obtain ⟨a4,k4,rfl,-⟩:=owns_news p4;have HP1:=hid p1;have HP2:=hid p2;have HP3:=hid p3;have HP4:=hid p4;clear p1 p2 p3 p4;clear hb3;go_upto_region 7 with (fail)
 have hsx:=six_set (x:= .int .i64 d.seg) (y:= .slice a1 d.ws.length k1) (z:= .slice a2 d.ks.length k2) (p:= .slice a3 d.vs.length k3) (q:= .slice a4 d.cs.length k4) (r:= .int .u64 d.laid) c_r0 c_r1 c_r2 c_r3 c_r4 c_r5;have hfz:∀a:Addr,((((((w3.setCell ⟨w.heap.size+1,0,none⟩ (.int .i64 d.seg)).setCell ⟨w.heap.size+1,1,none⟩ (.slice a1 d.ws.length k1)).setCell ⟨w.heap.size+1,2,none⟩ (.slice a2 d.ks.length k2)).setCell ⟨w.heap.size+1,3,none⟩ (.slice a3 d.vs.length k3)).setCell ⟨w.heap.size+1,4,none⟩ (.slice a4 d.cs.length k4)).setCell ⟨w.heap.size+1,5,none⟩ (.int .u64 d.laid)).frozen? a=w3.frozen? a:=fun a=>by
  rw [World.frozen?_setCell,World.frozen?_setCell,World.frozen?_setCell,World.frozen?_setCell,World.frozen?_setCell,World.frozen?_setCell]
 have HQw4:Hid (∀q,q≠w.heap.size+1→((((((w3.setCell ⟨w.heap.size+1,0,none⟩ (.int .i64 d.seg)).setCell ⟨w.heap.size+1,1,none⟩ (.slice a1 d.ws.length k1)).setCell ⟨w.heap.size+1,2,none⟩ (.slice a2 d.ks.length k2)).setCell ⟨w.heap.size+1,3,none⟩ (.slice a3 d.vs.length k3)).setCell ⟨w.heap.size+1,4,none⟩ (.slice a4 d.cs.length k4)).setCell ⟨w.heap.size+1,5,none⟩ (.int .u64 d.laid)).heap[q]? =w3.heap[q]?):=hid fun q hq=>by
  rw [heap_setCell_ne _ _ _ hq,heap_setCell_ne _ _ _ hq,heap_setCell_ne _ _ _ hq,heap_setCell_ne _ _ _ hq,heap_setCell_ne _ _ _ hq,heap_setCell_ne _ _ _ hq]
 have hzw4:((((((w3.setCell ⟨w.heap.size+1,0,none⟩ (.int .i64 d.seg)).setCell ⟨w.heap.size+1,1,none⟩ (.slice a1 d.ws.length k1)).setCell ⟨w.heap.size+1,2,none⟩ (.slice a2 d.ks.length k2)).setCell ⟨w.heap.size+1,3,none⟩ (.slice a3 d.vs.length k3)).setCell ⟨w.heap.size+1,4,none⟩ (.slice a4 d.cs.length k4)).setCell ⟨w.heap.size+1,5,none⟩ (.int .u64 d.laid)).heap.size=w3.heap.size:=by simp
 have HSw4:Hid (Below w.heap.size w ((((((w3.setCell ⟨w.heap.size+1,0,none⟩ (.int .i64 d.seg)).setCell ⟨w.heap.size+1,1,none⟩ (.slice a1 d.ws.length k1)).setCell ⟨w.heap.size+1,2,none⟩ (.slice a2 d.ks.length k2)).setCell ⟨w.heap.size+1,3,none⟩ (.slice a3 d.vs.length k3)).setCell ⟨w.heap.size+1,4,none⟩ (.slice a4 d.cs.length k4)).setCell ⟨w.heap.size+1,5,none⟩ (.int .u64 d.laid))):=hid ((((((HB3.out.setCell xdo _).setCell xdo _).setCell xdo _).setCell xdo _).setCell xdo _).setCell xdo _);generalize ((((((w3.setCell ⟨w.heap.size+1,0,none⟩ (.int .i64 d.seg)).setCell ⟨w.heap.size+1,1,none⟩ (.slice a1 d.ws.length k1)).setCell ⟨w.heap.size+1,2,none⟩ (.slice a2 d.ks.length k2)).setCell ⟨w.heap.size+1,3,none⟩ (.slice a3 d.vs.length k3)).setCell ⟨w.heap.size+1,4,none⟩ (.slice a4 d.cs.length k4)).setCell ⟨w.heap.size+1,5,none⟩ (.int .u64 d.laid))=w4 at *;have s0:=hsx 0 _ rfl;have s1:=hsx 1 _ rfl;have s2:=hsx 2 _ rfl;have s3:=hsx 3 _ rfl;have s4:=hsx 4 _ rfl;have s5:=hsx 5 _ rfl;replace f_r0:=(hfz _).trans f_r0;replace f_r1:=(hfz _).trans f_r1;replace f_r2:=(hfz _).trans f_r2;replace f_r3:=(hfz _).trans f_r3;replace f_r4:=(hfz _).trans f_r4;replace f_r5:=(hfz _).trans f_r5;clear hsx hfz c_r0 c_r1 c_r2 c_r3 c_r4 c_r5;go_wp2
 simp only [Exit.jump];refine bodyPost_ret (results_ct rfl rfl (run_loadVar_many _ Tryz.underlying29 rfl xk (six_set s0 s1 s2 s3 s4 s5))) rfl ⟨_,_,_,_,rfl,?_,?_,?_,?_,?_⟩
 · exact owns_base (owns_heap HP1.out fun j hj=>(by
     have h9:=(HP1.out.lt j hj).1;rw [heap_setCell_ne _ _ _ xdo,heap_setCell_ne _ _ _ xdo,heap_setCell_ne _ _ _ xdo,heap_setCell_ne _ _ _ xdo,heap_setCell_ne _ _ _ xdo,heap_setCell_ne _ _ _ xdo];exact HQw4.out _ xo)) xo
 · exact owns_base (owns_heap HP2.out fun j hj=>(by
     have h9:=(HP2.out.lt j hj).1;rw [heap_setCell_ne _ _ _ xdo,heap_setCell_ne _ _ _ xdo,heap_setCell_ne _ _ _ xdo,heap_setCell_ne _ _ _ xdo,heap_setCell_ne _ _ _ xdo,heap_setCell_ne _ _ _ xdo];exact HQw4.out _ xo)) xo
 · exact owns_base (owns_heap HP3.out fun j hj=>(by
     have h9:=(HP3.out.lt j hj).1;rw [heap_setCell_ne _ _ _ xdo,heap_setCell_ne _ _ _ xdo,heap_setCell_ne _ _ _ xdo,heap_setCell_ne _ _ _ xdo,heap_setCell_ne _ _ _ xdo,heap_setCell_ne _ _ _ xdo];exact HQw4.out _ xo)) xo
 · exact owns_base (owns_heap HP4.out fun j hj=>(by
     have h9:=(HP4.out.lt j hj).1;rw [heap_setCell_ne _ _ _ xdo,heap_setCell_ne _ _ _ xdo,heap_setCell_ne _ _ _ xdo,heap_setCell_ne _ _ _ xdo,heap_setCell_ne _ _ _ xdo,heap_setCell_ne _ _ _ xdo];exact HQw4.out _ xo)) xo
 · exact (((((HSw4.out.setCell xdo _).setCell xdo _).setCell xdo _).setCell xdo _).setCell xdo _).setCell xdo _
theorem Into_core (w:World) (seg:Int) (wa ka va ca:Option Addr) (wc kc vc cc lw n lv lc:Nat) (laid:Int) (size m:Nat) (la:Option Addr) (pl:Nat) (z d:SlC) (hzu:U64s z.ws)
    (CK:Hid (∀W,Below w.heap.size w W→Calls Tryz.prog 89 #[.agg #[.int .i64 seg,.slice wa lw wc,.slice ka n kc,.slice va lv vc,.slice ca lc cc,.int .u64 laid]] W (AnsB W (.int .i64 0))))
    (NW:Hid (∀W,Below w.heap.size w W→Calls Tryz.prog 94 #[.int .i64 seg,.int .i64 size] W (FreshSl2 W z (.int .i64 0))))
    (OV:Hid (∀W sa,Below w.heap.size w W→SlIn W ⟨z.seg,z.ws,z.ks,z.vs,z.cs,laid⟩ sa→(sa.wa=none→sa.wc=0)→(sa.ka=none→sa.kc=0)→(sa.va=none→sa.vc=0)→(sa.ca=none→sa.cc=0)→Calls Tryz.prog 126 #[slV ⟨z.seg,z.ws,z.ks,z.vs,z.cs,laid⟩ sa,.int .i64 0,.int .i64 size,.slice la m pl] W (FreshSl2 W d (.int .i64 0)))):
    Calls Tryz.prog 74 #[.agg #[.int .i64 seg,.slice wa lw wc,.slice ka n kc,.slice va lv vc,.slice ca lc cc,.int .u64 laid],.int .i64 size,.slice la m pl] w (FreshSl2 w d (.int .i64 0)):=by
 go_enter Tryz.func74,Tryz.ntmps74
 go_wp2_with fail
 refine (CK.out _ xbel).mono ?_;rintro e w0 ⟨rfl,hb0⟩;have hz_w0:=hb0.size;try simp only [World.size_alloc,World.size_setCell] at hz_w0
 have hh:=bc6 hb0 (au6 (al6 (b:=w.heap.size) xsi));obtain ⟨c_t0,c_t1,c_t2,c_t3,c_t4,c_t5⟩:=hh;have z_t:=blt hb0 (auz (alz (b:=w.heap.size) xsi));have hh:=bc6 hb0 (al6 (b:=w.heap.size+1) xsi);obtain ⟨c_r0,c_r1,c_r2,c_r3,c_r4,c_r5⟩:=hh;have hh:=bf6 hb0 (alz (b:=w.heap.size+1) xsi) (alf6 (b:=w.heap.size+1) xsi);obtain ⟨f_r0,f_r1,f_r2,f_r3,f_r4,f_r5⟩:=hh;have z_r:=blt hb0 (alz (b:=w.heap.size+1) xsi);have hB0:Below w.heap.size w w0:=xbel;have HB0:=hid hB0;clear hb0 hB0;go_wp2_with fail
 refine (NW.out _ HB0.out).mono ?_;rintro e w1 ⟨v1,v2,v3,v4,rfl,p1,p2,p3,p4,hb1⟩;have hz_w1:=hb1.size;simp (disch:=omega) only [xcl hb1,xfr hb1] at *;replace z_t:=blt hb1 z_t;replace z_r:=blt hb1 z_r;obtain ⟨a1,k1,rfl,i1,-,y1,-,-⟩:=row_of_owns p1;obtain ⟨a2,k2,rfl,i2,-,y2,-,-⟩:=row_of_owns p2;obtain ⟨a3,k3,rfl,i3,-,y3,-,-⟩:=row_of_owns p3;obtain ⟨a4,k4,rfl,i4,-,y4,-,-⟩:=row_of_owns p4;have HI:=hid (show SlIn w1 ⟨z.seg,z.ws,z.ks,z.vs,z.cs,laid⟩ ⟨a1,a2,a3,a4,k1,k2,k3,k4⟩ from ⟨i1,i2,i3,i4,hzu⟩);have HY:=hid (And.intro y1 (And.intro y2 (And.intro y3 y4)));have HB1:=xv hb1 HB0;clear p1 p2 p3 p4 i1 i2 i3 i4 y1 y2 y3 y4 hb1 hzu;go_upto_region 8 with (fail)
 generalize hw2:w1.alloc _=w2;have hh:=ec6 hw2 (au6 (⟨c_t0,c_t1,c_t2,c_t3,c_t4,c_t5⟩));clear c_t0 c_t1 c_t2 c_t3 c_t4 c_t5;obtain ⟨c_t0,c_t1,c_t2,c_t3,c_t4,c_t5⟩:=hh;replace z_t:=elt hw2 (auz (z_t));have hh:=ec6 hw2 (au6 (⟨c_r0,c_r1,c_r2,c_r3,c_r4,c_r5⟩));clear c_r0 c_r1 c_r2 c_r3 c_r4 c_r5;obtain ⟨c_r0,c_r1,c_r2,c_r3,c_r4,c_r5⟩:=hh;have hh:=ef6 hw2 (auf6 z_r ⟨f_r0,f_r1,f_r2,f_r3,f_r4,f_r5⟩);clear f_r0 f_r1 f_r2 f_r3 f_r4 f_r5;obtain ⟨f_r0,f_r1,f_r2,f_r3,f_r4,f_r5⟩:=hh;replace z_r:=elt hw2 (auz (z_r));have hh:=ec6 hw2 (al6 (b:=w1.heap.size) xsi);obtain ⟨c_o0,c_o1,c_o2,c_o3,c_o4,c_o5⟩:=hh;have z_o:=elt hw2 (alz (b:=w1.heap.size) xsi);have hb2:Below w1.heap.size w1 w2:=by rw [←hw2];exact br.alloc (Nat.le_refl _) _
 have HB2:=xv hb2 HB1;have HC:=hid (OV.out w2 ⟨a1,a2,a3,a4,k1,k2,k3,k4⟩ HB2.out (HI.out.below hb2) (fun e=>(HY.out.1 e).2) (fun e=>(HY.out.2.1 e).2) (fun e=>(HY.out.2.2.1 e).2) (fun e=>(HY.out.2.2.2 e).2));have hz2:=HB2.out.size;have hz22:=z_r;clear hw2 hb2;dsimp only [slV] at HC;go_wp2_with fail
 refine HC.out.mono ?_;rintro e w3 ⟨v1,v2,v3,v4,rfl,p1,p2,p3,p4,hb3⟩;have hz_w3:=hb3.size;simp (disch:=omega) only [xcl hb3,xfr hb3] at *;replace z_t:=blt hb3 z_t;replace z_r:=blt hb3 z_r;replace z_o:=blt hb3 z_o;have HB3:=hid (below_via hb3 HB2.out hz2);obtain ⟨x1,y1,rfl,-⟩:=owns_news p1;obtain ⟨x2,y2,rfl,-⟩:=owns_news p2;obtain ⟨x3,y3,rfl,-⟩:=owns_news p3;obtain ⟨x4,y4,rfl,-⟩:=owns_news p4;have HP1:=hid p1;have HP2:=hid p2;have HP3:=hid p3;have HP4:=hid p4;clear p1 p2 p3 p4;clear hb3;go_wp2
 have HQ:Hid (∀q,q≠w.heap.size+1→((((((w3.setCell ⟨w.heap.size+1,0,none⟩ (.int .i64 d.seg)).setCell ⟨w.heap.size+1,1,none⟩ (.slice x1 d.ws.length y1)).setCell ⟨w.heap.size+1,2,none⟩ (.slice x2 d.ks.length y2)).setCell ⟨w.heap.size+1,3,none⟩ (.slice x3 d.vs.length y3)).setCell ⟨w.heap.size+1,4,none⟩ (.slice x4 d.cs.length y4)).setCell ⟨w.heap.size+1,5,none⟩ (.int .u64 d.laid)).heap[q]? =w3.heap[q]?):=hid fun q hq=>by
  rw [heap_setCell_ne _ _ _ hq,heap_setCell_ne _ _ _ hq,heap_setCell_ne _ _ _ hq,heap_setCell_ne _ _ _ hq,heap_setCell_ne _ _ _ hq,heap_setCell_ne _ _ _ hq]
 refine bodyPost_ret (results_ct rfl rfl (run_loadVar_many _ Tryz.underlying29 rfl xk (six_set c_r0 c_r1 c_r2 c_r3 c_r4 c_r5))) rfl ⟨_,_,_,_,rfl,?_,?_,?_,?_,?_⟩
 · exact owns_base (owns_heap HP1.out fun j hj=>HQ.out _ (by have:=(HP1.out.lt j hj).1;omega)) xo
 · exact owns_base (owns_heap HP2.out fun j hj=>HQ.out _ (by have:=(HP2.out.lt j hj).1;omega)) xo
 · exact owns_base (owns_heap HP3.out fun j hj=>HQ.out _ (by have:=(HP3.out.lt j hj).1;omega)) xo
 · exact owns_base (owns_heap HP4.out fun j hj=>HQ.out _ (by have:=(HP4.out.lt j hj).1;omega)) xo
 · exact (((((HB3.out.setCell xdo _).setCell xdo _).setCell xdo _).setCell xdo _).setCell xdo _).setCell xdo _
end
section
open Go.RowKit
end
end Go.Proofs.YtjhpblejlchhjaaGreatDoor

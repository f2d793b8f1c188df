/- Merged: GapNames. -/
import Derived.Test.YtookgoidlnlckaaDoorGapNamesP13
import Derived.Test.YtookgoidlnlckaaDoorGapNamesP30
import Derived.Test.YtookgoidlnlckaaDoorGapNamesP24
namespace Go.Proofs.YtookgoidlnlckaaDoor
set_option maxRecDepth 100000
set_option maxHeartbeats 40000000
set_option linter.unusedVariables false
set_option linter.unusedSimpArgs false
section
open Go.RowKit Go.Shelf Go.Sort
attribute [local go_sem] Oper.semAt_some
def lst8 (i : Nat) : List Int := prI ((List.range 8).map fun j => ((if j < i then (j : Int) else 0), (0 : Int)))
def L8 : List Int := lst8 8
def L9 : List Int := L8 ++ [0, 0]
theorem lst8_set : ∀ i, i < 8 → (lst8 i).set (i * 2) (i : Int) = lst8 (i + 1) := by decide
theorem lst8_zero : (madeCells #[Value.int .i64 0, .int .i64 0] (8 * 2)).toList = (lst8 0).map (Value.int .i64) := (made_flat2 8).trans (by rw [show flat2 (fun _ => 0) (fun _ => 0) 8 = lst8 0 by decide])
theorem lst8_len (i : Nat) : (lst8 i).length = 16 := by unfold lst8; rw [prI_length, List.length_map, List.length_range]
theorem owns_blk {w : World} {B B' : Nat} {e e' : TypeId} {s s' n n' : Nat} {v v' : Value} {xs xs' : List Value} (h1 : w.ownsRow B e s v n xs) (h2 : w.ownsRow B' e' s' v' n' xs') (hne : e ≠ e') : ∀ p q, v.ownBlock = some p → v'.ownBlock = some q → p ≠ q := by
 intro p q hp hq e
 rcases owns_apart h1 h2 hne with h | h
 · rw [h] at hp; cases hp
 · exact h (by rw [hp, hq, e])
theorem pbn_heap {w w' : World} {b : Nat} {vs : List Value} (h : PB w b vs) (hh : w'.heap[b]? = w.heap[b]?) : PB w' b vs :=
  fun j v hj => (World.cell?_of_block (a := ⟨b, j, none⟩) hh).trans (h j v hj)
def oneE (base : Nat) (xs : List Value) : FactE 29 := ⟨⟨fun v w => ∃ b, v = .slice (some ⟨b, 0, none⟩) 1 1 ∧ w.ownsRow base 31 2 v 1 xs, fun _ _ _ h ⟨b, e, h1⟩ => ⟨b, e, owns_below h1 h⟩⟩, fun _ _ _ h ⟨b, e, h1⟩ => ⟨b, e, owns_stT h (by decide) h1⟩⟩
def ownE (base n : Nat) (xs : List Value) : FactE 29 := ⟨⟨fun v w => w.ownsRow base 31 2 v n xs, fun _ _ _ h h1 => owns_below h1 h⟩, fun _ _ _ h h1 => owns_stT h (by decide) h1⟩
theorem names_core (c : Cfg) (s x y : SlC) (hx : x.ks.length = 16) (hy : y.ks.length = 16) (hxl : x.laid = 8) (hxk : ∀ n, n < 8 → x.ks.getD (2 * n) 0 = (n : Int)) (hyk : ∀ n, n < 7 → y.ks.getD (2 * n) 0 = (n : Int)) (hyc : 0 < y.cs.length) (hsu : U64s s.ws) (hxu : U64s x.ws) (hyu : U64s y.ws) (w : World)
    (CH : Hid (∀ W, Calls Tryd.prog 16 #[] W (AnsB W (.agg #[.int .u8 c.tag, .int .i64 c.most, .int .i64 c.seg, .int .i64 c.least, .int .i64 c.den, .int .i64 c.ll, .int .i64 c.rl, .int .i64 c.rh, .int .i64 c.lh]))))
    (NW : Hid (∀ W, Calls Tryd.prog 15 #[.agg #[.int .u8 c.tag, .int .i64 c.most, .int .i64 c.seg, .int .i64 c.least, .int .i64 c.den, .int .i64 c.ll, .int .i64 c.rl, .int .i64 c.rh, .int .i64 c.lh]] W (FreshSl2 W s (.int .i64 0))))
    (NE : Hid (∀ W, Calls Tryd.prog 15 #[.agg #[.int .u8 0, .int .i64 0, .int .i64 0, .int .i64 0, .int .i64 0, .int .i64 0, .int .i64 0, .int .i64 0, .int .i64 0]] W (FreshSl2 W nilC (.int .i64 50))))
    (L1 : Hid (∀ (W : World) (sa : SlA) (la : Option Addr) (lc : Nat), Below w.heap.size w W → SlIn W s sa → s.cs.length ≤ sa.cc → IsRow .i64 W la L8 → Calls Tryd.prog 17 #[.agg #[.int .u8 c.tag, .int .i64 c.most, .int .i64 c.seg, .int .i64 c.least, .int .i64 c.den, .int .i64 c.ll, .int .i64 c.rl, .int .i64 c.rh, .int .i64 c.lh], slV s sa, .slice la 8 lc] W (FreshSl2 W x (.int .i64 0))))
    (L2 : Hid (∀ (W : World) (sa : SlA) (la : Option Addr) (lc : Nat), Below w.heap.size w W → SlIn W s sa → s.cs.length ≤ sa.cc → IsRow .i64 W la L9 → Calls Tryd.prog 17 #[.agg #[.int .u8 c.tag, .int .i64 c.most, .int .i64 c.seg, .int .i64 c.least, .int .i64 c.den, .int .i64 c.ll, .int .i64 c.rl, .int .i64 c.rh, .int .i64 c.lh], slV s sa, .slice la 9 lc] W (FreshSl2 W nilC (.int .i64 9))))
    (PX : Hid (∀ (W : World) (sa : SlA), Below w.heap.size w W → SlIn W x sa → x.cs.length ≤ sa.cc → Calls Tryd.prog 9 #[.agg #[.int .u8 c.tag, .int .i64 c.most, .int .i64 c.seg, .int .i64 c.least, .int .i64 c.den, .int .i64 c.ll, .int .i64 c.rl, .int .i64 c.rh, .int .i64 c.lh], slV x sa, .int .i64 8, .agg #[.int .i64 0, .int .i64 0]] W (FreshSl2 W nilC (.int .i64 9))))
    (PS : Hid (∀ (W : World) (sa : SlA), Below w.heap.size w W → SlIn W s sa → s.cs.length ≤ sa.cc → Calls Tryd.prog 9 #[.agg #[.int .u8 c.tag, .int .i64 c.most, .int .i64 c.seg, .int .i64 c.least, .int .i64 c.den, .int .i64 c.ll, .int .i64 c.rl, .int .i64 c.rh, .int .i64 c.lh], slV s sa, .int .i64 1, .agg #[.int .i64 0, .int .i64 0]] W (FreshSl2 W nilC (.int .i64 2))))
    (TS : Hid (∀ (W : World) (sa : SlA), Below w.heap.size w W → SlIn W s sa → s.cs.length ≤ sa.cc → Calls Tryd.prog 13 #[.agg #[.int .u8 c.tag, .int .i64 c.most, .int .i64 c.seg, .int .i64 c.least, .int .i64 c.den, .int .i64 c.ll, .int .i64 c.rl, .int .i64 c.rh, .int .i64 c.lh], slV s sa, .int .i64 0] W (FreshSl2 W nilC (.int .i64 2))))
    (TX : Hid (∀ (W : World) (sa : SlA), Below w.heap.size w W → SlIn W x sa → x.cs.length ≤ sa.cc → Calls Tryd.prog 13 #[.agg #[.int .u8 c.tag, .int .i64 c.most, .int .i64 c.seg, .int .i64 c.least, .int .i64 c.den, .int .i64 c.ll, .int .i64 c.rl, .int .i64 c.rh, .int .i64 c.lh], slV x sa, .int .i64 7] W (FreshSl2 W y (.int .i64 0))))
    (AL : Hid (∀ W, Below w.heap.size w W → Calls Tryd.prog 7 #[] W (AnsB W (.bool true))))
    (CY : Hid (∀ (W : World) (sa : SlA), Below w.heap.size w W → SlIn W ⟨y.seg, y.ws, y.ks, y.vs, y.cs.set 0 1, y.laid⟩ sa → y.cs.length ≤ sa.cc → Calls Tryd.prog 18 #[.agg #[.int .u8 c.tag, .int .i64 c.most, .int .i64 c.seg, .int .i64 c.least, .int .i64 c.den, .int .i64 c.ll, .int .i64 c.rl, .int .i64 c.rh, .int .i64 c.lh], slV ⟨y.seg, y.ws, y.ks, y.vs, y.cs.set 0 1, y.laid⟩ sa] W (AnsB W (.int .i64 8))))
    (CN : Hid (∀ W, Below w.heap.size w W → Calls Tryd.prog 18 #[.agg #[.int .u8 c.tag, .int .i64 c.most, .int .i64 c.seg, .int .i64 c.least, .int .i64 c.den, .int .i64 c.ll, .int .i64 c.rl, .int .i64 c.rh, .int .i64 c.lh], .agg #[.int .i64 0, .slice none 0 0, .slice none 0 0, .slice none 0 0, .slice none 0 0, .int .u64 0]] W (AnsB W (.int .i64 8)))) :
    Calls Tryd.prog 4 #[] w (AnsB w (.bool true)) := by
 have fx1 : ((x.ks.length : Int) != 16) = false := by rw [hx]; rfl
 have fx2 : ((y.ks.length : Int) != 16) = false := by rw [hy]; rfl
 have HXY := hid (And.intro hx (And.intro hy (And.intro hxl (And.intro hxk hyk))))
 have HYC := hid hyc
 have HU := hid (And.intro hsu (And.intro hxu hyu))
 clear hx hy hxl hxk hyk hyc hsu hxu hyu
 dsimp only [slV] at L1 L2 PX PS TS TX CY
 go_enter Tryd.func4, Tryd.ntmps4
 go_wp2_with fail
 refine (CH.out _).mono ?_
 rintro e w1 ⟨rfl, hb1⟩
 go_wp2_with fail
 refine (NW.out _).mono ?_
 rintro e w2 ⟨v1, v2, v3, v4, rfl, p1, p2, p3, p4, hb2⟩
 have HB2 := hid (below_via hb2 hb1 hb1.size)
 obtain ⟨a1, k1, rfl, i1, -, -, -, -⟩ := row_of_owns p1
 obtain ⟨a2, k2, rfl, i2, -, -, -, -⟩ := row_of_owns p2
 obtain ⟨a3, k3, rfl, i3, -, -, -, -⟩ := row_of_owns p3
 obtain ⟨a4, k4, rfl, i4, -, -, hcc, -⟩ := row_of_owns p4
 have HNs : Hid (SlIn w2 s ⟨a1, a2, a3, a4, k1, k2, k3, k4⟩) := hid ⟨i1, i2, i3, i4, HU.out.1⟩
 have HCs := hid hcc
 clear hb1 hb2 p1 p2 p3 p4 i1 i2 i3 i4 hcc NW
 go_upto_region 2 with (refine wpl_store_new 29 (.tmp 1) (.tmp 23) #[.int .i64 0, .slice none 0 0, .slice none 0 0, .slice none 0 0, .slice none 0 0, .int .u64 0] #[.int .i64 s.seg, .slice a1 s.ws.length k1, .slice a2 s.ks.length k2, .slice a3 s.vs.length k3, .slice a4 s.cs.length k4, .int .u64 s.laid] rfl rfl rfl rfl xk rfl (by simp [Value.oneCell']) ?_)
 generalize hw3 : w2.alloc (.cells #[.int .i64 s.seg, .slice a1 s.ws.length k1, .slice a2 s.ks.length k2, .slice a3 s.vs.length k3, .slice a4 s.cs.length k4, .int .u64 s.laid] 29) = w3
 have P_s : Hid (PB w3 (w2.heap.size) [.int .i64 s.seg, .slice a1 s.ws.length k1, .slice a2 s.ks.length k2, .slice a3 s.vs.length k3, .slice a4 s.cs.length k4, .int .u64 s.laid]) := by rw [← hw3]; exact hid (pb_new _ _ _ (by simp))
 have Z_s : w2.heap.size < w3.heap.size := by rw [← hw3]; simp only [World.size_alloc]; omega
 have hb3 : Below w2.heap.size w2 w3 := by rw [← hw3]; exact (Below.refl _ _).alloc (Nat.le_refl _) _
 have hz3 : w2.heap.size < w3.heap.size := by rw [← hw3]; simp
 have HB3 := xv hb3 HB2
 have D2_3 := hid hb3
 clear hw3 hb3 Z_s
 as_aux_lemma =>
 go_wp2_with (at_make; refine wpl_make (.const (.int .i64 8)) (.const (.int .i64 8)) 47 31 _ 2 16 Tryd.underlying47 info_Pair (by decide) w3.heap.size 8 _ rfl (by decide) (Nat.le_refl _) rfl rfl rfl rfl ?_; intro gl w4 hg hown hbel; rw [show Value.cells (.agg #[.int .i64 0, .int .i64 0]) = #[.int .i64 0, .int .i64 0] from rfl, lst8_zero] at hown
              have HB4 := xv hbel HB3
              have D2_4 := xv hbel D2_3
              have D3_4 := hid hbel
              have hgl : w3.heap.size ≤ gl := hg
              have HW4 := hid hown
              have hz4 := hbel.size
              clear hg hown hbel)
 go_loopg [4] 8 (fun gk iv wr => ∃ i : Nat, i + gk = 8 ∧ iv = .int .i64 i ∧ Hid (wr.ownsRow w3.heap.size 31 2 (.slice (some ⟨gl, 0, none⟩) 8 8) 8 ((lst8 i).map (Value.int .i64))) ∧ Hid (Below w3.heap.size w3 wr))
 case atStart => exact ⟨0, rfl, rfl, HW4, D3_4⟩
 case round =>
 obtain ⟨i, hig, rfl, HR, HD⟩ := hrel
 by_cases hlt : i < 8
 · obtain ⟨hc0, hf0⟩ := own_cell HR.out (j := i * 2) (by rw [lst8_len]; omega)
   have hset := own_set HR.out (i * 2) (i : Int)
   rw [lst8_set i hlt] at hset
   have HS := hid hset
   have HD2 := hid (show Below w3.heap.size w3 (wr.setCell ⟨gl, i * 2, none⟩ (.int .i64 (i : Int))) from HD.out.setCell hgl _)
   have hI : (i : Int) < 8 := xo
   have hd8 : decide ((i : Int) < 8) = true := by simpa using hI
   clear hset HR HD HW4
   go_wp2
   go_roundg (gk - 1)
   case measure => omega
   case rel => exact ⟨i + 1, by omega, by go_num, HS, HD2⟩
 · obtain rfl : i = 8 := xo
   have hd8 : decide (((8 : Nat) : Int) < 8) = false := by decide
   obtain ⟨aa, cc, he, hrow, -, -, -, -⟩ := row_of_owns HR.out
   cases he
   have HL : Hid (IsRow .i64 wr (some ⟨gl, 0, none⟩) L8) := hid hrow
   have hbr := HD.out
   have HBr := xv hbr HB3
   have hzr := hbr.size
   have HB5 := HBr
   have D2_5 := xv hbr D2_3
   replace P_s := hid (pb_below hbr P_s.out hz3)
   clear hrow HR HW4 HB4 D2_4 D3_4 hbr HD HBr D2_3
   obtain ⟨w5, hw5⟩ : ∃ W, W = wr := ⟨_, rfl⟩
   subst hw5
   as_aux_lemma =>
   go_upto_region 7 with (fail)
   have c_s0 := P_s.out 0 _ rfl
   have c_s1 := P_s.out 1 _ rfl
   have c_s2 := P_s.out 2 _ rfl
   have c_s3 := P_s.out 3 _ rfl
   have c_s4 := P_s.out 4 _ rfl
   have c_s5 := P_s.out 5 _ rfl
   have HSW := hid (HNs.out.below (D2_5.out))
   have HLW := hid (HL.out.below (Below.refl _ _))
   refine wp_region_eff 9 xk (N := 174) rfl xk xk (by decide) (fun w' => Below w5.heap.size w5 w') (effExt 29 8) (effAt 8 [36, 37, 38, 39, 35, 40, 41, 5] [.is (.agg #[.int .u8 c.tag, .int .i64 c.most, .int .i64 c.seg, .int .i64 c.least, .int .i64 c.den, .int .i64 c.ll, .int .i64 c.rl, .int .i64 c.rh, .int .i64 c.lh]), .is (.agg #[.int .i64 s.seg, .slice a1 s.ws.length k1, .slice a2 s.ks.length k2, .slice a3 s.vs.length k3, .slice a4 s.cs.length k4, .int .u64 s.laid]), .is (.slice (some ⟨gl, 0, none⟩) 8 8), .slt w5.heap.size x (.int .i64 0), .slt w5.heap.size x (.int .i64 0), .slS w5.heap.size x, .is (.int .i64 0), .box w5.heap.size 29 6] (boxL w5.heap.size 5 40)) (effAt_stays boxL_stays) (effAt_dep (n := 8) [5, 40] boxL_dep xk xk (Nat.le_refl 8) (by decide)) (Below.refl _ _).drew ?steps ?fin
   case steps =>
    refine ⟨?o0, ?o1, ?o2, ?o3, ?o4, ?o5, ?o6, ?o7, ?o8, trivial⟩
    case o0 =>
     intro u a w' ev hJ hd K hK
     have HK := hid hK
     have HC := hid (CH.out w')
     have hzJ := hJ.size
     have HJ := hid hJ
     clear hK ev hd hJ
     go_simp
     refine HC.out.mono ?_
     rintro e w'' ⟨rfl, hb⟩
     exact HK.out _ _ (fun h => by cases h) (HJ.out.trans (hb.mono hzJ)) ⟨rfl, fun h => absurd h (by decide)⟩ ⟨fun _ => hb, fun h => absurd h (by decide)⟩
    case o1 =>
     intro u a w' ev hJ hd K hK
     have e1 : a.tmps.getD 1 undef = .pointer (some ⟨w2.heap.size, 0, none⟩) := ev 1 (by decide)
     have g0 := (hJ.cell (p := ⟨w2.heap.size, 0, none⟩) (by dsimp only; omega)).trans c_s0
     have g1 := (hJ.cell (p := ⟨w2.heap.size, 1, none⟩) (by dsimp only; omega)).trans c_s1
     have g2 := (hJ.cell (p := ⟨w2.heap.size, 2, none⟩) (by dsimp only; omega)).trans c_s2
     have g3 := (hJ.cell (p := ⟨w2.heap.size, 3, none⟩) (by dsimp only; omega)).trans c_s3
     have g4 := (hJ.cell (p := ⟨w2.heap.size, 4, none⟩) (by dsimp only; omega)).trans c_s4
     have g5 := (hJ.cell (p := ⟨w2.heap.size, 5, none⟩) (by dsimp only; omega)).trans c_s5
     have HK := hid hK
     clear hK ev hd
     go_simp
     exact HK.out _ _ (fun h => by cases h) hJ ⟨rfl, fun h => absurd h (by decide)⟩ ⟨fun _ => Below.refl _ _, fun h => absurd h (by decide)⟩
    case o2 =>
     intro u a w' ev hJ hd K hK
     have e3 : a.tmps.getD 3 undef = .slice (some ⟨gl, 0, none⟩) 8 8 := ev 3 (by decide)
     have HK := hid hK
     clear hK ev hd
     go_simp
     exact HK.out _ _ (fun h => by cases h) hJ ⟨rfl, fun h => absurd h (by decide)⟩ ⟨fun _ => Below.refl _ _, fun h => absurd h (by decide)⟩
    case o3 =>
     intro u a w' ev hJ hd K hK
     have e36 : a.tmps.getD 36 undef = .agg #[.int .u8 c.tag, .int .i64 c.most, .int .i64 c.seg, .int .i64 c.least, .int .i64 c.den, .int .i64 c.ll, .int .i64 c.rl, .int .i64 c.rh, .int .i64 c.lh] := (ev 36 (by decide)).trans (hd 0 _ xk rfl).1
     have e37 : a.tmps.getD 37 undef = .agg #[.int .i64 s.seg, .slice a1 s.ws.length k1, .slice a2 s.ks.length k2, .slice a3 s.vs.length k3, .slice a4 s.cs.length k4, .int .u64 s.laid] := (ev 37 (by decide)).trans (hd 1 _ xk rfl).1
     have e38 : a.tmps.getD 38 undef = .slice (some ⟨gl, 0, none⟩) 8 8 := (ev 38 (by decide)).trans (hd 2 _ xk rfl).1
     have HK := hid hK
     have HC := hid (L1.out w' ⟨a1, a2, a3, a4, k1, k2, k3, k4⟩ (some ⟨gl, 0, none⟩) 8 (below_via hJ HB5.out HB5.out.size) (HSW.out.below hJ) HCs.out (HLW.out.below hJ))
     have hzJ := hJ.size
     have HJ := hid hJ
     clear hK ev hd hJ
     go_simp
     refine HC.out.mono ?_
     rintro e w'' ⟨v1, v2, v3, v4, rfl, p1, p2, p3, p4, hb⟩
     exact HK.out _ _ (fun h => by cases h) (HJ.out.trans (hb.mono hzJ)) ⟨⟨_, rfl, v1, v2, v3, v4, rfl, owns_base p1 hzJ, owns_base p2 hzJ, owns_base p3 hzJ, owns_base p4 hzJ⟩, fun h => absurd h (by decide)⟩ ⟨fun _ => hb, fun h => absurd h (by decide)⟩
    case o4 =>
     intro u a w' ev hJ hd K hK
     obtain ⟨y, ht, hy⟩ : (FactR.slt w5.heap.size x (.int .i64 0)).holds (u 39) w' := (hd 3 _ xk rfl).1
     have e39 : a.tmps.getD 39 undef = _ := (ev 39 (by decide)).trans ht
     have HK := hid hK
     have HY := hid hy
     clear hK ev hd hy
     go_simp
     exact HK.out _ _ (fun h => by cases h) hJ ⟨⟨y, rfl, HY.out⟩, fun h => absurd h (by decide)⟩ ⟨fun _ => Below.refl _ _, fun h => absurd h (by decide)⟩
    case o5 =>
     intro u a w' ev hJ hd K hK
     obtain ⟨y, ht, hy⟩ : (FactR.slt w5.heap.size x (.int .i64 0)).holds (u 35) w' := (hd 4 _ xk rfl).1
     have e35 : a.tmps.getD 35 undef = _ := (ev 35 (by decide)).trans ht
     have HK := hid hK
     have HY := hid hy
     clear hK ev hd hy
     go_simp
     exact HK.out _ _ (fun h => by cases h) hJ ⟨HY.out, fun h => absurd h (by decide)⟩ ⟨fun _ => Below.refl _ _, fun h => absurd h (by decide)⟩
    case o6 =>
     intro u a w' ev hJ hd K hK
     obtain ⟨y, ht, hy⟩ : (FactR.slt w5.heap.size x (.int .i64 0)).holds (u 35) w' := (hd 4 _ xk rfl).1
     have e35 : a.tmps.getD 35 undef = _ := (ev 35 (by decide)).trans ht
     have HK := hid hK
     have HY := hid hy
     clear hK ev hd hy
     go_simp
     exact HK.out _ _ (fun h => by cases h) hJ ⟨rfl, fun h => absurd h (by decide)⟩ ⟨fun _ => Below.refl _ _, fun h => absurd h (by decide)⟩
    case o7 =>
     intro u a w' ev hJ hd K hK
     have HK := hid hK
     have hzJ := hJ.size
     have HJ := hid hJ
     clear hK ev hd hJ
     go_simp
     exact HK.out _ _ (fun h => by cases h) (HJ.out.alloc hzJ _) ⟨⟨_, _, rfl, hzJ, alloc_new _ _, rfl⟩, fun h => absurd h (by decide)⟩ ⟨fun _ => (Below.refl _ _).alloc (Nat.le_refl _) _, fun h => absurd h (by decide)⟩
    case o8 =>
     intro u a w' ev hJ hd K hK
     obtain ⟨b6, cs6, h6, hz6, hh6, hn6⟩ : (FactR.box w5.heap.size 29 6).holds (u 5) w' := (hd 7 _ xk rfl).1
     obtain ⟨v1, v2, v3, v4, h5, o1, o2, o3, o4⟩ : (FactR.sl w5.heap.size x).holds (u 40) w' := (hd 5 _ xk rfl).1
     obtain ⟨q1, m1, rfl, -⟩ := owns_news o1
     obtain ⟨q2, m2, rfl, -⟩ := owns_news o2
     obtain ⟨q3, m3, rfl, -⟩ := owns_news o3
     obtain ⟨q4, m4, rfl, -⟩ := owns_news o4
     have hlt : b6 < w'.heap.size := (Array.getElem?_eq_some_iff.1 hh6).1
     obtain ⟨x0, x1, x2, x3, x4, x5, ⟨k0, k1, k2, k3, k4, k5⟩, f0, f1, f2, f3, f4, f5⟩ := boxE_six hh6 hn6
     have e7 : a.tmps.getD 5 undef = _ := (ev 5 (by decide)).trans h6
     have e5 : a.tmps.getD 40 undef = _ := (ev 40 (by decide)).trans h5
     have HS := hid (six_set (w := w') (b := b6) (x := .int .i64 x.seg) (y := .slice q1 x.ws.length m1) (z := .slice q2 x.ks.length m2) (p := .slice q3 x.vs.length m3) (q := .slice q4 x.cs.length m4) (r := .int .u64 x.laid) k0 k1 k2 k3 k4 k5)
     have HT := hid (six_stT hh6 (.int .i64 x.seg) (.slice q1 x.ws.length m1) (.slice q2 x.ks.length m2) (.slice q3 x.vs.length m3) (.slice q4 x.cs.length m4) (.int .u64 x.laid))
     have HK := hid hK
     have HJ := hid hJ
     have HH := hid (And.intro h6 h5)
     clear hK ev hd hJ h6 h5 hh6 o1 o2 o3 o4
     go_simp
     exact HK.out _ _ (fun _ => rfl) ((((((HJ.out.setCell (by dsimp only; omega) _).setCell (by dsimp only; omega) _).setCell (by dsimp only; omega) _).setCell (by dsimp only; omega) _).setCell (by dsimp only; omega) _).setCell (by dsimp only; omega) _) ⟨trivial, fun _ => ⟨b6, _, HH.out.1, hz6, by simp only [World.size_setCell]; exact hlt, HH.out.2, HS.out⟩⟩ ⟨fun h => absurd rfl h, fun _ => HT.out⟩
   case fin =>
   intro u7 w6 hJ hG
   clear c_s0 c_s1 c_s2 c_s3 c_s4 c_s5 HSW HLW
   have h6 : u7 41 = .int .i64 0 := (hG 6 _ rfl).1
   obtain ⟨v1, v2, v3, v4, h5, p1, p2, p3, p4⟩ : (FactR.sl w5.heap.size x).holds (u7 40) w6 := (hG 5 _ rfl).1
   obtain ⟨bx, cs, h7, hb0, hb1, hx, hpb⟩ : boxL w5.heap.size 5 40 u7 w6 := (hG 8 _ rfl).2 rfl
   obtain ⟨bt, cst, h8, hbt0, hbt1, hbt2⟩ : (FactR.box w5.heap.size 29 6).holds (u7 5) w6 := (hG 7 _ rfl).1
   rw [h7] at h8
   cases h8
   rw [h5] at hx
   cases hx
   have HXx := hid (row_apart hbt1 p4 (by decide))
   obtain ⟨b1, j1, rfl, i1, -, -, -, -⟩ := row_of_owns p1
   obtain ⟨b2, j2, rfl, i2, -, -, -, -⟩ := row_of_owns p2
   obtain ⟨b3, j3, rfl, i3, -, -, -, -⟩ := row_of_owns p3
   obtain ⟨b4, j4, rfl, i4, -, -, hcc, -⟩ := row_of_owns p4
   have HNx : Hid (SlIn w6 x ⟨b1, b2, b3, b4, j1, j2, j3, j4⟩) := hid ⟨i1, i2, i3, i4, HU.out.2.1⟩
   have HOx := hid (And.intro p1 (And.intro p2 (And.intro p3 p4)))
   have HCx := hid hcc
   have P_x := hid hpb
   have hzzx : w5.heap.size ≤ bx ∧ bx < w6.heap.size := ⟨hb0, hb1⟩
   clear p1 p2 p3 p4 i1 i2 i3 i4 hcc hpb hbt0 hbt1 hbt2 hb0 hb1
   replace P_s := hid (pb_below hJ P_s.out xo)
   have HB6 := xv hJ HB5
   have D2_6 := xv hJ D2_5
   have D5_6 := hid (hJ)
   clear D2_5
   have hJz6 := hJ.size
   clear hJ hG
   simp only [mixFrame, mixL, dstsOf, List.take_succ_cons, List.take_zero, List.filterMap_cons, List.filterMap_nil, List.contains_cons, List.contains_nil, Nat.reduceBEq, Bool.or_false, Bool.false_or, Bool.or_true, Bool.true_or, if_true, if_false, Bool.false_eq_true, Nat.reduceAdd, Nat.zero_add, List.drop_succ_cons, List.drop_zero, h6, h5, h7]
   clear h6 h5 h7
   as_aux_lemma =>
   go_upto_region 8 with (fail)
   have c_s0 := P_s.out 0 _ rfl
   have c_s1 := P_s.out 1 _ rfl
   have c_s2 := P_s.out 2 _ rfl
   have c_s3 := P_s.out 3 _ rfl
   have c_s4 := P_s.out 4 _ rfl
   have c_s5 := P_s.out 5 _ rfl
   have HSW := hid (HNs.out.below (D2_6.out))
   have HLW := hid (HL.out.below (D5_6.out))
   refine wp_region_eff 12 xk (N := 174) rfl xk xk (by decide) (fun w' => Below w6.heap.size w6 w') (effExt 29 11) (effAt 11 [43, 44, 45, 46, 47, 48, 49, 42, 50, 51, 7] [.is (.agg #[.int .u8 c.tag, .int .i64 c.most, .int .i64 c.seg, .int .i64 c.least, .int .i64 c.den, .int .i64 c.ll, .int .i64 c.rl, .int .i64 c.rh, .int .i64 c.lh]), .is (.agg #[.int .i64 s.seg, .slice a1 s.ws.length k1, .slice a2 s.ks.length k2, .slice a3 s.vs.length k3, .slice a4 s.cs.length k4, .int .u64 s.laid]), .is (.slice (some ⟨gl, 0, none⟩) 8 8), .is (.agg #[.int .i64 0, .int .i64 0]), oneE w6.heap.size [.int .i64 0, .int .i64 0], ownE w6.heap.size 9 (L8.map (Value.int .i64) ++ [.int .i64 0, .int .i64 0]), .slt w6.heap.size nilC (.int .i64 9), .slt w6.heap.size nilC (.int .i64 9), .slS w6.heap.size nilC, .is (.int .i64 9), .box w6.heap.size 29 6] (boxL w6.heap.size 7 50)) (effAt_stays boxL_stays) (effAt_dep (n := 11) [7, 50] boxL_dep xk xk (Nat.le_refl 11) (by decide)) (Below.refl _ _).drew ?steps ?fin
   case steps =>
    refine ⟨?o0, ?o1, ?o2, ?o3, ?o4, ?o5, ?o6, ?o7, ?o8, ?o9, ?o10, ?o11, trivial⟩
    case o0 =>
     intro u a w' ev hJ hd K hK
     have HK := hid hK
     have HC := hid (CH.out w')
     have hzJ := hJ.size
     have HJ := hid hJ
     clear hK ev hd hJ
     go_simp
     refine HC.out.mono ?_
     rintro e w'' ⟨rfl, hb⟩
     exact HK.out _ _ (fun h => by cases h) (HJ.out.trans (hb.mono hzJ)) ⟨rfl, fun h => absurd h (by decide)⟩ ⟨fun _ => hb, fun h => absurd h (by decide)⟩
    case o1 =>
     intro u a w' ev hJ hd K hK
     have e1 : a.tmps.getD 1 undef = .pointer (some ⟨w2.heap.size, 0, none⟩) := ev 1 (by decide)
     have g0 := (hJ.cell (p := ⟨w2.heap.size, 0, none⟩) (by dsimp only; omega)).trans c_s0
     have g1 := (hJ.cell (p := ⟨w2.heap.size, 1, none⟩) (by dsimp only; omega)).trans c_s1
     have g2 := (hJ.cell (p := ⟨w2.heap.size, 2, none⟩) (by dsimp only; omega)).trans c_s2
     have g3 := (hJ.cell (p := ⟨w2.heap.size, 3, none⟩) (by dsimp only; omega)).trans c_s3
     have g4 := (hJ.cell (p := ⟨w2.heap.size, 4, none⟩) (by dsimp only; omega)).trans c_s4
     have g5 := (hJ.cell (p := ⟨w2.heap.size, 5, none⟩) (by dsimp only; omega)).trans c_s5
     have HK := hid hK
     clear hK ev hd
     go_simp
     exact HK.out _ _ (fun h => by cases h) hJ ⟨rfl, fun h => absurd h (by decide)⟩ ⟨fun _ => Below.refl _ _, fun h => absurd h (by decide)⟩
    case o2 =>
     intro u a w' ev hJ hd K hK
     have e3 : a.tmps.getD 3 undef = .slice (some ⟨gl, 0, none⟩) 8 8 := ev 3 (by decide)
     have HK := hid hK
     clear hK ev hd
     go_simp
     exact HK.out _ _ (fun h => by cases h) hJ ⟨rfl, fun h => absurd h (by decide)⟩ ⟨fun _ => Below.refl _ _, fun h => absurd h (by decide)⟩
    case o3 =>
     intro u a w' ev hJ hd K hK
     have HK := hid hK
     clear hK ev hd
     go_simp
     exact HK.out _ _ (fun h => by cases h) hJ ⟨rfl, fun h => absurd h (by decide)⟩ ⟨fun _ => Below.refl _ _, fun h => absurd h (by decide)⟩
    case o4 =>
     intro u a w' ev hJ hd K hK
     have e46 : a.tmps.getD 46 undef = .agg #[.int .i64 0, .int .i64 0] := (ev 46 (by decide)).trans (hd 3 _ xk rfl).1
     have f46 : a.tmps[46]?.getD undef = .agg #[.int .i64 0, .int .i64 0] := by rw [← Array.getD_eq_getD_getElem?]; exact e46
     have HK := hid hK
     have hzJ := hJ.size
     clear hK ev hd
     go_simp
     exact HK.out _ _ (fun h => by cases h) (hJ.alloc hzJ _) ⟨⟨_, rfl, World.ownsRow_lit _ _ 1 hzJ (by decide) rfl⟩, fun h => absurd h (by decide)⟩ ⟨fun _ => (Below.refl _ _).alloc (Nat.le_refl _) _, fun h => absurd h (by decide)⟩
    case o5 =>
     intro u a w' ev hJ hd K hK
     have e45 : a.tmps.getD 45 undef = .slice (some ⟨gl, 0, none⟩) 8 8 := (ev 45 (by decide)).trans (hd 2 _ xk rfl).1
     obtain ⟨bb, h50, hown⟩ : (oneE w6.heap.size [.int .i64 0, .int .i64 0]).holds (u 47) w' := (hd 4 _ xk rfl).1
     have e50 : a.tmps.getD 47 undef = .slice (some ⟨bb, 0, none⟩) 1 1 := (ev 47 (by decide)).trans h50
     rw [h50] at hown
     have hzJ := hJ.size
     obtain ⟨v', w'', hr, ho, hg, -⟩ := run_append_full (P := Tryd.prog) w' w6.heap.size 47 _ 31 (.agg #[.int .i64 0, .int .i64 0]) 2 16 Tryd.underlying47 info_Pair rfl (by decide) (some ⟨gl, 0, none⟩) 8 (L8.map (Value.int .i64)) (by rw [List.length_map]; rfl) (fun h => by cases h) (row_news' (HLW.out.below hJ)) ⟨bb, 0, none⟩ 1 1 [.int .i64 0, .int .i64 0] rfl (World.ownsRow.cells hown (g := bb) rfl) (by simp [Value.oneCell']) (by decide) (by decide) (by decide) hzJ
     have hbw : Below w'.heap.size w' w'' := (Below.refl _ _).grown hg (Nat.le_refl _) (fun k hk => by cases hk)
     exact wp_value (exec_append rfl e45 e50 hr) (hK _ _ (fun h => by cases h) (hJ.trans (hbw.mono hzJ)) ⟨ho, fun h => absurd h (by decide)⟩ ⟨fun _ => hbw, fun h => absurd h (by decide)⟩)
    case o6 =>
     intro u a w' ev hJ hd K hK
     have e43 : a.tmps.getD 43 undef = .agg #[.int .u8 c.tag, .int .i64 c.most, .int .i64 c.seg, .int .i64 c.least, .int .i64 c.den, .int .i64 c.ll, .int .i64 c.rl, .int .i64 c.rh, .int .i64 c.lh] := (ev 43 (by decide)).trans (hd 0 _ xk rfl).1
     have e44 : a.tmps.getD 44 undef = .agg #[.int .i64 s.seg, .slice a1 s.ws.length k1, .slice a2 s.ks.length k2, .slice a3 s.vs.length k3, .slice a4 s.cs.length k4, .int .u64 s.laid] := (ev 44 (by decide)).trans (hd 1 _ xk rfl).1
     have ho9 : w'.ownsRow w6.heap.size 31 2 (u 48) 9 (L8.map (Value.int .i64) ++ [.int .i64 0, .int .i64 0]) := (hd 5 _ xk rfl).1
     obtain ⟨a9, c9, h9, -⟩ := owns_news ho9
     rw [h9] at ho9
     have e48 : a.tmps.getD 48 undef = .slice a9 9 c9 := (ev 48 (by decide)).trans h9
     have hrow9 : IsRow .i64 w' a9 L9 := by
      rw [show L8.map (Value.int .i64) ++ [.int .i64 0, .int .i64 0] = L9.map (Value.int .i64) from rfl] at ho9
      obtain ⟨a', c', he, hh, -⟩ := row_of_owns ho9
      cases he
      exact hh
     have HK := hid hK
     have HC := hid (L2.out w' ⟨a1, a2, a3, a4, k1, k2, k3, k4⟩ a9 c9 (below_via hJ HB6.out HB6.out.size) (HSW.out.below hJ) HCs.out hrow9)
     have hzJ := hJ.size
     have HJ := hid hJ
     clear hK ev hd hJ ho9 hrow9 h9
     go_simp
     refine HC.out.mono ?_
     rintro e w'' ⟨v1, v2, v3, v4, rfl, p1, p2, p3, p4, hb⟩
     exact HK.out _ _ (fun h => by cases h) (HJ.out.trans (hb.mono hzJ)) ⟨⟨_, rfl, v1, v2, v3, v4, rfl, owns_base p1 hzJ, owns_base p2 hzJ, owns_base p3 hzJ, owns_base p4 hzJ⟩, fun h => absurd h (by decide)⟩ ⟨fun _ => hb, fun h => absurd h (by decide)⟩
    case o7 =>
     intro u a w' ev hJ hd K hK
     obtain ⟨y, ht, hy⟩ : (FactR.slt w6.heap.size nilC (.int .i64 9)).holds (u 49) w' := (hd 6 _ xk rfl).1
     have e49 : a.tmps.getD 49 undef = _ := (ev 49 (by decide)).trans ht
     have HK := hid hK
     have HY := hid hy
     clear hK ev hd hy
     go_simp
     exact HK.out _ _ (fun h => by cases h) hJ ⟨⟨y, rfl, HY.out⟩, fun h => absurd h (by decide)⟩ ⟨fun _ => Below.refl _ _, fun h => absurd h (by decide)⟩
    case o8 =>
     intro u a w' ev hJ hd K hK
     obtain ⟨y, ht, hy⟩ : (FactR.slt w6.heap.size nilC (.int .i64 9)).holds (u 42) w' := (hd 7 _ xk rfl).1
     have e42 : a.tmps.getD 42 undef = _ := (ev 42 (by decide)).trans ht
     have HK := hid hK
     have HY := hid hy
     clear hK ev hd hy
     go_simp
     exact HK.out _ _ (fun h => by cases h) hJ ⟨HY.out, fun h => absurd h (by decide)⟩ ⟨fun _ => Below.refl _ _, fun h => absurd h (by decide)⟩
    case o9 =>
     intro u a w' ev hJ hd K hK
     obtain ⟨y, ht, hy⟩ : (FactR.slt w6.heap.size nilC (.int .i64 9)).holds (u 42) w' := (hd 7 _ xk rfl).1
     have e42 : a.tmps.getD 42 undef = _ := (ev 42 (by decide)).trans ht
     have HK := hid hK
     have HY := hid hy
     clear hK ev hd hy
     go_simp
     exact HK.out _ _ (fun h => by cases h) hJ ⟨rfl, fun h => absurd h (by decide)⟩ ⟨fun _ => Below.refl _ _, fun h => absurd h (by decide)⟩
    case o10 =>
     intro u a w' ev hJ hd K hK
     have HK := hid hK
     have hzJ := hJ.size
     have HJ := hid hJ
     clear hK ev hd hJ
     go_simp
     exact HK.out _ _ (fun h => by cases h) (HJ.out.alloc hzJ _) ⟨⟨_, _, rfl, hzJ, alloc_new _ _, rfl⟩, fun h => absurd h (by decide)⟩ ⟨fun _ => (Below.refl _ _).alloc (Nat.le_refl _) _, fun h => absurd h (by decide)⟩
    case o11 =>
     intro u a w' ev hJ hd K hK
     obtain ⟨b6, cs6, h6, hz6, hh6, hn6⟩ : (FactR.box w6.heap.size 29 6).holds (u 7) w' := (hd 10 _ xk rfl).1
     obtain ⟨v1, v2, v3, v4, h5, o1, o2, o3, o4⟩ : (FactR.sl w6.heap.size nilC).holds (u 50) w' := (hd 8 _ xk rfl).1
     obtain ⟨q1, m1, rfl, -⟩ := owns_news o1
     obtain ⟨q2, m2, rfl, -⟩ := owns_news o2
     obtain ⟨q3, m3, rfl, -⟩ := owns_news o3
     obtain ⟨q4, m4, rfl, -⟩ := owns_news o4
     have hlt : b6 < w'.heap.size := (Array.getElem?_eq_some_iff.1 hh6).1
     obtain ⟨x0, x1, x2, x3, x4, x5, ⟨k0, k1, k2, k3, k4, k5⟩, f0, f1, f2, f3, f4, f5⟩ := boxE_six hh6 hn6
     have e7 : a.tmps.getD 7 undef = _ := (ev 7 (by decide)).trans h6
     have e5 : a.tmps.getD 50 undef = _ := (ev 50 (by decide)).trans h5
     have HS := hid (six_set (w := w') (b := b6) (x := .int .i64 nilC.seg) (y := .slice q1 nilC.ws.length m1) (z := .slice q2 nilC.ks.length m2) (p := .slice q3 nilC.vs.length m3) (q := .slice q4 nilC.cs.length m4) (r := .int .u64 nilC.laid) k0 k1 k2 k3 k4 k5)
     have HT := hid (six_stT hh6 (.int .i64 nilC.seg) (.slice q1 nilC.ws.length m1) (.slice q2 nilC.ks.length m2) (.slice q3 nilC.vs.length m3) (.slice q4 nilC.cs.length m4) (.int .u64 nilC.laid))
     have HK := hid hK
     have HJ := hid hJ
     have HH := hid (And.intro h6 h5)
     clear hK ev hd hJ h6 h5 hh6 o1 o2 o3 o4
     go_simp
     exact HK.out _ _ (fun _ => rfl) ((((((HJ.out.setCell (by dsimp only; omega) _).setCell (by dsimp only; omega) _).setCell (by dsimp only; omega) _).setCell (by dsimp only; omega) _).setCell (by dsimp only; omega) _).setCell (by dsimp only; omega) _) ⟨trivial, fun _ => ⟨b6, _, HH.out.1, hz6, by simp only [World.size_setCell]; exact hlt, HH.out.2, HS.out⟩⟩ ⟨fun h => absurd rfl h, fun _ => HT.out⟩
   case fin =>
   intro u8 w7 hJ hG
   clear c_s0 c_s1 c_s2 c_s3 c_s4 c_s5 HSW HLW
   have h6 : u8 51 = .int .i64 9 := (hG 9 _ rfl).1
   replace P_s := hid (pb_below hJ P_s.out xo)
   replace P_x := hid (pb_below hJ P_x.out xo)
   have HB7 := xv hJ HB6
   have D2_7 := xv hJ D2_6
   have D5_7 := xv hJ D5_6
   have D6_7 := hid (hJ)
   clear D2_6 D5_6
   have hJz7 := hJ.size
   clear hJ hG
   simp only [mixFrame, mixL, dstsOf, List.take_succ_cons, List.take_zero, List.filterMap_cons, List.filterMap_nil, List.contains_cons, List.contains_nil, Nat.reduceBEq, Bool.or_false, Bool.false_or, Bool.or_true, Bool.true_or, if_true, if_false, Bool.false_eq_true, Nat.reduceAdd, Nat.zero_add, List.drop_succ_cons, List.drop_zero, h6]
   clear h6
   as_aux_lemma =>
   go_upto_region 9 with (fail)
   have c_x0 := P_x.out 0 _ rfl
   have c_x1 := P_x.out 1 _ rfl
   have c_x2 := P_x.out 2 _ rfl
   have c_x3 := P_x.out 3 _ rfl
   have c_x4 := P_x.out 4 _ rfl
   have c_x5 := P_x.out 5 _ rfl
   have HSW := hid (HNx.out.below (D6_7.out))
   have HLW := hid (HL.out.below (D5_7.out))
   refine wp_region_eff 9 xk (N := 174) rfl xk xk (by decide) (fun w' => Below w7.heap.size w7 w') (effExt 29 8) (effAt 8 [53, 54, 55, 56, 52, 57, 58, 9] [.is (.agg #[.int .u8 c.tag, .int .i64 c.most, .int .i64 c.seg, .int .i64 c.least, .int .i64 c.den, .int .i64 c.ll, .int .i64 c.rl, .int .i64 c.rh, .int .i64 c.lh]), .is (.agg #[.int .i64 x.seg, .slice b1 x.ws.length j1, .slice b2 x.ks.length j2, .slice b3 x.vs.length j3, .slice b4 x.cs.length j4, .int .u64 x.laid]), .is (.agg #[.int .i64 0, .int .i64 0]), .slt w7.heap.size nilC (.int .i64 9), .slt w7.heap.size nilC (.int .i64 9), .slS w7.heap.size nilC, .is (.int .i64 9), .box w7.heap.size 29 6] (boxL w7.heap.size 9 57)) (effAt_stays boxL_stays) (effAt_dep (n := 8) [9, 57] boxL_dep xk xk (Nat.le_refl 8) (by decide)) (Below.refl _ _).drew ?steps ?fin
   case steps =>
    refine ⟨?o0, ?o1, ?o2, ?o3, ?o4, ?o5, ?o6, ?o7, ?o8, trivial⟩
    case o0 =>
     intro u a w' ev hJ hd K hK
     have HK := hid hK
     have HC := hid (CH.out w')
     have hzJ := hJ.size
     have HJ := hid hJ
     clear hK ev hd hJ
     go_simp
     refine HC.out.mono ?_
     rintro e w'' ⟨rfl, hb⟩
     exact HK.out _ _ (fun h => by cases h) (HJ.out.trans (hb.mono hzJ)) ⟨rfl, fun h => absurd h (by decide)⟩ ⟨fun _ => hb, fun h => absurd h (by decide)⟩
    case o1 =>
     intro u a w' ev hJ hd K hK
     have e5 : a.tmps.getD 5 undef = .pointer (some ⟨bx, 0, none⟩) := ev 5 (by decide)
     have g0 := (hJ.cell (p := ⟨bx, 0, none⟩) (by dsimp only; omega)).trans c_x0
     have g1 := (hJ.cell (p := ⟨bx, 1, none⟩) (by dsimp only; omega)).trans c_x1
     have g2 := (hJ.cell (p := ⟨bx, 2, none⟩) (by dsimp only; omega)).trans c_x2
     have g3 := (hJ.cell (p := ⟨bx, 3, none⟩) (by dsimp only; omega)).trans c_x3
     have g4 := (hJ.cell (p := ⟨bx, 4, none⟩) (by dsimp only; omega)).trans c_x4
     have g5 := (hJ.cell (p := ⟨bx, 5, none⟩) (by dsimp only; omega)).trans c_x5
     have HK := hid hK
     clear hK ev hd
     go_simp
     exact HK.out _ _ (fun h => by cases h) hJ ⟨rfl, fun h => absurd h (by decide)⟩ ⟨fun _ => Below.refl _ _, fun h => absurd h (by decide)⟩
    case o2 =>
     intro u a w' ev hJ hd K hK
     have HK := hid hK
     clear hK ev hd
     go_simp
     exact HK.out _ _ (fun h => by cases h) hJ ⟨rfl, fun h => absurd h (by decide)⟩ ⟨fun _ => Below.refl _ _, fun h => absurd h (by decide)⟩
    case o3 =>
     intro u a w' ev hJ hd K hK
     have e53 : a.tmps.getD 53 undef = .agg #[.int .u8 c.tag, .int .i64 c.most, .int .i64 c.seg, .int .i64 c.least, .int .i64 c.den, .int .i64 c.ll, .int .i64 c.rl, .int .i64 c.rh, .int .i64 c.lh] := (ev 53 (by decide)).trans (hd 0 _ xk rfl).1
     have e54 : a.tmps.getD 54 undef = .agg #[.int .i64 x.seg, .slice b1 x.ws.length j1, .slice b2 x.ks.length j2, .slice b3 x.vs.length j3, .slice b4 x.cs.length j4, .int .u64 x.laid] := (ev 54 (by decide)).trans (hd 1 _ xk rfl).1
     have e55 : a.tmps.getD 55 undef = .agg #[.int .i64 0, .int .i64 0] := (ev 55 (by decide)).trans (hd 2 _ xk rfl).1
     have HK := hid hK
     have HC := hid (PX.out w' ⟨b1, b2, b3, b4, j1, j2, j3, j4⟩ (below_via hJ HB7.out HB7.out.size) (HSW.out.below hJ) HCx.out)
     have hzJ := hJ.size
     have HJ := hid hJ
     clear hK ev hd hJ
     go_simp
     refine HC.out.mono ?_
     rintro e w'' ⟨v1, v2, v3, v4, rfl, p1, p2, p3, p4, hb⟩
     exact HK.out _ _ (fun h => by cases h) (HJ.out.trans (hb.mono hzJ)) ⟨⟨_, rfl, v1, v2, v3, v4, rfl, owns_base p1 hzJ, owns_base p2 hzJ, owns_base p3 hzJ, owns_base p4 hzJ⟩, fun h => absurd h (by decide)⟩ ⟨fun _ => hb, fun h => absurd h (by decide)⟩
    case o4 =>
     intro u a w' ev hJ hd K hK
     obtain ⟨y, ht, hy⟩ : (FactR.slt w7.heap.size nilC (.int .i64 9)).holds (u 56) w' := (hd 3 _ xk rfl).1
     have e56 : a.tmps.getD 56 undef = _ := (ev 56 (by decide)).trans ht
     have HK := hid hK
     have HY := hid hy
     clear hK ev hd hy
     go_simp
     exact HK.out _ _ (fun h => by cases h) hJ ⟨⟨y, rfl, HY.out⟩, fun h => absurd h (by decide)⟩ ⟨fun _ => Below.refl _ _, fun h => absurd h (by decide)⟩
    case o5 =>
     intro u a w' ev hJ hd K hK
     obtain ⟨y, ht, hy⟩ : (FactR.slt w7.heap.size nilC (.int .i64 9)).holds (u 52) w' := (hd 4 _ xk rfl).1
     have e52 : a.tmps.getD 52 undef = _ := (ev 52 (by decide)).trans ht
     have HK := hid hK
     have HY := hid hy
     clear hK ev hd hy
     go_simp
     exact HK.out _ _ (fun h => by cases h) hJ ⟨HY.out, fun h => absurd h (by decide)⟩ ⟨fun _ => Below.refl _ _, fun h => absurd h (by decide)⟩
    case o6 =>
     intro u a w' ev hJ hd K hK
     obtain ⟨y, ht, hy⟩ : (FactR.slt w7.heap.size nilC (.int .i64 9)).holds (u 52) w' := (hd 4 _ xk rfl).1
     have e52 : a.tmps.getD 52 undef = _ := (ev 52 (by decide)).trans ht
     have HK := hid hK
     have HY := hid hy
     clear hK ev hd hy
     go_simp
     exact HK.out _ _ (fun h => by cases h) hJ ⟨rfl, fun h => absurd h (by decide)⟩ ⟨fun _ => Below.refl _ _, fun h => absurd h (by decide)⟩
    case o7 =>
     intro u a w' ev hJ hd K hK
     have HK := hid hK
     have hzJ := hJ.size
     have HJ := hid hJ
     clear hK ev hd hJ
     go_simp
     exact HK.out _ _ (fun h => by cases h) (HJ.out.alloc hzJ _) ⟨⟨_, _, rfl, hzJ, alloc_new _ _, rfl⟩, fun h => absurd h (by decide)⟩ ⟨fun _ => (Below.refl _ _).alloc (Nat.le_refl _) _, fun h => absurd h (by decide)⟩
    case o8 =>
     intro u a w' ev hJ hd K hK
     obtain ⟨b6, cs6, h6, hz6, hh6, hn6⟩ : (FactR.box w7.heap.size 29 6).holds (u 9) w' := (hd 7 _ xk rfl).1
     obtain ⟨v1, v2, v3, v4, h5, o1, o2, o3, o4⟩ : (FactR.sl w7.heap.size nilC).holds (u 57) w' := (hd 5 _ xk rfl).1
     obtain ⟨q1, m1, rfl, -⟩ := owns_news o1
     obtain ⟨q2, m2, rfl, -⟩ := owns_news o2
     obtain ⟨q3, m3, rfl, -⟩ := owns_news o3
     obtain ⟨q4, m4, rfl, -⟩ := owns_news o4
     have hlt : b6 < w'.heap.size := (Array.getElem?_eq_some_iff.1 hh6).1
     obtain ⟨x0, x1, x2, x3, x4, x5, ⟨k0, k1, k2, k3, k4, k5⟩, f0, f1, f2, f3, f4, f5⟩ := boxE_six hh6 hn6
     have e7 : a.tmps.getD 9 undef = _ := (ev 9 (by decide)).trans h6
     have e5 : a.tmps.getD 57 undef = _ := (ev 57 (by decide)).trans h5
     have HS := hid (six_set (w := w') (b := b6) (x := .int .i64 nilC.seg) (y := .slice q1 nilC.ws.length m1) (z := .slice q2 nilC.ks.length m2) (p := .slice q3 nilC.vs.length m3) (q := .slice q4 nilC.cs.length m4) (r := .int .u64 nilC.laid) k0 k1 k2 k3 k4 k5)
     have HT := hid (six_stT hh6 (.int .i64 nilC.seg) (.slice q1 nilC.ws.length m1) (.slice q2 nilC.ks.length m2) (.slice q3 nilC.vs.length m3) (.slice q4 nilC.cs.length m4) (.int .u64 nilC.laid))
     have HK := hid hK
     have HJ := hid hJ
     have HH := hid (And.intro h6 h5)
     clear hK ev hd hJ h6 h5 hh6 o1 o2 o3 o4
     go_simp
     exact HK.out _ _ (fun _ => rfl) ((((((HJ.out.setCell (by dsimp only; omega) _).setCell (by dsimp only; omega) _).setCell (by dsimp only; omega) _).setCell (by dsimp only; omega) _).setCell (by dsimp only; omega) _).setCell (by dsimp only; omega) _) ⟨trivial, fun _ => ⟨b6, _, HH.out.1, hz6, by simp only [World.size_setCell]; exact hlt, HH.out.2, HS.out⟩⟩ ⟨fun h => absurd rfl h, fun _ => HT.out⟩
   case fin =>
   intro u9 w8 hJ hG
   clear c_x0 c_x1 c_x2 c_x3 c_x4 c_x5 HSW HLW
   have h6 : u9 58 = .int .i64 9 := (hG 6 _ rfl).1
   replace P_s := hid (pb_below hJ P_s.out xo)
   replace P_x := hid (pb_below hJ P_x.out xo)
   have HB8 := xv hJ HB7
   have D2_8 := xv hJ D2_7
   have D5_8 := xv hJ D5_7
   have D6_8 := xv hJ D6_7
   clear D2_7 D5_7 D6_7
   have hJz8 := hJ.size
   clear hJ hG
   simp only [mixFrame, mixL, dstsOf, List.take_succ_cons, List.take_zero, List.filterMap_cons, List.filterMap_nil, List.contains_cons, List.contains_nil, Nat.reduceBEq, Bool.or_false, Bool.false_or, Bool.or_true, Bool.true_or, if_true, if_false, Bool.false_eq_true, Nat.reduceAdd, Nat.zero_add, List.drop_succ_cons, List.drop_zero, h6]
   clear h6
   as_aux_lemma =>
   go_upto_region 10 with (fail)
   have c_s0 := P_s.out 0 _ rfl
   have c_s1 := P_s.out 1 _ rfl
   have c_s2 := P_s.out 2 _ rfl
   have c_s3 := P_s.out 3 _ rfl
   have c_s4 := P_s.out 4 _ rfl
   have c_s5 := P_s.out 5 _ rfl
   have HSW := hid (HNs.out.below (D2_8.out))
   have HLW := hid (HL.out.below (D5_8.out))
   refine wp_region_eff 9 xk (N := 174) rfl xk xk (by decide) (fun w' => Below w8.heap.size w8 w') (effExt 29 8) (effAt 8 [60, 61, 62, 63, 59, 64, 65, 11] [.is (.agg #[.int .u8 c.tag, .int .i64 c.most, .int .i64 c.seg, .int .i64 c.least, .int .i64 c.den, .int .i64 c.ll, .int .i64 c.rl, .int .i64 c.rh, .int .i64 c.lh]), .is (.agg #[.int .i64 s.seg, .slice a1 s.ws.length k1, .slice a2 s.ks.length k2, .slice a3 s.vs.length k3, .slice a4 s.cs.length k4, .int .u64 s.laid]), .is (.agg #[.int .i64 0, .int .i64 0]), .slt w8.heap.size nilC (.int .i64 2), .slt w8.heap.size nilC (.int .i64 2), .slS w8.heap.size nilC, .is (.int .i64 2), .box w8.heap.size 29 6] (boxL w8.heap.size 11 64)) (effAt_stays boxL_stays) (effAt_dep (n := 8) [11, 64] boxL_dep xk xk (Nat.le_refl 8) (by decide)) (Below.refl _ _).drew ?steps ?fin
   case steps =>
    refine ⟨?o0, ?o1, ?o2, ?o3, ?o4, ?o5, ?o6, ?o7, ?o8, trivial⟩
    case o0 =>
     intro u a w' ev hJ hd K hK
     have HK := hid hK
     have HC := hid (CH.out w')
     have hzJ := hJ.size
     have HJ := hid hJ
     clear hK ev hd hJ
     go_simp
     refine HC.out.mono ?_
     rintro e w'' ⟨rfl, hb⟩
     exact HK.out _ _ (fun h => by cases h) (HJ.out.trans (hb.mono hzJ)) ⟨rfl, fun h => absurd h (by decide)⟩ ⟨fun _ => hb, fun h => absurd h (by decide)⟩
    case o1 =>
     intro u a w' ev hJ hd K hK
     have e1 : a.tmps.getD 1 undef = .pointer (some ⟨w2.heap.size, 0, none⟩) := ev 1 (by decide)
     have g0 := (hJ.cell (p := ⟨w2.heap.size, 0, none⟩) (by dsimp only; omega)).trans c_s0
     have g1 := (hJ.cell (p := ⟨w2.heap.size, 1, none⟩) (by dsimp only; omega)).trans c_s1
     have g2 := (hJ.cell (p := ⟨w2.heap.size, 2, none⟩) (by dsimp only; omega)).trans c_s2
     have g3 := (hJ.cell (p := ⟨w2.heap.size, 3, none⟩) (by dsimp only; omega)).trans c_s3
     have g4 := (hJ.cell (p := ⟨w2.heap.size, 4, none⟩) (by dsimp only; omega)).trans c_s4
     have g5 := (hJ.cell (p := ⟨w2.heap.size, 5, none⟩) (by dsimp only; omega)).trans c_s5
     have HK := hid hK
     clear hK ev hd
     go_simp
     exact HK.out _ _ (fun h => by cases h) hJ ⟨rfl, fun h => absurd h (by decide)⟩ ⟨fun _ => Below.refl _ _, fun h => absurd h (by decide)⟩
    case o2 =>
     intro u a w' ev hJ hd K hK
     have HK := hid hK
     clear hK ev hd
     go_simp
     exact HK.out _ _ (fun h => by cases h) hJ ⟨rfl, fun h => absurd h (by decide)⟩ ⟨fun _ => Below.refl _ _, fun h => absurd h (by decide)⟩
    case o3 =>
     intro u a w' ev hJ hd K hK
     have e60 : a.tmps.getD 60 undef = .agg #[.int .u8 c.tag, .int .i64 c.most, .int .i64 c.seg, .int .i64 c.least, .int .i64 c.den, .int .i64 c.ll, .int .i64 c.rl, .int .i64 c.rh, .int .i64 c.lh] := (ev 60 (by decide)).trans (hd 0 _ xk rfl).1
     have e61 : a.tmps.getD 61 undef = .agg #[.int .i64 s.seg, .slice a1 s.ws.length k1, .slice a2 s.ks.length k2, .slice a3 s.vs.length k3, .slice a4 s.cs.length k4, .int .u64 s.laid] := (ev 61 (by decide)).trans (hd 1 _ xk rfl).1
     have e62 : a.tmps.getD 62 undef = .agg #[.int .i64 0, .int .i64 0] := (ev 62 (by decide)).trans (hd 2 _ xk rfl).1
     have HK := hid hK
     have HC := hid (PS.out w' ⟨a1, a2, a3, a4, k1, k2, k3, k4⟩ (below_via hJ HB8.out HB8.out.size) (HSW.out.below hJ) HCs.out)
     have hzJ := hJ.size
     have HJ := hid hJ
     clear hK ev hd hJ
     go_simp
     refine HC.out.mono ?_
     rintro e w'' ⟨v1, v2, v3, v4, rfl, p1, p2, p3, p4, hb⟩
     exact HK.out _ _ (fun h => by cases h) (HJ.out.trans (hb.mono hzJ)) ⟨⟨_, rfl, v1, v2, v3, v4, rfl, owns_base p1 hzJ, owns_base p2 hzJ, owns_base p3 hzJ, owns_base p4 hzJ⟩, fun h => absurd h (by decide)⟩ ⟨fun _ => hb, fun h => absurd h (by decide)⟩
    case o4 =>
     intro u a w' ev hJ hd K hK
     obtain ⟨y, ht, hy⟩ : (FactR.slt w8.heap.size nilC (.int .i64 2)).holds (u 63) w' := (hd 3 _ xk rfl).1
     have e63 : a.tmps.getD 63 undef = _ := (ev 63 (by decide)).trans ht
     have HK := hid hK
     have HY := hid hy
     clear hK ev hd hy
     go_simp
     exact HK.out _ _ (fun h => by cases h) hJ ⟨⟨y, rfl, HY.out⟩, fun h => absurd h (by decide)⟩ ⟨fun _ => Below.refl _ _, fun h => absurd h (by decide)⟩
    case o5 =>
     intro u a w' ev hJ hd K hK
     obtain ⟨y, ht, hy⟩ : (FactR.slt w8.heap.size nilC (.int .i64 2)).holds (u 59) w' := (hd 4 _ xk rfl).1
     have e59 : a.tmps.getD 59 undef = _ := (ev 59 (by decide)).trans ht
     have HK := hid hK
     have HY := hid hy
     clear hK ev hd hy
     go_simp
     exact HK.out _ _ (fun h => by cases h) hJ ⟨HY.out, fun h => absurd h (by decide)⟩ ⟨fun _ => Below.refl _ _, fun h => absurd h (by decide)⟩
    case o6 =>
     intro u a w' ev hJ hd K hK
     obtain ⟨y, ht, hy⟩ : (FactR.slt w8.heap.size nilC (.int .i64 2)).holds (u 59) w' := (hd 4 _ xk rfl).1
     have e59 : a.tmps.getD 59 undef = _ := (ev 59 (by decide)).trans ht
     have HK := hid hK
     have HY := hid hy
     clear hK ev hd hy
     go_simp
     exact HK.out _ _ (fun h => by cases h) hJ ⟨rfl, fun h => absurd h (by decide)⟩ ⟨fun _ => Below.refl _ _, fun h => absurd h (by decide)⟩
    case o7 =>
     intro u a w' ev hJ hd K hK
     have HK := hid hK
     have hzJ := hJ.size
     have HJ := hid hJ
     clear hK ev hd hJ
     go_simp
     exact HK.out _ _ (fun h => by cases h) (HJ.out.alloc hzJ _) ⟨⟨_, _, rfl, hzJ, alloc_new _ _, rfl⟩, fun h => absurd h (by decide)⟩ ⟨fun _ => (Below.refl _ _).alloc (Nat.le_refl _) _, fun h => absurd h (by decide)⟩
    case o8 =>
     intro u a w' ev hJ hd K hK
     obtain ⟨b6, cs6, h6, hz6, hh6, hn6⟩ : (FactR.box w8.heap.size 29 6).holds (u 11) w' := (hd 7 _ xk rfl).1
     obtain ⟨v1, v2, v3, v4, h5, o1, o2, o3, o4⟩ : (FactR.sl w8.heap.size nilC).holds (u 64) w' := (hd 5 _ xk rfl).1
     obtain ⟨q1, m1, rfl, -⟩ := owns_news o1
     obtain ⟨q2, m2, rfl, -⟩ := owns_news o2
     obtain ⟨q3, m3, rfl, -⟩ := owns_news o3
     obtain ⟨q4, m4, rfl, -⟩ := owns_news o4
     have hlt : b6 < w'.heap.size := (Array.getElem?_eq_some_iff.1 hh6).1
     obtain ⟨x0, x1, x2, x3, x4, x5, ⟨k0, k1, k2, k3, k4, k5⟩, f0, f1, f2, f3, f4, f5⟩ := boxE_six hh6 hn6
     have e7 : a.tmps.getD 11 undef = _ := (ev 11 (by decide)).trans h6
     have e5 : a.tmps.getD 64 undef = _ := (ev 64 (by decide)).trans h5
     have HS := hid (six_set (w := w') (b := b6) (x := .int .i64 nilC.seg) (y := .slice q1 nilC.ws.length m1) (z := .slice q2 nilC.ks.length m2) (p := .slice q3 nilC.vs.length m3) (q := .slice q4 nilC.cs.length m4) (r := .int .u64 nilC.laid) k0 k1 k2 k3 k4 k5)
     have HT := hid (six_stT hh6 (.int .i64 nilC.seg) (.slice q1 nilC.ws.length m1) (.slice q2 nilC.ks.length m2) (.slice q3 nilC.vs.length m3) (.slice q4 nilC.cs.length m4) (.int .u64 nilC.laid))
     have HK := hid hK
     have HJ := hid hJ
     have HH := hid (And.intro h6 h5)
     clear hK ev hd hJ h6 h5 hh6 o1 o2 o3 o4
     go_simp
     exact HK.out _ _ (fun _ => rfl) ((((((HJ.out.setCell (by dsimp only; omega) _).setCell (by dsimp only; omega) _).setCell (by dsimp only; omega) _).setCell (by dsimp only; omega) _).setCell (by dsimp only; omega) _).setCell (by dsimp only; omega) _) ⟨trivial, fun _ => ⟨b6, _, HH.out.1, hz6, by simp only [World.size_setCell]; exact hlt, HH.out.2, HS.out⟩⟩ ⟨fun h => absurd rfl h, fun _ => HT.out⟩
   case fin =>
   intro u10 w9 hJ hG
   clear c_s0 c_s1 c_s2 c_s3 c_s4 c_s5 HSW HLW
   have h6 : u10 65 = .int .i64 2 := (hG 6 _ rfl).1
   replace P_s := hid (pb_below hJ P_s.out xo)
   replace P_x := hid (pb_below hJ P_x.out xo)
   have HB9 := xv hJ HB8
   have D2_9 := xv hJ D2_8
   have D5_9 := xv hJ D5_8
   have D6_9 := xv hJ D6_8
   clear D2_8 D5_8 D6_8
   have hJz9 := hJ.size
   clear hJ hG
   simp only [mixFrame, mixL, dstsOf, List.take_succ_cons, List.take_zero, List.filterMap_cons, List.filterMap_nil, List.contains_cons, List.contains_nil, Nat.reduceBEq, Bool.or_false, Bool.false_or, Bool.or_true, Bool.true_or, if_true, if_false, Bool.false_eq_true, Nat.reduceAdd, Nat.zero_add, List.drop_succ_cons, List.drop_zero, h6]
   clear h6
   as_aux_lemma =>
   go_upto_region 11 with (fail)
   have c_s0 := P_s.out 0 _ rfl
   have c_s1 := P_s.out 1 _ rfl
   have c_s2 := P_s.out 2 _ rfl
   have c_s3 := P_s.out 3 _ rfl
   have c_s4 := P_s.out 4 _ rfl
   have c_s5 := P_s.out 5 _ rfl
   have HSW := hid (HNs.out.below (D2_9.out))
   have HLW := hid (HL.out.below (D5_9.out))
   refine wp_region_eff 8 xk (N := 174) rfl xk xk (by decide) (fun w' => Below w9.heap.size w9 w') (effExt 29 7) (effAt 7 [67, 68, 69, 66, 70, 71, 13] [.is (.agg #[.int .u8 c.tag, .int .i64 c.most, .int .i64 c.seg, .int .i64 c.least, .int .i64 c.den, .int .i64 c.ll, .int .i64 c.rl, .int .i64 c.rh, .int .i64 c.lh]), .is (.agg #[.int .i64 s.seg, .slice a1 s.ws.length k1, .slice a2 s.ks.length k2, .slice a3 s.vs.length k3, .slice a4 s.cs.length k4, .int .u64 s.laid]), .slt w9.heap.size nilC (.int .i64 2), .slt w9.heap.size nilC (.int .i64 2), .slS w9.heap.size nilC, .is (.int .i64 2), .box w9.heap.size 29 6] (boxL w9.heap.size 13 70)) (effAt_stays boxL_stays) (effAt_dep (n := 7) [13, 70] boxL_dep xk xk (Nat.le_refl 7) (by decide)) (Below.refl _ _).drew ?steps ?fin
   case steps =>
    refine ⟨?o0, ?o1, ?o2, ?o3, ?o4, ?o5, ?o6, ?o7, trivial⟩
    case o0 =>
     intro u a w' ev hJ hd K hK
     have HK := hid hK
     have HC := hid (CH.out w')
     have hzJ := hJ.size
     have HJ := hid hJ
     clear hK ev hd hJ
     go_simp
     refine HC.out.mono ?_
     rintro e w'' ⟨rfl, hb⟩
     exact HK.out _ _ (fun h => by cases h) (HJ.out.trans (hb.mono hzJ)) ⟨rfl, fun h => absurd h (by decide)⟩ ⟨fun _ => hb, fun h => absurd h (by decide)⟩
    case o1 =>
     intro u a w' ev hJ hd K hK
     have e1 : a.tmps.getD 1 undef = .pointer (some ⟨w2.heap.size, 0, none⟩) := ev 1 (by decide)
     have g0 := (hJ.cell (p := ⟨w2.heap.size, 0, none⟩) (by dsimp only; omega)).trans c_s0
     have g1 := (hJ.cell (p := ⟨w2.heap.size, 1, none⟩) (by dsimp only; omega)).trans c_s1
     have g2 := (hJ.cell (p := ⟨w2.heap.size, 2, none⟩) (by dsimp only; omega)).trans c_s2
     have g3 := (hJ.cell (p := ⟨w2.heap.size, 3, none⟩) (by dsimp only; omega)).trans c_s3
     have g4 := (hJ.cell (p := ⟨w2.heap.size, 4, none⟩) (by dsimp only; omega)).trans c_s4
     have g5 := (hJ.cell (p := ⟨w2.heap.size, 5, none⟩) (by dsimp only; omega)).trans c_s5
     have HK := hid hK
     clear hK ev hd
     go_simp
     exact HK.out _ _ (fun h => by cases h) hJ ⟨rfl, fun h => absurd h (by decide)⟩ ⟨fun _ => Below.refl _ _, fun h => absurd h (by decide)⟩
    case o2 =>
     intro u a w' ev hJ hd K hK
     have e67 : a.tmps.getD 67 undef = .agg #[.int .u8 c.tag, .int .i64 c.most, .int .i64 c.seg, .int .i64 c.least, .int .i64 c.den, .int .i64 c.ll, .int .i64 c.rl, .int .i64 c.rh, .int .i64 c.lh] := (ev 67 (by decide)).trans (hd 0 _ xk rfl).1
     have e68 : a.tmps.getD 68 undef = .agg #[.int .i64 s.seg, .slice a1 s.ws.length k1, .slice a2 s.ks.length k2, .slice a3 s.vs.length k3, .slice a4 s.cs.length k4, .int .u64 s.laid] := (ev 68 (by decide)).trans (hd 1 _ xk rfl).1
     have HK := hid hK
     have HC := hid (TS.out w' ⟨a1, a2, a3, a4, k1, k2, k3, k4⟩ (below_via hJ HB9.out HB9.out.size) (HSW.out.below hJ) HCs.out)
     have hzJ := hJ.size
     have HJ := hid hJ
     clear hK ev hd hJ
     go_simp
     refine HC.out.mono ?_
     rintro e w'' ⟨v1, v2, v3, v4, rfl, p1, p2, p3, p4, hb⟩
     exact HK.out _ _ (fun h => by cases h) (HJ.out.trans (hb.mono hzJ)) ⟨⟨_, rfl, v1, v2, v3, v4, rfl, owns_base p1 hzJ, owns_base p2 hzJ, owns_base p3 hzJ, owns_base p4 hzJ⟩, fun h => absurd h (by decide)⟩ ⟨fun _ => hb, fun h => absurd h (by decide)⟩
    case o3 =>
     intro u a w' ev hJ hd K hK
     obtain ⟨y, ht, hy⟩ : (FactR.slt w9.heap.size nilC (.int .i64 2)).holds (u 69) w' := (hd 2 _ xk rfl).1
     have e69 : a.tmps.getD 69 undef = _ := (ev 69 (by decide)).trans ht
     have HK := hid hK
     have HY := hid hy
     clear hK ev hd hy
     go_simp
     exact HK.out _ _ (fun h => by cases h) hJ ⟨⟨y, rfl, HY.out⟩, fun h => absurd h (by decide)⟩ ⟨fun _ => Below.refl _ _, fun h => absurd h (by decide)⟩
    case o4 =>
     intro u a w' ev hJ hd K hK
     obtain ⟨y, ht, hy⟩ : (FactR.slt w9.heap.size nilC (.int .i64 2)).holds (u 66) w' := (hd 3 _ xk rfl).1
     have e66 : a.tmps.getD 66 undef = _ := (ev 66 (by decide)).trans ht
     have HK := hid hK
     have HY := hid hy
     clear hK ev hd hy
     go_simp
     exact HK.out _ _ (fun h => by cases h) hJ ⟨HY.out, fun h => absurd h (by decide)⟩ ⟨fun _ => Below.refl _ _, fun h => absurd h (by decide)⟩
    case o5 =>
     intro u a w' ev hJ hd K hK
     obtain ⟨y, ht, hy⟩ : (FactR.slt w9.heap.size nilC (.int .i64 2)).holds (u 66) w' := (hd 3 _ xk rfl).1
     have e66 : a.tmps.getD 66 undef = _ := (ev 66 (by decide)).trans ht
     have HK := hid hK
     have HY := hid hy
     clear hK ev hd hy
     go_simp
     exact HK.out _ _ (fun h => by cases h) hJ ⟨rfl, fun h => absurd h (by decide)⟩ ⟨fun _ => Below.refl _ _, fun h => absurd h (by decide)⟩
    case o6 =>
     intro u a w' ev hJ hd K hK
     have HK := hid hK
     have hzJ := hJ.size
     have HJ := hid hJ
     clear hK ev hd hJ
     go_simp
     exact HK.out _ _ (fun h => by cases h) (HJ.out.alloc hzJ _) ⟨⟨_, _, rfl, hzJ, alloc_new _ _, rfl⟩, fun h => absurd h (by decide)⟩ ⟨fun _ => (Below.refl _ _).alloc (Nat.le_refl _) _, fun h => absurd h (by decide)⟩
    case o7 =>
     intro u a w' ev hJ hd K hK
     obtain ⟨b6, cs6, h6, hz6, hh6, hn6⟩ : (FactR.box w9.heap.size 29 6).holds (u 13) w' := (hd 6 _ xk rfl).1
     obtain ⟨v1, v2, v3, v4, h5, o1, o2, o3, o4⟩ : (FactR.sl w9.heap.size nilC).holds (u 70) w' := (hd 4 _ xk rfl).1
     obtain ⟨q1, m1, rfl, -⟩ := owns_news o1
     obtain ⟨q2, m2, rfl, -⟩ := owns_news o2
     obtain ⟨q3, m3, rfl, -⟩ := owns_news o3
     obtain ⟨q4, m4, rfl, -⟩ := owns_news o4
     have hlt : b6 < w'.heap.size := (Array.getElem?_eq_some_iff.1 hh6).1
     obtain ⟨x0, x1, x2, x3, x4, x5, ⟨k0, k1, k2, k3, k4, k5⟩, f0, f1, f2, f3, f4, f5⟩ := boxE_six hh6 hn6
     have e7 : a.tmps.getD 13 undef = _ := (ev 13 (by decide)).trans h6
     have e5 : a.tmps.getD 70 undef = _ := (ev 70 (by decide)).trans h5
     have HS := hid (six_set (w := w') (b := b6) (x := .int .i64 nilC.seg) (y := .slice q1 nilC.ws.length m1) (z := .slice q2 nilC.ks.length m2) (p := .slice q3 nilC.vs.length m3) (q := .slice q4 nilC.cs.length m4) (r := .int .u64 nilC.laid) k0 k1 k2 k3 k4 k5)
     have HT := hid (six_stT hh6 (.int .i64 nilC.seg) (.slice q1 nilC.ws.length m1) (.slice q2 nilC.ks.length m2) (.slice q3 nilC.vs.length m3) (.slice q4 nilC.cs.length m4) (.int .u64 nilC.laid))
     have HK := hid hK
     have HJ := hid hJ
     have HH := hid (And.intro h6 h5)
     clear hK ev hd hJ h6 h5 hh6 o1 o2 o3 o4
     go_simp
     exact HK.out _ _ (fun _ => rfl) ((((((HJ.out.setCell (by dsimp only; omega) _).setCell (by dsimp only; omega) _).setCell (by dsimp only; omega) _).setCell (by dsimp only; omega) _).setCell (by dsimp only; omega) _).setCell (by dsimp only; omega) _) ⟨trivial, fun _ => ⟨b6, _, HH.out.1, hz6, by simp only [World.size_setCell]; exact hlt, HH.out.2, HS.out⟩⟩ ⟨fun h => absurd rfl h, fun _ => HT.out⟩
   case fin =>
   intro u11 w10 hJ hG
   clear c_s0 c_s1 c_s2 c_s3 c_s4 c_s5 HSW HLW
   have h6 : u11 71 = .int .i64 2 := (hG 5 _ rfl).1
   replace P_s := hid (pb_below hJ P_s.out xo)
   replace P_x := hid (pb_below hJ P_x.out xo)
   have HB10 := xv hJ HB9
   have D2_10 := xv hJ D2_9
   have D5_10 := xv hJ D5_9
   have D6_10 := xv hJ D6_9
   clear D2_9 D5_9 D6_9
   have hJz10 := hJ.size
   clear hJ hG
   simp only [mixFrame, mixL, dstsOf, List.take_succ_cons, List.take_zero, List.filterMap_cons, List.filterMap_nil, List.contains_cons, List.contains_nil, Nat.reduceBEq, Bool.or_false, Bool.false_or, Bool.or_true, Bool.true_or, if_true, if_false, Bool.false_eq_true, Nat.reduceAdd, Nat.zero_add, List.drop_succ_cons, List.drop_zero, h6]
   clear h6
   as_aux_lemma =>
   go_upto_region 12 with (fail)
   have c_x0 := P_x.out 0 _ rfl
   have c_x1 := P_x.out 1 _ rfl
   have c_x2 := P_x.out 2 _ rfl
   have c_x3 := P_x.out 3 _ rfl
   have c_x4 := P_x.out 4 _ rfl
   have c_x5 := P_x.out 5 _ rfl
   have HSW := hid (HNx.out.below (D6_10.out))
   have HLW := hid (HL.out.below (D5_10.out))
   refine wp_region_eff 8 xk (N := 174) rfl xk xk (by decide) (fun w' => Below w10.heap.size w10 w') (effExt 29 7) (effAt 7 [73, 74, 75, 72, 76, 77, 15] [.is (.agg #[.int .u8 c.tag, .int .i64 c.most, .int .i64 c.seg, .int .i64 c.least, .int .i64 c.den, .int .i64 c.ll, .int .i64 c.rl, .int .i64 c.rh, .int .i64 c.lh]), .is (.agg #[.int .i64 x.seg, .slice b1 x.ws.length j1, .slice b2 x.ks.length j2, .slice b3 x.vs.length j3, .slice b4 x.cs.length j4, .int .u64 x.laid]), .slt w10.heap.size y (.int .i64 0), .slt w10.heap.size y (.int .i64 0), .slS w10.heap.size y, .is (.int .i64 0), .box w10.heap.size 29 6] (boxL w10.heap.size 15 76)) (effAt_stays boxL_stays) (effAt_dep (n := 7) [15, 76] boxL_dep xk xk (Nat.le_refl 7) (by decide)) (Below.refl _ _).drew ?steps ?fin
   case steps =>
    refine ⟨?o0, ?o1, ?o2, ?o3, ?o4, ?o5, ?o6, ?o7, trivial⟩
    case o0 =>
     intro u a w' ev hJ hd K hK
     have HK := hid hK
     have HC := hid (CH.out w')
     have hzJ := hJ.size
     have HJ := hid hJ
     clear hK ev hd hJ
     go_simp
     refine HC.out.mono ?_
     rintro e w'' ⟨rfl, hb⟩
     exact HK.out _ _ (fun h => by cases h) (HJ.out.trans (hb.mono hzJ)) ⟨rfl, fun h => absurd h (by decide)⟩ ⟨fun _ => hb, fun h => absurd h (by decide)⟩
    case o1 =>
     intro u a w' ev hJ hd K hK
     have e5 : a.tmps.getD 5 undef = .pointer (some ⟨bx, 0, none⟩) := ev 5 (by decide)
     have g0 := (hJ.cell (p := ⟨bx, 0, none⟩) (by dsimp only; omega)).trans c_x0
     have g1 := (hJ.cell (p := ⟨bx, 1, none⟩) (by dsimp only; omega)).trans c_x1
     have g2 := (hJ.cell (p := ⟨bx, 2, none⟩) (by dsimp only; omega)).trans c_x2
     have g3 := (hJ.cell (p := ⟨bx, 3, none⟩) (by dsimp only; omega)).trans c_x3
     have g4 := (hJ.cell (p := ⟨bx, 4, none⟩) (by dsimp only; omega)).trans c_x4
     have g5 := (hJ.cell (p := ⟨bx, 5, none⟩) (by dsimp only; omega)).trans c_x5
     have HK := hid hK
     clear hK ev hd
     go_simp
     exact HK.out _ _ (fun h => by cases h) hJ ⟨rfl, fun h => absurd h (by decide)⟩ ⟨fun _ => Below.refl _ _, fun h => absurd h (by decide)⟩
    case o2 =>
     intro u a w' ev hJ hd K hK
     have e73 : a.tmps.getD 73 undef = .agg #[.int .u8 c.tag, .int .i64 c.most, .int .i64 c.seg, .int .i64 c.least, .int .i64 c.den, .int .i64 c.ll, .int .i64 c.rl, .int .i64 c.rh, .int .i64 c.lh] := (ev 73 (by decide)).trans (hd 0 _ xk rfl).1
     have e74 : a.tmps.getD 74 undef = .agg #[.int .i64 x.seg, .slice b1 x.ws.length j1, .slice b2 x.ks.length j2, .slice b3 x.vs.length j3, .slice b4 x.cs.length j4, .int .u64 x.laid] := (ev 74 (by decide)).trans (hd 1 _ xk rfl).1
     have HK := hid hK
     have HC := hid (TX.out w' ⟨b1, b2, b3, b4, j1, j2, j3, j4⟩ (below_via hJ HB10.out HB10.out.size) (HSW.out.below hJ) HCx.out)
     have hzJ := hJ.size
     have HJ := hid hJ
     clear hK ev hd hJ
     go_simp
     refine HC.out.mono ?_
     rintro e w'' ⟨v1, v2, v3, v4, rfl, p1, p2, p3, p4, hb⟩
     exact HK.out _ _ (fun h => by cases h) (HJ.out.trans (hb.mono hzJ)) ⟨⟨_, rfl, v1, v2, v3, v4, rfl, owns_base p1 hzJ, owns_base p2 hzJ, owns_base p3 hzJ, owns_base p4 hzJ⟩, fun h => absurd h (by decide)⟩ ⟨fun _ => hb, fun h => absurd h (by decide)⟩
    case o3 =>
     intro u a w' ev hJ hd K hK
     obtain ⟨y, ht, hy⟩ : (FactR.slt w10.heap.size y (.int .i64 0)).holds (u 75) w' := (hd 2 _ xk rfl).1
     have e75 : a.tmps.getD 75 undef = _ := (ev 75 (by decide)).trans ht
     have HK := hid hK
     have HY := hid hy
     clear hK ev hd hy
     go_simp
     exact HK.out _ _ (fun h => by cases h) hJ ⟨⟨y, rfl, HY.out⟩, fun h => absurd h (by decide)⟩ ⟨fun _ => Below.refl _ _, fun h => absurd h (by decide)⟩
    case o4 =>
     intro u a w' ev hJ hd K hK
     obtain ⟨y, ht, hy⟩ : (FactR.slt w10.heap.size y (.int .i64 0)).holds (u 72) w' := (hd 3 _ xk rfl).1
     have e72 : a.tmps.getD 72 undef = _ := (ev 72 (by decide)).trans ht
     have HK := hid hK
     have HY := hid hy
     clear hK ev hd hy
     go_simp
     exact HK.out _ _ (fun h => by cases h) hJ ⟨HY.out, fun h => absurd h (by decide)⟩ ⟨fun _ => Below.refl _ _, fun h => absurd h (by decide)⟩
    case o5 =>
     intro u a w' ev hJ hd K hK
     obtain ⟨y, ht, hy⟩ : (FactR.slt w10.heap.size y (.int .i64 0)).holds (u 72) w' := (hd 3 _ xk rfl).1
     have e72 : a.tmps.getD 72 undef = _ := (ev 72 (by decide)).trans ht
     have HK := hid hK
     have HY := hid hy
     clear hK ev hd hy
     go_simp
     exact HK.out _ _ (fun h => by cases h) hJ ⟨rfl, fun h => absurd h (by decide)⟩ ⟨fun _ => Below.refl _ _, fun h => absurd h (by decide)⟩
    case o6 =>
     intro u a w' ev hJ hd K hK
     have HK := hid hK
     have hzJ := hJ.size
     have HJ := hid hJ
     clear hK ev hd hJ
     go_simp
     exact HK.out _ _ (fun h => by cases h) (HJ.out.alloc hzJ _) ⟨⟨_, _, rfl, hzJ, alloc_new _ _, rfl⟩, fun h => absurd h (by decide)⟩ ⟨fun _ => (Below.refl _ _).alloc (Nat.le_refl _) _, fun h => absurd h (by decide)⟩
    case o7 =>
     intro u a w' ev hJ hd K hK
     obtain ⟨b6, cs6, h6, hz6, hh6, hn6⟩ : (FactR.box w10.heap.size 29 6).holds (u 15) w' := (hd 6 _ xk rfl).1
     obtain ⟨v1, v2, v3, v4, h5, o1, o2, o3, o4⟩ : (FactR.sl w10.heap.size y).holds (u 76) w' := (hd 4 _ xk rfl).1
     obtain ⟨q1, m1, rfl, -⟩ := owns_news o1
     obtain ⟨q2, m2, rfl, -⟩ := owns_news o2
     obtain ⟨q3, m3, rfl, -⟩ := owns_news o3
     obtain ⟨q4, m4, rfl, -⟩ := owns_news o4
     have hlt : b6 < w'.heap.size := (Array.getElem?_eq_some_iff.1 hh6).1
     obtain ⟨x0, x1, x2, x3, x4, x5, ⟨k0, k1, k2, k3, k4, k5⟩, f0, f1, f2, f3, f4, f5⟩ := boxE_six hh6 hn6
     have e7 : a.tmps.getD 15 undef = _ := (ev 15 (by decide)).trans h6
     have e5 : a.tmps.getD 76 undef = _ := (ev 76 (by decide)).trans h5
     have HS := hid (six_set (w := w') (b := b6) (x := .int .i64 y.seg) (y := .slice q1 y.ws.length m1) (z := .slice q2 y.ks.length m2) (p := .slice q3 y.vs.length m3) (q := .slice q4 y.cs.length m4) (r := .int .u64 y.laid) k0 k1 k2 k3 k4 k5)
     have HT := hid (six_stT hh6 (.int .i64 y.seg) (.slice q1 y.ws.length m1) (.slice q2 y.ks.length m2) (.slice q3 y.vs.length m3) (.slice q4 y.cs.length m4) (.int .u64 y.laid))
     have HK := hid hK
     have HJ := hid hJ
     have HH := hid (And.intro h6 h5)
     clear hK ev hd hJ h6 h5 hh6 o1 o2 o3 o4
     go_simp
     exact HK.out _ _ (fun _ => rfl) ((((((HJ.out.setCell (by dsimp only; omega) _).setCell (by dsimp only; omega) _).setCell (by dsimp only; omega) _).setCell (by dsimp only; omega) _).setCell (by dsimp only; omega) _).setCell (by dsimp only; omega) _) ⟨trivial, fun _ => ⟨b6, _, HH.out.1, hz6, by simp only [World.size_setCell]; exact hlt, HH.out.2, HS.out⟩⟩ ⟨fun h => absurd rfl h, fun _ => HT.out⟩
   case fin =>
   intro u12 w11 hJ hG
   clear c_x0 c_x1 c_x2 c_x3 c_x4 c_x5 HSW HLW
   have h6 : u12 77 = .int .i64 0 := (hG 5 _ rfl).1
   obtain ⟨v1, v2, v3, v4, h5, p1, p2, p3, p4⟩ : (FactR.sl w10.heap.size y).holds (u12 76) w11 := (hG 4 _ rfl).1
   obtain ⟨by_, cs, h7, hb0, hb1, hx, hpb⟩ : boxL w10.heap.size 15 76 u12 w11 := (hG 7 _ rfl).2 rfl
   obtain ⟨bt, cst, h8, hbt0, hbt1, hbt2⟩ : (FactR.box w10.heap.size 29 6).holds (u12 15) w11 := (hG 6 _ rfl).1
   rw [h7] at h8
   cases h8
   rw [h5] at hx
   cases hx
   have HXy := hid (row_apart hbt1 p4 (by decide))
   obtain ⟨z1, t1, rfl, i1, -, -, -, -⟩ := row_of_owns p1
   obtain ⟨z2, t2, rfl, i2, -, -, -, -⟩ := row_of_owns p2
   obtain ⟨z3, t3, rfl, i3, -, -, -, -⟩ := row_of_owns p3
   obtain ⟨z4, t4, rfl, i4, -, -, hcc, -⟩ := row_of_owns p4
   have HNy : Hid (SlIn w11 y ⟨z1, z2, z3, z4, t1, t2, t3, t4⟩) := hid ⟨i1, i2, i3, i4, HU.out.2.2⟩
   have HOy := hid (And.intro p1 (And.intro p2 (And.intro p3 p4)))
   have HCy := hid hcc
   have P_y := hid hpb
   have hzzy : w10.heap.size ≤ by_ ∧ by_ < w11.heap.size := ⟨hb0, hb1⟩
   clear p1 p2 p3 p4 i1 i2 i3 i4 hcc hpb hbt0 hbt1 hbt2 hb0 hb1
   replace P_s := hid (pb_below hJ P_s.out xo)
   replace P_x := hid (pb_below hJ P_x.out xo)
   have HB11 := xv hJ HB10
   have D2_11 := xv hJ D2_10
   have D5_11 := xv hJ D5_10
   have D6_11 := xv hJ D6_10
   clear D2_10 D5_10 D6_10
   have hJz11 := hJ.size
   clear hJ hG
   simp only [mixFrame, mixL, dstsOf, List.take_succ_cons, List.take_zero, List.filterMap_cons, List.filterMap_nil, List.contains_cons, List.contains_nil, Nat.reduceBEq, Bool.or_false, Bool.false_or, Bool.or_true, Bool.true_or, if_true, if_false, Bool.false_eq_true, Nat.reduceAdd, Nat.zero_add, List.drop_succ_cons, List.drop_zero, h6, h5, h7]
   clear h6 h5 h7
   as_aux_lemma =>
   go_wp2_with fail
   refine (NE.out _).mono ?_
   rintro e w12 ⟨v1, v2, v3, v4, rfl, p1, p2, p3, p4, hb12⟩
   obtain ⟨f1, g1, rfl, -, -, -, -, -⟩ := row_of_owns p1
   obtain ⟨f2, g2, rfl, -, -, -, -, -⟩ := row_of_owns p2
   obtain ⟨f3, g3, rfl, -, -, -, -, -⟩ := row_of_owns p3
   obtain ⟨f4, g4, rfl, -, -, -, -, -⟩ := row_of_owns p4
   replace P_s := hid (pb_below hb12 P_s.out xo)
   replace P_x := hid (pb_below hb12 P_x.out xo)
   replace P_y := hid (pb_below hb12 P_y.out xo)
   have HB12 := xv hb12 HB11
   have D2_12 := xv hb12 D2_11
   have D5_12 := xv hb12 D5_11
   have D6_12 := xv hb12 D6_11
   have D11_12 := hid (hb12)
   clear D2_11 D5_11 D6_11
   have hJz12 := hb12.size
   clear hb12 p1 p2 p3 p4
   go_upto_region 14 with (refine wpl_store_new 29 (.tmp 17) (.tmp 81) #[.int .i64 0, .slice none 0 0, .slice none 0 0, .slice none 0 0, .slice none 0 0, .int .u64 0] #[.int .i64 nilC.seg, .slice f1 nilC.ws.length g1, .slice f2 nilC.ks.length g2, .slice f3 nilC.vs.length g3, .slice f4 nilC.cs.length g4, .int .u64 nilC.laid] rfl rfl rfl rfl xk rfl (by simp [Value.oneCell']) ?_)
   generalize hw13 : w12.alloc (.cells #[.int .i64 nilC.seg, .slice f1 nilC.ws.length g1, .slice f2 nilC.ks.length g2, .slice f3 nilC.vs.length g3, .slice f4 nilC.cs.length g4, .int .u64 nilC.laid] 29) = w13
   have hb13 : Below w12.heap.size w12 w13 := by rw [← hw13]; exact (Below.refl _ _).alloc (Nat.le_refl _) _
   replace P_s := hid (pb_below hb13 P_s.out xo)
   replace P_x := hid (pb_below hb13 P_x.out xo)
   replace P_y := hid (pb_below hb13 P_y.out xo)
   have HB13 := xv hb13 HB12
   have D2_13 := xv hb13 D2_12
   have D5_13 := xv hb13 D5_12
   have D6_13 := xv hb13 D6_12
   have D11_13 := xv hb13 D11_12
   clear D2_12 D5_12 D6_12 D11_12
   have hJz13 := hb13.size
   clear hw13 hb13
   as_aux_lemma =>
   have ox := owns_below HOx.out.2.1 D6_13.out
   have oy := owns_below HOy.out.2.1 D11_13.out
   have oc := owns_below HOy.out.2.2.2 D11_13.out
   obtain ⟨gx, kx, hee, -, -⟩ := owns_at ox (by have := HXY.out.1; omega)
   cases hee
   obtain ⟨gy, ky, hee, -, -⟩ := owns_at oy (by have := HXY.out.2.1; omega)
   cases hee
   obtain ⟨gc, kc, hee, hgc, -⟩ := owns_at oc HYC.out
   cases hee
   have HOX := hid ox
   have HOY := hid oy
   have HOC := hid oc
   have HO1 := hid (owns_below HOy.out.1 D11_13.out)
   have HO3 := hid (owns_below HOy.out.2.2.1 D11_13.out)
   have hgcy : gc ≠ by_ := HXy.out gc rfl
   have c_x2 := P_x.out 2 _ rfl
   have c_y2 := P_y.out 2 _ rfl
   have c_y4 := P_y.out 4 _ rfl
   clear ox oy oc
   go_wp2
   go_loopg [19] 8 (fun gk iv wr2 => ∃ i : Nat, i + gk = 8 ∧ iv = .int .i64 i ∧ w13 = wr2)
   case atStart => exact ⟨0, rfl, rfl, rfl⟩
   case round =>
   obtain ⟨i, hig, rfl, rfl⟩ := hrel
   by_cases hlt : i < 8
   · obtain ⟨j, hj⟩ : ∃ j, 2 * i = j := ⟨_, rfl⟩
     have hjx : j < x.ks.length := by have := HXY.out.1; omega
     have hjy : j < y.ks.length := by have := HXY.out.2.1; omega
     have rx := (own_cells HOX.out (j := j) hjx).1
     rw [← hj, HXY.out.2.2.2.1 i hlt, hj] at rx
     have hmul : IntKind.i64.wrap (2 * (i : Int)) = (j : Int) := by rw [IntWalk.i64_in _ xo]; omega
     have hd8 : decide ((i : Int) < 8) = true := by rw [decide_eq_true_eq]; omega
     have hjX : (j : Int) < (x.ks.length : Int) := xo
     have hjY : (j : Int) < (y.ks.length : Int) := xo
     by_cases h7 : i < 7
     · have ry := (own_cells HOY.out (j := j) hjy).1
       rw [← hj, HXY.out.2.2.2.2 i h7, hj] at ry
       have hd7 : decide ((i : Int) < 7) = true := by rw [decide_eq_true_eq]; omega
       clear hj hjx hjy h7
       go_wp2
       go_roundg (gk - 1)
       case measure => omega
       case rel => exact ⟨i + 1, by omega, by go_num, rfl⟩
     · have hd7 : decide ((i : Int) < 7) = false := by rw [decide_eq_false_iff_not]; omega
       clear hj hjx hjy h7
       go_wp2
       go_roundg (gk - 1)
       case measure => omega
       case rel => exact ⟨i + 1, by omega, by go_num, rfl⟩
   · obtain rfl : i = 8 := xo
     have hd8 : decide (((8 : Nat) : Int) < 8) = false := by decide
     obtain ⟨hcc0, hcf0⟩ := own_cells HOC.out (j := 0) HYC.out
     have hY0 : (0 : Int) < (y.cs.length : Int) := by have := HYC.out; omega
     have hset := own_set HOC.out 0 (1 : Int)
     have HS := hid hset
     clear hset
     go_upto_region 22 with (fail)
     have hne : ∀ q, q ≠ gc → (w13.setCell ⟨gc, 0, none⟩ (.int .i64 1)).heap[q]? = w13.heap[q]? := fun q hq => heap_setCell_ne _ _ _ hq
     have hgb : w10.heap.size ≤ gc := hgc
     have HBE := hid (show Below w.heap.size w (w13.setCell ⟨gc, 0, none⟩ (.int .i64 1)) from HB13.out.setCell (by have := HB10.out.size; dsimp only; omega) _)
     have HY := hid (And.intro (owns_heap HO1.out fun q hq => hne q (owns_blk HO1.out HOC.out (by decide) q gc hq rfl)) (And.intro (owns_heap HOY.out fun q hq => hne q (owns_blk HOY.out HOC.out (by decide) q gc hq rfl)) (owns_heap HO3.out fun q hq => hne q (owns_blk HO3.out HOC.out (by decide) q gc hq rfl))))
     have P_y' := hid (pbn_heap P_y.out (hne by_ (Ne.symm hgcy)))
     have P_x' := hid (pbn_heap P_x.out (hne bx xo))
     have hx5 := P_x'.out 5 _ rfl
     rw [HXY.out.2.2.1] at hx5
     generalize hwE : w13.setCell ⟨gc, 0, none⟩ (.int .i64 1) = wE at *
     have HNE : Hid (SlIn wE ⟨y.seg, y.ws, y.ks, y.vs, y.cs.set 0 1, y.laid⟩ ⟨z1, some ⟨gy, 0, none⟩, z3, some ⟨gc, 0, none⟩, t1, t2, t3, t4⟩) := hid (by
      obtain ⟨q1, q2, q3⟩ := HY.out
      have q4 := HS.out
      obtain ⟨_, _, he1, i1, -⟩ := row_of_owns q1
      obtain ⟨_, _, he2, i2, -⟩ := row_of_owns q2
      obtain ⟨_, _, he3, i3, -⟩ := row_of_owns q3
      obtain ⟨_, _, he4, i4, -⟩ := row_of_owns q4
      cases he1; cases he2; cases he3; cases he4
      exact ⟨i1, i2, i3, i4, HU.out.2.2⟩)
     have CYE := hid (fun W' (h : Below wE.heap.size wE W') => CY.out W' ⟨z1, some ⟨gy, 0, none⟩, z3, some ⟨gc, 0, none⟩, t1, t2, t3, t4⟩ (below_via h HBE.out HBE.out.size) (HNE.out.below h) HCy.out)
     have ALE := hid (fun W' (h : Below wE.heap.size wE W') => AL.out W' (below_via h HBE.out HBE.out.size))
     have CHE := hid (fun W' (h : Below wE.heap.size wE W') => CH.out W')
     have CNE := hid (fun W' (h : Below wE.heap.size wE W') => CN.out W' (below_via h HBE.out HBE.out.size))
     simp only [List.length_set] at CYE
     refine Code.wp_mono ?_ (GN_r22 wE _ _ _ _ _ _ _ _ _ _ _ _ _ _ _ _ _ _ _ _ _ _ _ _ _ _ _ _ _ _ _ _ _ _ _ _ _ _ _ _ _ _ _ _ _ _ _ _ _ _ _ _ _ _ _ _ _ _ _ _ _ _ _ _ _ _ _ _ _ _ _ _ _ _ _ _ _ _ _ _ _ _ _ _ _ _ _ _ _ _ _ _ _ _ _ _ _ _ _ _ _ _ _ _ _ _ _ _ _ _ _ _ _ _ _ _ _ _ _ _ _ _ _ _ _ _ _ _ _ _ _ _ _ _ _ _ _ _ _ _ _ _ _ _ _ _ _ _ _ _ _ _ _ _ _ _ _ _ _ _ _ _ _ _ _ _ _ _ _ _ _ _ _ _ bx by_ c hx5 P_y' ALE CHE CYE CNE)
     intro e a' wq hq
     cases e with
     | exit id => exact hq.elim
     | goto l => exact hq.elim
     | ret => exact hq.elim
     | panic ch => exact hq.elim
     | outgrown => exact hq.elim
     | normal =>
     obtain ⟨⟨dq, osq, hwq⟩, u134, u135, u136, u137, u138, u139, u140, u141, u142, u143, u144, u145, u146, u147, u148, u149, u150, u151, u152, u153, u154, u155, u156, u157, u158, u159, u160, u161, u162, u163, u164, u165, u166, u167, u168, u169, u170, u171, u172, u173, rfl⟩ := hq
     have hbq : Below wE.heap.size wE wq := by rw [hwq]; exact below_regrown wE dq osq
     have HBF := xv hbq HBE
     clear hwq hbq
     go_wp2
     go_ret
     exact ⟨rfl, HBF.out⟩
end
end Go.Proofs.YtookgoidlnlckaaDoor

/- Merged: GapAlv. -/
import Derived.Test.YtookgoidlnlckaaDoorGapNamesP29
namespace Go.Proofs.YtookgoidlnlckaaDoor
set_option maxRecDepth 100000
set_option maxHeartbeats 40000000
set_option linter.unusedVariables false
set_option linter.unusedSimpArgs false
section
open Go.RowKit Go.Shelf Go.Sort
attribute [local go_sem] Oper.semAt_some
def chG : Cfg := ⟨1, 8, 4, 16, 8, 0, 1, 4, 8⟩
theorem chap9_ok (w : World) : Calls Tryd.prog 16 #[] w (AnsB w (.agg #[.int .u8 1, .int .i64 8, .int .i64 4, .int .i64 16, .int .i64 8, .int .i64 0, .int .i64 1, .int .i64 4, .int .i64 8])) := by
 go_enter Tryd.func16, Tryd.ntmps16
 go_wp2_with (refine wpl_store_new 23 (.tmp 0) (.tmp 1) #[.int .u8 0, .int .i64 0, .int .i64 0, .int .i64 0, .int .i64 0, .int .i64 0, .int .i64 0, .int .i64 0, .int .i64 0] #[.int .u8 1, .int .i64 8, .int .i64 4, .int .i64 16, .int .i64 8, .int .i64 0, .int .i64 1, .int .i64 4, .int .i64 8] rfl rfl rfl rfl xk rfl (by simp [Value.oneCell']) ?_)
 exact bodyPost_ret (results_c rfl rfl (run_loadVar_many _ Tryd.underlying23 rfl xk (pb_new w w.heap.size [.int .u8 1, .int .i64 8, .int .i64 4, .int .i64 16, .int .i64 8, .int .i64 0, .int .i64 1, .int .i64 4, .int .i64 8] rfl))) rfl ⟨rfl, (Below.refl _ _).alloc (Nat.le_refl _) _⟩
theorem alive9_core (c : Cfg) (s d g : SlC) (hs : s.ks.length = 16) (hd : d.ks.length = 16) (hg : g.ks.length = 16) (hd0 : d.ks.getD 0 0 = 5) (hg0 : g.ks.getD 0 0 = 5) (hg2 : g.ks.getD 2 0 = 9) (hdl : d.laid = 1) (hgl : g.laid = 3) (hsu : U64s s.ws) (hdu : U64s d.ws) (hgu : U64s g.ws) (w : World)
    (CH : Hid (∀ W, Calls Tryd.prog 16 #[] W (AnsB W (.agg #[.int .u8 c.tag, .int .i64 c.most, .int .i64 c.seg, .int .i64 c.least, .int .i64 c.den, .int .i64 c.ll, .int .i64 c.rl, .int .i64 c.rh, .int .i64 c.lh]))))
    (NW : Hid (∀ W, Calls Tryd.prog 15 #[.agg #[.int .u8 c.tag, .int .i64 c.most, .int .i64 c.seg, .int .i64 c.least, .int .i64 c.den, .int .i64 c.ll, .int .i64 c.rl, .int .i64 c.rh, .int .i64 c.lh]] W (FreshSl2 W s (.int .i64 0))))
    (P1 : Hid (∀ W (sa : SlA), Below w.heap.size w W → SlIn W s sa → s.cs.length ≤ sa.cc → Calls Tryd.prog 9 #[.agg #[.int .u8 c.tag, .int .i64 c.most, .int .i64 c.seg, .int .i64 c.least, .int .i64 c.den, .int .i64 c.ll, .int .i64 c.rl, .int .i64 c.rh, .int .i64 c.lh], slV s sa, .int .i64 0, .agg #[.int .i64 5, .int .i64 0]] W (FreshSl2 W d (.int .i64 0))))
    (P2 : Hid (∀ W (sa : SlA), Below w.heap.size w W → SlIn W d sa → d.cs.length ≤ sa.cc → Calls Tryd.prog 9 #[.agg #[.int .u8 c.tag, .int .i64 c.most, .int .i64 c.seg, .int .i64 c.least, .int .i64 c.den, .int .i64 c.ll, .int .i64 c.rl, .int .i64 c.rh, .int .i64 c.lh], slV d sa, .int .i64 1, .agg #[.int .i64 9, .int .i64 0]] W (FreshSl2 W g (.int .i64 0)))) :
    Calls Tryd.prog 7 #[] w (AnsB w (.bool true)) := by
 have e1 : ((s.ks.length : Int) == 16) = true := by rw [hs]; rfl
 have e2 : ((d.ks.length : Int) == 16) = true := by rw [hd]; rfl
 have e3 : ((g.ks.length : Int) == 16) = true := by rw [hg]; rfl
 have hd1 : 0 < d.ks.length := xo
 have hg1 : 2 < g.ks.length := xo
 have HK := hid (And.intro hd0 (And.intro hg0 hg2))
 have e7 : (d.laid == 1) = true := by rw [hdl]; rfl
 have e8 : (g.laid == 3) = true := by rw [hgl]; rfl
 have HU := hid (And.intro hsu (And.intro hdu hgu))
 clear hs hd hg hd0 hg0 hg2 hdl hgl hsu hdu hgu
 dsimp only [slV] at P1 P2
 go_enter Tryd.func7, Tryd.ntmps7
 go_wp2_with fail
 refine (CH.out _).mono ?_
 rintro e w1 ⟨rfl, hb1⟩
 go_wp2_with fail
 refine (NW.out _).mono ?_
 rintro e w2 ⟨v1, v2, v3, v4, rfl, p1, p2, p3, p4, hb2⟩
 have HB2 := hid (below_via hb2 hb1 hb1.size)
 obtain ⟨a1, k1, rfl, i1, -, -, -, -⟩ := row_of_owns p1
 obtain ⟨a2, k2, rfl, i2, -, -, -, -⟩ := row_of_owns p2
 obtain ⟨a3, k3, rfl, i3, -, -, -, -⟩ := row_of_owns p3
 obtain ⟨a4, k4, rfl, i4, -, -, hcc, -⟩ := row_of_owns p4
 have HN2 : Hid (SlIn w2 s ⟨a1, a2, a3, a4, k1, k2, k3, k4⟩) := hid ⟨i1, i2, i3, i4, HU.out.1⟩
 have HCS := hid hcc
 clear hb1 hb2 p1 p2 p3 p4 i1 i2 i3 i4 hcc NW
 go_upto_region 2 with (refine wpl_store_new 29 (.tmp 1) (.tmp 10) #[.int .i64 0, .slice none 0 0, .slice none 0 0, .slice none 0 0, .slice none 0 0, .int .u64 0] #[.int .i64 s.seg, .slice a1 s.ws.length k1, .slice a2 s.ks.length k2, .slice a3 s.vs.length k3, .slice a4 s.cs.length k4, .int .u64 s.laid] rfl rfl rfl rfl xk rfl (by simp [Value.oneCell']) ?_)
 generalize hw3 : w2.alloc (.cells #[.int .i64 s.seg, .slice a1 s.ws.length k1, .slice a2 s.ks.length k2, .slice a3 s.vs.length k3, .slice a4 s.cs.length k4, .int .u64 s.laid] 29) = w3
 have P_s : Hid (PB w3 (w2.heap.size) [.int .i64 s.seg, .slice a1 s.ws.length k1, .slice a2 s.ks.length k2, .slice a3 s.vs.length k3, .slice a4 s.cs.length k4, .int .u64 s.laid]) := by rw [← hw3]; exact hid (pb_new _ _ _ (by simp))
 have Z_s : w2.heap.size < w3.heap.size := by rw [← hw3]; simp only [World.size_alloc]; omega
 have hb3 : Below w2.heap.size w2 w3 := by rw [← hw3]; exact (Below.refl _ _).alloc (Nat.le_refl _) _
 have hz3 : w2.heap.size < w3.heap.size := by rw [← hw3]; simp
 have HB3 := xv hb3 HB2
 have HN3 := hid (HN2.out.below hb3)
 clear hw3 hb3 HN2 Z_s
 have c_s0 := P_s.out 0 _ rfl
 have c_s1 := P_s.out 1 _ rfl
 have c_s2 := P_s.out 2 _ rfl
 have c_s3 := P_s.out 3 _ rfl
 have c_s4 := P_s.out 4 _ rfl
 have c_s5 := P_s.out 5 _ rfl
 refine wp_region_eff 9 xk (N := 85) rfl xk xk (by decide) (fun w' => Below w3.heap.size w3 w') (effExt 29 8) (effAt 8 [13, 14, 15, 16, 12, 17, 18, 3] [.is (.agg #[.int .u8 c.tag, .int .i64 c.most, .int .i64 c.seg, .int .i64 c.least, .int .i64 c.den, .int .i64 c.ll, .int .i64 c.rl, .int .i64 c.rh, .int .i64 c.lh]), .is (.agg #[.int .i64 s.seg, .slice a1 s.ws.length k1, .slice a2 s.ks.length k2, .slice a3 s.vs.length k3, .slice a4 s.cs.length k4, .int .u64 s.laid]), .is (.agg #[.int .i64 5, .int .i64 0]), .slt w3.heap.size d (.int .i64 0), .slt w3.heap.size d (.int .i64 0), .slS w3.heap.size d, .is (.int .i64 0), .box w3.heap.size 29 6] (boxL w3.heap.size 3 17)) (effAt_stays boxL_stays) (effAt_dep (n := 8) [3, 17] boxL_dep xk xk (Nat.le_refl 8) (by decide)) (Below.refl _ _).drew ?steps ?fin
 case steps =>
  refine ⟨?o0, ?o1, ?o2, ?o3, ?o4, ?o5, ?o6, ?o7, ?o8, trivial⟩
  case o0 =>
   intro u a w' ev hJ hd K hK
   have HK := hid hK
   have HC := hid (CH.out w')
   have hzJ := hJ.size
   have HJ := hid hJ
   clear hK ev hd hJ
   go_simp
   refine HC.out.mono ?_
   rintro e w'' ⟨rfl, hb⟩
   exact HK.out _ _ (fun h => by cases h) (HJ.out.trans (hb.mono hzJ)) ⟨rfl, fun h => absurd h (by decide)⟩ ⟨fun _ => hb, fun h => absurd h (by decide)⟩
  case o1 =>
   intro u a w' ev hJ hd K hK
   have e1 : a.tmps.getD 1 undef = .pointer (some ⟨w2.heap.size, 0, none⟩) := ev 1 (by decide)
   have g0 := (hJ.cell (p := ⟨w2.heap.size, 0, none⟩) (by dsimp only; omega)).trans c_s0
   have g1 := (hJ.cell (p := ⟨w2.heap.size, 1, none⟩) (by dsimp only; omega)).trans c_s1
   have g2 := (hJ.cell (p := ⟨w2.heap.size, 2, none⟩) (by dsimp only; omega)).trans c_s2
   have g3 := (hJ.cell (p := ⟨w2.heap.size, 3, none⟩) (by dsimp only; omega)).trans c_s3
   have g4 := (hJ.cell (p := ⟨w2.heap.size, 4, none⟩) (by dsimp only; omega)).trans c_s4
   have g5 := (hJ.cell (p := ⟨w2.heap.size, 5, none⟩) (by dsimp only; omega)).trans c_s5
   have HK := hid hK
   clear hK ev hd
   go_simp
   exact HK.out _ _ (fun h => by cases h) hJ ⟨rfl, fun h => absurd h (by decide)⟩ ⟨fun _ => Below.refl _ _, fun h => absurd h (by decide)⟩
  case o2 =>
   intro u a w' ev hJ hd K hK
   have HK := hid hK
   clear hK ev hd
   go_simp
   exact HK.out _ _ (fun h => by cases h) hJ ⟨rfl, fun h => absurd h (by decide)⟩ ⟨fun _ => Below.refl _ _, fun h => absurd h (by decide)⟩
  case o3 =>
   intro u a w' ev hJ hd K hK
   have e13 : a.tmps.getD 13 undef = .agg #[.int .u8 c.tag, .int .i64 c.most, .int .i64 c.seg, .int .i64 c.least, .int .i64 c.den, .int .i64 c.ll, .int .i64 c.rl, .int .i64 c.rh, .int .i64 c.lh] := (ev 13 (by decide)).trans (hd 0 _ xk rfl).1
   have e14 : a.tmps.getD 14 undef = .agg #[.int .i64 s.seg, .slice a1 s.ws.length k1, .slice a2 s.ks.length k2, .slice a3 s.vs.length k3, .slice a4 s.cs.length k4, .int .u64 s.laid] := (ev 14 (by decide)).trans (hd 1 _ xk rfl).1
   have e15 : a.tmps.getD 15 undef = .agg #[.int .i64 5, .int .i64 0] := (ev 15 (by decide)).trans (hd 2 _ xk rfl).1
   have HK := hid hK
   have HC := hid (P1.out w' ⟨a1, a2, a3, a4, k1, k2, k3, k4⟩ (below_via hJ HB3.out HB3.out.size) (HN3.out.below hJ) HCS.out)
   have hzJ := hJ.size
   have HJ := hid hJ
   clear hK ev hd hJ
   go_simp
   refine HC.out.mono ?_
   rintro e w'' ⟨v1, v2, v3, v4, rfl, p1, p2, p3, p4, hb⟩
   exact HK.out _ _ (fun h => by cases h) (HJ.out.trans (hb.mono hzJ)) ⟨⟨_, rfl, v1, v2, v3, v4, rfl, owns_base p1 hzJ, owns_base p2 hzJ, owns_base p3 hzJ, owns_base p4 hzJ⟩, fun h => absurd h (by decide)⟩ ⟨fun _ => hb, fun h => absurd h (by decide)⟩
  case o4 =>
   intro u a w' ev hJ hd K hK
   obtain ⟨y, ht, hy⟩ : (FactR.slt w3.heap.size d (.int .i64 0)).holds (u 16) w' := (hd 3 _ xk rfl).1
   have e16 : a.tmps.getD 16 undef = _ := (ev 16 (by decide)).trans ht
   have HK := hid hK
   have HY := hid hy
   clear hK ev hd hy
   go_simp
   exact HK.out _ _ (fun h => by cases h) hJ ⟨⟨y, rfl, HY.out⟩, fun h => absurd h (by decide)⟩ ⟨fun _ => Below.refl _ _, fun h => absurd h (by decide)⟩
  case o5 =>
   intro u a w' ev hJ hd K hK
   obtain ⟨y, ht, hy⟩ : (FactR.slt w3.heap.size d (.int .i64 0)).holds (u 12) w' := (hd 4 _ xk rfl).1
   have e12 : a.tmps.getD 12 undef = _ := (ev 12 (by decide)).trans ht
   have HK := hid hK
   have HY := hid hy
   clear hK ev hd hy
   go_simp
   exact HK.out _ _ (fun h => by cases h) hJ ⟨HY.out, fun h => absurd h (by decide)⟩ ⟨fun _ => Below.refl _ _, fun h => absurd h (by decide)⟩
  case o6 =>
   intro u a w' ev hJ hd K hK
   obtain ⟨y, ht, hy⟩ : (FactR.slt w3.heap.size d (.int .i64 0)).holds (u 12) w' := (hd 4 _ xk rfl).1
   have e12 : a.tmps.getD 12 undef = _ := (ev 12 (by decide)).trans ht
   have HK := hid hK
   have HY := hid hy
   clear hK ev hd hy
   go_simp
   exact HK.out _ _ (fun h => by cases h) hJ ⟨rfl, fun h => absurd h (by decide)⟩ ⟨fun _ => Below.refl _ _, fun h => absurd h (by decide)⟩
  case o7 =>
   intro u a w' ev hJ hd K hK
   have HK := hid hK
   have hzJ := hJ.size
   have HJ := hid hJ
   clear hK ev hd hJ
   go_simp
   exact HK.out _ _ (fun h => by cases h) (HJ.out.alloc hzJ _) ⟨⟨_, _, rfl, hzJ, alloc_new _ _, rfl⟩, fun h => absurd h (by decide)⟩ ⟨fun _ => (Below.refl _ _).alloc (Nat.le_refl _) _, fun h => absurd h (by decide)⟩
  case o8 =>
   intro u a w' ev hJ hd K hK
   obtain ⟨b6, cs6, h6, hz6, hh6, hn6⟩ : (FactR.box w3.heap.size 29 6).holds (u 3) w' := (hd 7 _ xk rfl).1
   obtain ⟨v1, v2, v3, v4, h5, o1, o2, o3, o4⟩ : (FactR.sl w3.heap.size d).holds (u 17) w' := (hd 5 _ xk rfl).1
   obtain ⟨q1, m1, rfl, -⟩ := owns_news o1
   obtain ⟨q2, m2, rfl, -⟩ := owns_news o2
   obtain ⟨q3, m3, rfl, -⟩ := owns_news o3
   obtain ⟨q4, m4, rfl, -⟩ := owns_news o4
   have hlt : b6 < w'.heap.size := (Array.getElem?_eq_some_iff.1 hh6).1
   obtain ⟨x0, x1, x2, x3, x4, x5, ⟨k0, k1, k2, k3, k4, k5⟩, f0, f1, f2, f3, f4, f5⟩ := boxE_six hh6 hn6
   have e7 : a.tmps.getD 3 undef = _ := (ev 3 (by decide)).trans h6
   have e5 : a.tmps.getD 17 undef = _ := (ev 17 (by decide)).trans h5
   have HS := hid (six_set (w := w') (b := b6) (x := .int .i64 d.seg) (y := .slice q1 d.ws.length m1) (z := .slice q2 d.ks.length m2) (p := .slice q3 d.vs.length m3) (q := .slice q4 d.cs.length m4) (r := .int .u64 d.laid) k0 k1 k2 k3 k4 k5)
   have HT := hid (six_stT hh6 (.int .i64 d.seg) (.slice q1 d.ws.length m1) (.slice q2 d.ks.length m2) (.slice q3 d.vs.length m3) (.slice q4 d.cs.length m4) (.int .u64 d.laid))
   have HK := hid hK
   have HJ := hid hJ
   have HH := hid (And.intro h6 h5)
   clear hK ev hd hJ h6 h5 hh6 o1 o2 o3 o4
   go_simp
   exact HK.out _ _ (fun _ => rfl) ((((((HJ.out.setCell (by dsimp only; omega) _).setCell (by dsimp only; omega) _).setCell (by dsimp only; omega) _).setCell (by dsimp only; omega) _).setCell (by dsimp only; omega) _).setCell (by dsimp only; omega) _) ⟨trivial, fun _ => ⟨b6, _, HH.out.1, hz6, by simp only [World.size_setCell]; exact hlt, HH.out.2, HS.out⟩⟩ ⟨fun h => absurd rfl h, fun _ => HT.out⟩
 case fin =>
 intro u w4 hJ hG
 clear c_s0 c_s1 c_s2 c_s3 c_s4 c_s5
 obtain ⟨v1, v2, v3, v4, h5, p1, p2, p3, p4⟩ : (FactR.sl w3.heap.size d).holds (u 17) w4 := (hG 5 _ rfl).1
 have h6 : u 18 = .int .i64 0 := (hG 6 _ rfl).1
 obtain ⟨bd, cs, h7, hb0, hb1, hx, hpb⟩ : boxL w3.heap.size 3 17 u w4 := (hG 8 _ rfl).2 rfl
 rw [h5] at hx
 cases hx
 have HB4 := xv hJ HB3
 obtain ⟨b1, j1, rfl, i1, -, -, -, -⟩ := row_of_owns p1
 obtain ⟨b2, j2, rfl, i2, -, -, -, -⟩ := row_of_owns p2
 obtain ⟨b3, j3, rfl, i3, -, -, -, -⟩ := row_of_owns p3
 obtain ⟨b4, j4, rfl, i4, -, -, hcc, -⟩ := row_of_owns p4
 have HOd := hid p2
 have HN4 : Hid (SlIn w4 d ⟨b1, b2, b3, b4, j1, j2, j3, j4⟩) := hid ⟨i1, i2, i3, i4, HU.out.2.1⟩
 have HCD := hid hcc
 have P_d := hid hpb
 replace P_s := hid (pb_below hJ P_s.out xo)
 have hJz4 := hJ.size
 clear p1 p2 p3 p4 i1 i2 i3 i4 hcc hJ hG hpb
 simp only [mixFrame, mixL, dstsOf, List.take_succ_cons, List.take_zero, List.filterMap_cons, List.filterMap_nil, List.contains_cons, List.contains_nil, Nat.reduceBEq, Bool.or_false, Bool.false_or, Bool.or_true, Bool.true_or, if_true, if_false, Bool.false_eq_true, Nat.reduceAdd, Nat.zero_add, List.drop_succ_cons, List.drop_zero, h5, h6, h7]
 clear h5 h6 h7
 go_upto_region 3 with (fail)
 have c_d0 := P_d.out 0 _ rfl
 have c_d1 := P_d.out 1 _ rfl
 have c_d2 := P_d.out 2 _ rfl
 have c_d3 := P_d.out 3 _ rfl
 have c_d4 := P_d.out 4 _ rfl
 have c_d5 := P_d.out 5 _ rfl
 refine wp_region_eff 9 xk (N := 85) rfl xk xk (by decide) (fun w' => Below w4.heap.size w4 w') (effExt 29 8) (effAt 8 [20, 21, 22, 23, 19, 24, 25, 5] [.is (.agg #[.int .u8 c.tag, .int .i64 c.most, .int .i64 c.seg, .int .i64 c.least, .int .i64 c.den, .int .i64 c.ll, .int .i64 c.rl, .int .i64 c.rh, .int .i64 c.lh]), .is (.agg #[.int .i64 d.seg, .slice b1 d.ws.length j1, .slice b2 d.ks.length j2, .slice b3 d.vs.length j3, .slice b4 d.cs.length j4, .int .u64 d.laid]), .is (.agg #[.int .i64 9, .int .i64 0]), .slt w4.heap.size g (.int .i64 0), .slt w4.heap.size g (.int .i64 0), .slS w4.heap.size g, .is (.int .i64 0), .box w4.heap.size 29 6] (boxL w4.heap.size 5 24)) (effAt_stays boxL_stays) (effAt_dep (n := 8) [5, 24] boxL_dep xk xk (Nat.le_refl 8) (by decide)) (Below.refl _ _).drew ?steps ?fin
 case steps =>
  refine ⟨?o0, ?o1, ?o2, ?o3, ?o4, ?o5, ?o6, ?o7, ?o8, trivial⟩
  case o0 =>
   intro u a w' ev hJ hd K hK
   have HK := hid hK
   have HC := hid (CH.out w')
   have hzJ := hJ.size
   have HJ := hid hJ
   clear hK ev hd hJ
   go_simp
   refine HC.out.mono ?_
   rintro e w'' ⟨rfl, hb⟩
   exact HK.out _ _ (fun h => by cases h) (HJ.out.trans (hb.mono hzJ)) ⟨rfl, fun h => absurd h (by decide)⟩ ⟨fun _ => hb, fun h => absurd h (by decide)⟩
  case o1 =>
   intro u a w' ev hJ hd K hK
   have e3 : a.tmps.getD 3 undef = .pointer (some ⟨bd, 0, none⟩) := ev 3 (by decide)
   have g0 := (hJ.cell (p := ⟨bd, 0, none⟩) (by dsimp only; omega)).trans c_d0
   have g1 := (hJ.cell (p := ⟨bd, 1, none⟩) (by dsimp only; omega)).trans c_d1
   have g2 := (hJ.cell (p := ⟨bd, 2, none⟩) (by dsimp only; omega)).trans c_d2
   have g3 := (hJ.cell (p := ⟨bd, 3, none⟩) (by dsimp only; omega)).trans c_d3
   have g4 := (hJ.cell (p := ⟨bd, 4, none⟩) (by dsimp only; omega)).trans c_d4
   have g5 := (hJ.cell (p := ⟨bd, 5, none⟩) (by dsimp only; omega)).trans c_d5
   have HK := hid hK
   clear hK ev hd
   go_simp
   exact HK.out _ _ (fun h => by cases h) hJ ⟨rfl, fun h => absurd h (by decide)⟩ ⟨fun _ => Below.refl _ _, fun h => absurd h (by decide)⟩
  case o2 =>
   intro u a w' ev hJ hd K hK
   have HK := hid hK
   clear hK ev hd
   go_simp
   exact HK.out _ _ (fun h => by cases h) hJ ⟨rfl, fun h => absurd h (by decide)⟩ ⟨fun _ => Below.refl _ _, fun h => absurd h (by decide)⟩
  case o3 =>
   intro u a w' ev hJ hd K hK
   have e20 : a.tmps.getD 20 undef = .agg #[.int .u8 c.tag, .int .i64 c.most, .int .i64 c.seg, .int .i64 c.least, .int .i64 c.den, .int .i64 c.ll, .int .i64 c.rl, .int .i64 c.rh, .int .i64 c.lh] := (ev 20 (by decide)).trans (hd 0 _ xk rfl).1
   have e21 : a.tmps.getD 21 undef = .agg #[.int .i64 d.seg, .slice b1 d.ws.length j1, .slice b2 d.ks.length j2, .slice b3 d.vs.length j3, .slice b4 d.cs.length j4, .int .u64 d.laid] := (ev 21 (by decide)).trans (hd 1 _ xk rfl).1
   have e22 : a.tmps.getD 22 undef = .agg #[.int .i64 9, .int .i64 0] := (ev 22 (by decide)).trans (hd 2 _ xk rfl).1
   have HK := hid hK
   have HC := hid (P2.out w' ⟨b1, b2, b3, b4, j1, j2, j3, j4⟩ (below_via hJ HB4.out HB4.out.size) (HN4.out.below hJ) HCD.out)
   have hzJ := hJ.size
   have HJ := hid hJ
   clear hK ev hd hJ
   go_simp
   refine HC.out.mono ?_
   rintro e w'' ⟨v1, v2, v3, v4, rfl, p1, p2, p3, p4, hb⟩
   exact HK.out _ _ (fun h => by cases h) (HJ.out.trans (hb.mono hzJ)) ⟨⟨_, rfl, v1, v2, v3, v4, rfl, owns_base p1 hzJ, owns_base p2 hzJ, owns_base p3 hzJ, owns_base p4 hzJ⟩, fun h => absurd h (by decide)⟩ ⟨fun _ => hb, fun h => absurd h (by decide)⟩
  case o4 =>
   intro u a w' ev hJ hd K hK
   obtain ⟨y, ht, hy⟩ : (FactR.slt w4.heap.size g (.int .i64 0)).holds (u 23) w' := (hd 3 _ xk rfl).1
   have e23 : a.tmps.getD 23 undef = _ := (ev 23 (by decide)).trans ht
   have HK := hid hK
   have HY := hid hy
   clear hK ev hd hy
   go_simp
   exact HK.out _ _ (fun h => by cases h) hJ ⟨⟨y, rfl, HY.out⟩, fun h => absurd h (by decide)⟩ ⟨fun _ => Below.refl _ _, fun h => absurd h (by decide)⟩
  case o5 =>
   intro u a w' ev hJ hd K hK
   obtain ⟨y, ht, hy⟩ : (FactR.slt w4.heap.size g (.int .i64 0)).holds (u 19) w' := (hd 4 _ xk rfl).1
   have e19 : a.tmps.getD 19 undef = _ := (ev 19 (by decide)).trans ht
   have HK := hid hK
   have HY := hid hy
   clear hK ev hd hy
   go_simp
   exact HK.out _ _ (fun h => by cases h) hJ ⟨HY.out, fun h => absurd h (by decide)⟩ ⟨fun _ => Below.refl _ _, fun h => absurd h (by decide)⟩
  case o6 =>
   intro u a w' ev hJ hd K hK
   obtain ⟨y, ht, hy⟩ : (FactR.slt w4.heap.size g (.int .i64 0)).holds (u 19) w' := (hd 4 _ xk rfl).1
   have e19 : a.tmps.getD 19 undef = _ := (ev 19 (by decide)).trans ht
   have HK := hid hK
   have HY := hid hy
   clear hK ev hd hy
   go_simp
   exact HK.out _ _ (fun h => by cases h) hJ ⟨rfl, fun h => absurd h (by decide)⟩ ⟨fun _ => Below.refl _ _, fun h => absurd h (by decide)⟩
  case o7 =>
   intro u a w' ev hJ hd K hK
   have HK := hid hK
   have hzJ := hJ.size
   have HJ := hid hJ
   clear hK ev hd hJ
   go_simp
   exact HK.out _ _ (fun h => by cases h) (HJ.out.alloc hzJ _) ⟨⟨_, _, rfl, hzJ, alloc_new _ _, rfl⟩, fun h => absurd h (by decide)⟩ ⟨fun _ => (Below.refl _ _).alloc (Nat.le_refl _) _, fun h => absurd h (by decide)⟩
  case o8 =>
   intro u a w' ev hJ hd K hK
   obtain ⟨b6, cs6, h6, hz6, hh6, hn6⟩ : (FactR.box w4.heap.size 29 6).holds (u 5) w' := (hd 7 _ xk rfl).1
   obtain ⟨v1, v2, v3, v4, h5, o1, o2, o3, o4⟩ : (FactR.sl w4.heap.size g).holds (u 24) w' := (hd 5 _ xk rfl).1
   obtain ⟨q1, m1, rfl, -⟩ := owns_news o1
   obtain ⟨q2, m2, rfl, -⟩ := owns_news o2
   obtain ⟨q3, m3, rfl, -⟩ := owns_news o3
   obtain ⟨q4, m4, rfl, -⟩ := owns_news o4
   have hlt : b6 < w'.heap.size := (Array.getElem?_eq_some_iff.1 hh6).1
   obtain ⟨x0, x1, x2, x3, x4, x5, ⟨k0, k1, k2, k3, k4, k5⟩, f0, f1, f2, f3, f4, f5⟩ := boxE_six hh6 hn6
   have e7 : a.tmps.getD 5 undef = _ := (ev 5 (by decide)).trans h6
   have e5 : a.tmps.getD 24 undef = _ := (ev 24 (by decide)).trans h5
   have HS := hid (six_set (w := w') (b := b6) (x := .int .i64 g.seg) (y := .slice q1 g.ws.length m1) (z := .slice q2 g.ks.length m2) (p := .slice q3 g.vs.length m3) (q := .slice q4 g.cs.length m4) (r := .int .u64 g.laid) k0 k1 k2 k3 k4 k5)
   have HT := hid (six_stT hh6 (.int .i64 g.seg) (.slice q1 g.ws.length m1) (.slice q2 g.ks.length m2) (.slice q3 g.vs.length m3) (.slice q4 g.cs.length m4) (.int .u64 g.laid))
   have HK := hid hK
   have HJ := hid hJ
   have HH := hid (And.intro h6 h5)
   clear hK ev hd hJ h6 h5 hh6 o1 o2 o3 o4
   go_simp
   exact HK.out _ _ (fun _ => rfl) ((((((HJ.out.setCell (by dsimp only; omega) _).setCell (by dsimp only; omega) _).setCell (by dsimp only; omega) _).setCell (by dsimp only; omega) _).setCell (by dsimp only; omega) _).setCell (by dsimp only; omega) _) ⟨trivial, fun _ => ⟨b6, _, HH.out.1, hz6, by simp only [World.size_setCell]; exact hlt, HH.out.2, HS.out⟩⟩ ⟨fun h => absurd rfl h, fun _ => HT.out⟩
 case fin =>
 intro u' w5 hJ hG
 clear c_d0 c_d1 c_d2 c_d3 c_d4 c_d5
 obtain ⟨v1, v2, v3, v4, h5, p1, p2, p3, p4⟩ : (FactR.sl w4.heap.size g).holds (u' 24) w5 := (hG 5 _ rfl).1
 have h6 : u' 25 = .int .i64 0 := (hG 6 _ rfl).1
 obtain ⟨bg, cs, h7, hb0, hb1, hx, hpb⟩ : boxL w4.heap.size 5 24 u' w5 := (hG 8 _ rfl).2 rfl
 rw [h5] at hx
 cases hx
 have HB5 := xv hJ HB4
 obtain ⟨e1, l1, rfl, i1, -, -, -, -⟩ := row_of_owns p1
 obtain ⟨e2, l2, rfl, i2, -, -, -, -⟩ := row_of_owns p2
 obtain ⟨e3, l3, rfl, i3, -, -, -, -⟩ := row_of_owns p3
 obtain ⟨e4, l4, rfl, i4, -, -, hcc, -⟩ := row_of_owns p4
 have HOg := hid p2
 have HN5 : Hid (SlIn w5 g ⟨e1, e2, e3, e4, l1, l2, l3, l4⟩) := hid ⟨i1, i2, i3, i4, HU.out.2.2⟩
 have HCG := hid hcc
 have P_g := hid hpb
 replace P_s := hid (pb_below hJ P_s.out xo)
 replace P_d := hid (pb_below hJ P_d.out xo)
 replace HOd := hid (owns_below HOd.out hJ)
 have hJz5 := hJ.size
 clear p1 p2 p3 p4 i1 i2 i3 i4 hcc hJ hG hpb
 simp only [mixFrame, mixL, dstsOf, List.take_succ_cons, List.take_zero, List.filterMap_cons, List.filterMap_nil, List.contains_cons, List.contains_nil, Nat.reduceBEq, Bool.or_false, Bool.false_or, Bool.or_true, Bool.true_or, if_true, if_false, Bool.false_eq_true, Nat.reduceAdd, Nat.zero_add, List.drop_succ_cons, List.drop_zero, h5, h6, h7]
 clear h5 h6 h7
 go_upto_region 4 with (fail)
 obtain ⟨gd, kd, hee, -, -⟩ := owns_at HOd.out hd1
 cases hee
 obtain ⟨gg, kg, hee, -, -⟩ := owns_at HOg.out xo
 cases hee
 have r0 := (own_cells HOd.out (j := 0) hd1).1
 have r1 := (own_cells HOg.out (j := 0) xo).1
 have r2 := (own_cells HOg.out (j := 2) hg1).1
 rw [HK.out.1] at r0
 rw [HK.out.2.1] at r1
 rw [HK.out.2.2] at r2
 have y0 : (0 : Int) < (d.ks.length : Int) := xo
 have y1 : (0 : Int) < (g.ks.length : Int) := xo
 have y2 : (2 : Int) < (g.ks.length : Int) := xo
 have c_s0 := P_s.out 0 _ rfl
 have c_s1 := P_s.out 1 _ rfl
 have c_s2 := P_s.out 2 _ rfl
 have c_s3 := P_s.out 3 _ rfl
 have c_s4 := P_s.out 4 _ rfl
 have c_s5 := P_s.out 5 _ rfl
 have c_d0 := P_d.out 0 _ rfl
 have c_d1 := P_d.out 1 _ rfl
 have c_d2 := P_d.out 2 _ rfl
 have c_d3 := P_d.out 3 _ rfl
 have c_d4 := P_d.out 4 _ rfl
 have c_d5 := P_d.out 5 _ rfl
 have c_g0 := P_g.out 0 _ rfl
 have c_g1 := P_g.out 1 _ rfl
 have c_g2 := P_g.out 2 _ rfl
 have c_g3 := P_g.out 3 _ rfl
 have c_g4 := P_g.out 4 _ rfl
 have c_g5 := P_g.out 5 _ rfl
 clear HOd HOg HN5
 go_wp2
 go_ret
 exact ⟨rfl, HB5.out⟩
theorem alive9_ok (w : World) (hT : TabAt w) : Calls Tryd.prog 7 #[] w (AnsB w (.bool true)) := by
 have hn : cfE chG = 0 ∧ (newC chG).ks.length = 16 := by decide +kernel
 have h1 : putE chG (newC chG) 0 = 0 ∧ (putC chG (newC chG) 0 (5, 0)).ks.length = 16 ∧ (putC chG (newC chG) 0 (5, 0)).ks.getD 0 0 = 5 ∧ (putC chG (newC chG) 0 (5, 0)).laid = 1 := by decide +kernel
 have h2 : putE chG (putC chG (newC chG) 0 (5, 0)) 1 = 0 ∧ (putC chG (putC chG (newC chG) 0 (5, 0)) 1 (9, 0)).ks.length = 16 ∧ (putC chG (putC chG (newC chG) 0 (5, 0)) 1 (9, 0)).ks.getD 0 0 = 5 ∧ (putC chG (putC chG (newC chG) 0 (5, 0)) 1 (9, 0)).ks.getD 2 0 = 9 ∧ (putC chG (putC chG (newC chG) 0 (5, 0)) 1 (9, 0)).laid = 3 := by decide +kernel
 have n0 := new_nums9 chG
 have n1 := put_nums chG (newC chG) n0.2.2.2.2 0 (5, 0)
 have n2 := put_nums chG (putC chG (newC chG) 0 (5, 0)) n1.2.2.2.2 1 (9, 0)
 exact alive9_core chG (newC chG) (putC chG (newC chG) 0 (5, 0)) (putC chG (putC chG (newC chG) 0 (5, 0)) 1 (9, 0)) hn.2 h1.2.1 h2.2.1 h1.2.2.1 h2.2.2.1 h2.2.2.2.1 h1.2.2.2 h2.2.2.2.2 n0.2.2.2.2 n1.2.2.2.2 n2.2.2.2.2 w
   (hid fun W => chap9_ok W)
   (hid fun W => by have := gapNew_ok chG W; rwa [hn.1] at this)
   (hid fun W sa hb hi hc => by have := gapPut_ok chG (newC chG) sa xo xo hc 0 5 0 W hi (hT.below hb); rwa [h1.1] at this)
   (hid fun W sa hb hi hc => by have := gapPut_ok chG (putC chG (newC chG) 0 (5, 0)) sa xo xo hc 1 9 0 W hi (hT.below hb); rwa [h2.1] at this)
end
end Go.Proofs.YtookgoidlnlckaaDoor

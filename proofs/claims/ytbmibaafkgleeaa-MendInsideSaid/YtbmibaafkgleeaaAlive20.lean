/- The chapter's examples of law20 are as is said: tells, alive. -/
import Derived.Test.YtbmibaafkgleeaaChTurn
import Derived.Test.YtbmibaafkgleeaaMendFit
import Derived.Test.YtbmibaafkgleeaaEffAll
import Derived.Deep.CutRange
namespace Go.Proofs.Ytbmibaafkgleeaa
open Go.RowKit Go.Shelf
set_option linter.unusedVariables false
set_option linter.unusedSimpArgs false

set_option maxHeartbeats 1000000 in
theorem tells20_ok (l n : Int) (ma ca : Option Addr) (mc cc : Nat) (ms cs : List Int) (key count : Int) (h1 : atM l ms cs n = key) (h2 : atC l ms cs n = count) (h3 : atE l ms cs n = 0) (w : World) (hm : IsRow .i64 w ma ms) (hc : IsRow .i64 w ca cs) :
    Calls Try.prog 31 #[ixV l ma ms.length mc ca cs.length cc, .int .i64 n, .int .i64 key, .int .i64 count] w (AnsB w (.bool true)) := by
  have AT := Lib.hid (fun W (hb : Below w.heap.size w W) => At_ix l n ma ca mc cc ms cs W (hm.below hb) (hc.below hb))
  rw [h1, h2, h3] at AT
  have g1 : (key == key) = true := by simp
  have g2 : (count == count) = true := by simp
  clear h1 h2 h3 hm hc
  go_enter Try.func31, Try.ntmps31
  go_wp2_with fail
  refine (AT.out _ ((Below.refl _ _).alloc (Nat.le_refl _) _)).mono ?_
  rintro e w1 ⟨rfl, hb1⟩
  have hz_w1 := hb1.size
  try simp only [World.size_alloc, World.size_setCell] at hz_w1
  have hB1 : Below w.heap.size w w1 := by (repeat (first | (with_reducible exact Below.refl _ _) | (with_reducible assumption) | (with_reducible exact Hid.out (by with_reducible assumption)) | (with_reducible refine Below.alloc ?_ ?_ _) | (with_reducible refine Below.setCell ?_ ?_ _) | (with_reducible refine below_drewN ?_ _) | (with_reducible refine Below.drew ?_) | (with_reducible refine below_via (by with_reducible assumption) ?_ ?_) | (first | (with_reducible assumption) | omega | (simp only [World.size_alloc, World.size_setCell, World.size_drew, World.heap_drewN] <;> omega) | (simp <;> omega))))
  go_wp2
  go_ret
  exact ⟨rfl, hB1⟩
theorem th_1 : atM 3 (bldM chT) (bldC chT) 1 = 12 ∧ atC 3 (bldM chT) (bldC chT) 1 = 6 ∧ atE 3 (bldM chT) (bldC chT) 1 = 0 := by rw [chT_eq]; decide +kernel
theorem th_2 : atM 3 (bldM chT) (bldC chT) 2 = 6 ∧ atC 3 (bldM chT) (bldC chT) 2 = 3 ∧ atE 3 (bldM chT) (bldC chT) 2 = 0 := by rw [chT_eq]; decide +kernel
theorem th_5 : atM 3 (bldM chT) (bldC chT) 5 = 6 ∧ atC 3 (bldM chT) (bldC chT) 5 = 1 ∧ atE 3 (bldM chT) (bldC chT) 5 = 0 := by rw [chT_eq]; decide +kernel
theorem tu_CT : tuV chC chT = (1, 2, 0) := by rw [chC_eq, chT_eq]; decide +kernel
theorem wd_CT : wndE 3 (bldM chC) (bldC chC) chT 1 2 = 0 ∧ wndL 3 (bldM chC) (bldC chC) chT 1 2 = 3 ∧ wndM 3 (bldM chC) (bldC chC) chT 1 2 = bldM chT ∧ wndC 3 (bldM chC) (bldC chC) chT 1 2 = bldC chT := by
  have h := wnd_law chC_bld chT_bld (by rw [chC_eq, chT_eq]) (by rw [chC_eq, chT_eq]; rfl) (lo := 1) (hi := 2) (by decide) (by decide) (by rw [chT_eq]; decide) (fun k hk h => by
    have hk' : k < 4 := by rw [chT_eq] at hk; exact hk
    have h4 : k = 0 ∨ k = 2 ∨ k = 3 := by omega
    rw [chC_eq, chT_eq]
    rcases h4 with rfl | rfl | rfl <;> decide +kernel)
  rw [chC_lev, chT_lev] at h
  exact h

set_option maxRecDepth 100000 in
set_option maxHeartbeats 2000000 in
theorem alive20_ok (w : World) : Calls Try.prog 22 #[] w (AnsB w (.bool true)) := by
  have BI := Lib.hid (fun a W h => BuildIx_ok chC a (by rw [chC_eq]; decide) (by rw [chC_eq]; decide) W h)
  rw [chC_lev, chC_bld] at BI
  have hbl := bld_len chC
  have TU := Lib.hid (fun a b W h h' q1 q2 q3 q4 => Turned_ok chC chT a b (by rw [chC_eq]; decide) (by rw [chC_eq]; decide) (by rw [chT_eq]; decide) (by rw [chT_eq]; decide) W h h' q1 q2 q3 q4)
  rw [tu_CT] at TU
  have WD := Lib.hid (fun ma ca mc cc a W h h1 h2 => Window_ok 3 ma ca mc cc (bldM chC) (bldC chC) chT a 1 2 (by rw [chT_eq]; decide) (by rw [chT_eq]; decide) W h h1 h2 hbl.1 hbl.2)
  rw [wd_CT.1, wd_CT.2.1, wd_CT.2.2.1, wd_CT.2.2.2] at WD
  have T1 := Lib.hid (fun ma ca mc cc W h h' => tells20_ok 3 1 ma ca mc cc (bldM chT) (bldC chT) 12 6 th_1.1 th_1.2.1 th_1.2.2 W h h')
  have T2 := Lib.hid (fun ma ca mc cc W h h' => tells20_ok 3 2 ma ca mc cc (bldM chT) (bldC chT) 6 3 th_2.1 th_2.2.1 th_2.2.2 W h h')
  have T5 := Lib.hid (fun ma ca mc cc W h h' => tells20_ok 3 5 ma ca mc cc (bldM chT) (bldC chT) 6 1 th_5.1 th_5.2.1 th_5.2.2 W h h')
  have HU := Lib.hid chC_u
  have HUT := Lib.hid chT_u
  have CH := Lib.hid chapter_ok
  have CT := Lib.hid turned_ok
  unfold FreshSl at CH CT
  clear hbl
  dsimp only [slV] at TU WD
  generalize bldM chC = bm at *
  generalize bldC chC = bc at *
  generalize bldM chT = tm at *
  generalize bldC chT = tc at *
  generalize chC = c at *
  generalize chT = ct at *
  go_enter Try.func22, Try.ntmps22
  go_wp2_with fail
  refine (CH.out w).mono ?_
  rintro e w1 ⟨v1, v2, v3, v4, rfl, o1, o2, o3, o4, hb1⟩
  obtain ⟨a1, c1, rfl, i1, -, -, -, -⟩ := row_of_owns o1
  obtain ⟨a2, c2, rfl, i2, -, -, n2, -⟩ := row_of_owns o2
  obtain ⟨a3, c3, rfl, i3, -, -, n3, -⟩ := row_of_owns o3
  obtain ⟨a4, c4, rfl, i4, -, -, -, -⟩ := row_of_owns o4
  have hin : SlIn w1 c ⟨a1, a2, a3, a4, c1, c2, c3, c4⟩ := ⟨i1, i2, i3, i4, HU.out⟩
  clear o1 o2 o3 o4 i1 i2 i3 i4
  go_wp2_with fail
  refine (CT.out w1).mono ?_
  rintro e w2 ⟨v1, v2, v3, v4, rfl, o1, o2, o3, o4, hb2⟩
  obtain ⟨b1, k1, rfl, i1, -, -, -, -⟩ := row_of_owns o1
  obtain ⟨b2, k2, rfl, i2, -, -, n2', -⟩ := row_of_owns o2
  obtain ⟨b3, k3, rfl, i3, -, -, n3', -⟩ := row_of_owns o3
  obtain ⟨b4, k4, rfl, i4, -, -, -, -⟩ := row_of_owns o4
  have hB2 : Below w.heap.size w w2 := below_via hb2 hb1 hb1.size
  have TU2 := Lib.hid (TU.out ⟨a1, a2, a3, a4, c1, c2, c3, c4⟩ ⟨b1, b2, b3, b4, k1, k2, k3, k4⟩ w2 (hin.below hb2) ⟨i1, i2, i3, i4, HUT.out⟩ n2 n3 n2' n3')
  clear o1 o2 o3 o4 i1 i2 i3 i4 hin n2 n3 n2' n3' TU hb1 hb2
  go_wp2_with fail
  refine TU2.out.mono ?_
  rintro e w3 ⟨rfl, hb3⟩
  have hB3 : Below w.heap.size w w3 := below_via hb3 hB2 hB2.size
  clear TU2 hB2 hb3
  go_wp2_with fail
  refine (CH.out w3).mono ?_
  rintro e w4 ⟨v1, v2, v3, v4, rfl, o1, o2, o3, o4, hb4⟩
  obtain ⟨a1, c1, rfl, i1, -, -, -, -⟩ := row_of_owns o1
  obtain ⟨a2, c2, rfl, i2, -, -, -, -⟩ := row_of_owns o2
  obtain ⟨a3, c3, rfl, i3, -, -, -, -⟩ := row_of_owns o3
  obtain ⟨a4, c4, rfl, i4, -, -, -, -⟩ := row_of_owns o4
  have BI1 := Lib.hid (BI.out ⟨a1, a2, a3, a4, c1, c2, c3, c4⟩ w4 ⟨i1, i2, i3, i4, HU.out⟩)
  have hB4 : Below w.heap.size w w4 := below_via hb4 hB3 hB3.size
  clear o1 o2 o3 o4 i1 i2 i3 i4 hb4 hB3 BI
  go_wp2_with fail
  refine BI1.out.mono ?_
  rintro e w5 ⟨v, u, rfl, o1, o2, hb5⟩
  obtain ⟨ma, mc, rfl, i1, -, -, -, -⟩ := row_of_owns o1
  obtain ⟨ca, cc, rfl, i2, -, -, -, -⟩ := row_of_owns o2
  have hB5 : Below w.heap.size w w5 := below_via hb5 hB4 hB4.size
  have I1 := Lib.hid (fun W (hb : Below w5.heap.size w5 W) => i1.below hb)
  have I2 := Lib.hid (fun W (hb : Below w5.heap.size w5 W) => i2.below hb)
  clear o1 o2 i1 i2 hb5 hB4 BI1
  have HW : Hid (Below w5.heap.size w5 (w5.alloc (.cells #[.int .i64 3, .slice ma bm.length mc, .slice ca bc.length cc] 25))) := Lib.hid ((Below.refl _ _).alloc (Nat.le_refl _) _)
  have hsa : (w5.alloc (.cells #[.int .i64 3, .slice ma bm.length mc, .slice ca bc.length cc] 25)).heap.size = w5.heap.size + 1 := by simp
  have c_x0 : (w5.alloc (.cells #[.int .i64 3, .slice ma bm.length mc, .slice ca bc.length cc] 25)).cell? ⟨w5.heap.size, 0, none⟩ = some (.int .i64 3) := by (first | (with_reducible assumption) | ((try simp (disch := first | omega | (simp only [World.size_alloc, World.size_setCell, World.size_drew, World.heap_drewN] <;> omega) | fail) only [World.cell?_alloc_past, World.cell?_alloc_at, World.frozen?_alloc_past, World.frozen?_alloc_at, World.frozen?_setCell, World.cell?_drew, World.frozen?_drew]) <;> first | (with_reducible assumption) | rfl))
  have c_x1 : (w5.alloc (.cells #[.int .i64 3, .slice ma bm.length mc, .slice ca bc.length cc] 25)).cell? ⟨w5.heap.size, 1, none⟩ = some (.slice ma bm.length mc) := by (first | (with_reducible assumption) | ((try simp (disch := first | omega | (simp only [World.size_alloc, World.size_setCell, World.size_drew, World.heap_drewN] <;> omega) | fail) only [World.cell?_alloc_past, World.cell?_alloc_at, World.frozen?_alloc_past, World.frozen?_alloc_at, World.frozen?_setCell, World.cell?_drew, World.frozen?_drew]) <;> first | (with_reducible assumption) | rfl))
  have c_x2 : (w5.alloc (.cells #[.int .i64 3, .slice ma bm.length mc, .slice ca bc.length cc] 25)).cell? ⟨w5.heap.size, 2, none⟩ = some (.slice ca bc.length cc) := by (first | (with_reducible assumption) | ((try simp (disch := first | omega | (simp only [World.size_alloc, World.size_setCell, World.size_drew, World.heap_drewN] <;> omega) | fail) only [World.cell?_alloc_past, World.cell?_alloc_at, World.frozen?_alloc_past, World.frozen?_alloc_at, World.frozen?_setCell, World.cell?_drew, World.frozen?_drew]) <;> first | (with_reducible assumption) | rfl))
  go_upto_region 3 with (fail)
  generalize w5.alloc (.cells #[.int .i64 3, .slice ma bm.length mc, .slice ca bc.length cc] 25) = wz at *
  have hzw : w5.heap.size ≤ wz.heap.size := by omega
  have hzx : w5.heap.size < wz.heap.size := by omega
  have hBz : Below w.heap.size w wz := below_via HW.out hB5 hB5.size
  generalize hbx : w5.heap.size = bx at *
  clear hsa
  refine wp_region_eff 8 (by kernel_rfl) (N := 56) rfl (by kernel_rfl) (by kernel_rfl) (by decide) (fun w' => Below wz.heap.size wz w') (effExt 25 7) (effAt 7 [21, 22, 23, 20, 24, 25, 6] [.is (ixV 3 ma bm.length mc ca bc.length cc), .sl wz.heap.size ct, .ixt wz.heap.size 3 tm tc 0, .ixt wz.heap.size 3 tm tc 0, .ix wz.heap.size 3 tm tc, .is (.int .i64 0), .box wz.heap.size 25 3] (boxX wz.heap.size 6 24)) (effAt_stays boxX_stays) (effAt_dep (n := 7) [6, 24] boxX_dep (by kernel_rfl) (by kernel_rfl) (Nat.le_refl 7) (by decide)) (Below.refl _ _).drew ?steps ?fin
  case steps =>
    refine ⟨?o0, ?o1, ?o2, ?o3, ?o4, ?o5, ?o6, ?o7, trivial⟩
    case o0 =>
      intro u a w' ev hJ hd K hK
      have e4 : a.tmps.getD 4 undef = .pointer (some ⟨bx, 0, none⟩) := ev 4 (by decide)
      have g0 := (hJ.cell (p := ⟨bx, 0, none⟩) (by dsimp only; omega)).trans c_x0
      have g1 := (hJ.cell (p := ⟨bx, 1, none⟩) (by dsimp only; omega)).trans c_x1
      have g2 := (hJ.cell (p := ⟨bx, 2, none⟩) (by dsimp only; omega)).trans c_x2
      have HK := Lib.hid hK
      clear hK ev hd
      go_simp
      exact HK.out _ _ (fun h => by cases h) hJ ⟨rfl, fun h => absurd h (by decide)⟩ ⟨fun _ => Below.refl _ _, fun h => absurd h (by decide)⟩
    case o1 =>
      intro u a w' ev hJ hd K hK
      have HK := Lib.hid hK
      have HC := Lib.hid (CT.out w')
      have hzJ := hJ.size
      clear hK ev hd
      go_simp
      refine HC.out.mono ?_
      rintro e w'' ⟨v1, v2, v3, v4, rfl, o1, o2, o3, o4, hb⟩
      exact HK.out _ _ (fun h => by cases h) (hJ.trans (hb.mono hzJ)) ⟨⟨_, _, _, _, rfl, owns_base o1 hzJ, owns_base o2 hzJ, owns_base o3 hzJ, owns_base o4 hzJ⟩, fun h => absurd h (by decide)⟩ ⟨fun _ => hb, fun h => absurd h (by decide)⟩
    case o2 =>
      intro u a w' ev hJ hd K hK
      obtain ⟨v1, v2, v3, v4, h2, o1, o2, o3, o4⟩ : (FactR.sl wz.heap.size ct).holds (u 22) w' := (hd 1 _ (by kernel_rfl) rfl).1
      obtain ⟨q1, k1, rfl, i1, -, -, -, -⟩ := row_of_owns o1
      obtain ⟨q2, k2, rfl, i2, -, -, -, -⟩ := row_of_owns o2
      obtain ⟨q3, k3, rfl, i3, -, -, -, -⟩ := row_of_owns o3
      obtain ⟨q4, k4, rfl, i4, -, -, -, -⟩ := row_of_owns o4
      have e21 : a.tmps.getD 21 undef = ixV 3 ma bm.length mc ca bc.length cc := (ev 21 (by decide)).trans (hd 0 _ (by kernel_rfl) rfl).1
      have e22 : a.tmps.getD 22 undef = _ := (ev 22 (by decide)).trans h2
      have HK := Lib.hid hK
      have HC := Lib.hid (WD.out ma ca mc cc ⟨q1, q2, q3, q4, k1, k2, k3, k4⟩ w' ⟨i1, i2, i3, i4, HUT.out⟩ (I1.out _ (below_via hJ HW.out hzw)) (I2.out _ (below_via hJ HW.out hzw)))
      have hzJ := hJ.size
      clear hK ev hd h2 o1 o2 o3 o4 i1 i2 i3 i4
      dsimp only [slV] at HC
      go_simp
      refine HC.out.mono ?_
      rintro e w'' ⟨v, u', rfl, o1, o2, hb⟩
      exact HK.out _ _ (fun h => by cases h) (hJ.trans (hb.mono hzJ)) ⟨⟨_, _, rfl, owns_base o1 hzJ, owns_base o2 hzJ⟩, fun h => absurd h (by decide)⟩ ⟨fun _ => hb, fun h => absurd h (by decide)⟩
    case o3 =>
      intro u a w' ev hJ hd K hK
      obtain ⟨y1, y2, h2, o1, o2⟩ : (FactR.ixt wz.heap.size 3 tm tc 0).holds (u 23) w' := (hd 2 _ (by kernel_rfl) rfl).1
      have e23 : a.tmps.getD 23 undef = _ := (ev 23 (by decide)).trans h2
      have HK := Lib.hid hK
      clear hK ev hd h2
      go_simp
      exact HK.out _ _ (fun h => by cases h) hJ ⟨⟨_, _, rfl, o1, o2⟩, fun h => absurd h (by decide)⟩ ⟨fun _ => Below.refl _ _, fun h => absurd h (by decide)⟩
    case o4 =>
      intro u a w' ev hJ hd K hK
      obtain ⟨y1, y2, h2, o1, o2⟩ : (FactR.ixt wz.heap.size 3 tm tc 0).holds (u 20) w' := (hd 3 _ (by kernel_rfl) rfl).1
      have e20 : a.tmps.getD 20 undef = _ := (ev 20 (by decide)).trans h2
      have HK := Lib.hid hK
      clear hK ev hd h2
      go_simp
      exact HK.out _ _ (fun h => by cases h) hJ ⟨⟨_, _, rfl, o1, o2⟩, fun h => absurd h (by decide)⟩ ⟨fun _ => Below.refl _ _, fun h => absurd h (by decide)⟩
    case o5 =>
      intro u a w' ev hJ hd K hK
      obtain ⟨y1, y2, h2, o1, o2⟩ : (FactR.ixt wz.heap.size 3 tm tc 0).holds (u 20) w' := (hd 3 _ (by kernel_rfl) rfl).1
      have e20 : a.tmps.getD 20 undef = _ := (ev 20 (by decide)).trans h2
      have HK := Lib.hid hK
      clear hK ev hd h2
      go_simp
      exact HK.out _ _ (fun h => by cases h) hJ ⟨rfl, fun h => absurd h (by decide)⟩ ⟨fun _ => Below.refl _ _, fun h => absurd h (by decide)⟩
    case o6 =>
      intro u a w' ev hJ hd K hK
      have HK := Lib.hid hK
      have hzJ := hJ.size
      have HJ := Lib.hid hJ
      clear hK ev hd hJ
      go_simp
      exact HK.out _ _ (fun h => by cases h) (HJ.out.alloc hzJ _) ⟨⟨_, _, rfl, hzJ, alloc_new _ _, rfl⟩, fun h => absurd h (by decide)⟩ ⟨fun _ => (Below.refl _ _).alloc (Nat.le_refl _) _, fun h => absurd h (by decide)⟩
    case o7 =>
      intro u a w' ev hJ hd K hK
      obtain ⟨b6, cs6, h6, hz6, hh6, hn6⟩ : (FactR.box wz.heap.size 25 3).holds (u 6) w' := (hd 6 _ (by kernel_rfl) rfl).1
      obtain ⟨x1, y1, h4, o1, o2⟩ : (FactR.ix wz.heap.size 3 tm tc).holds (u 24) w' := (hd 4 _ (by kernel_rfl) rfl).1
      obtain ⟨d0, d1, d2, k0, k1, k2, f0, f1, f2⟩ := box_three hh6 hn6
      have e6 : a.tmps.getD 6 undef = _ := (ev 6 (by decide)).trans h6
      have e4 : a.tmps.getD 24 undef = _ := (ev 24 (by decide)).trans h4
      obtain ⟨xa, xc, rfl, -⟩ := owns_news o1
      obtain ⟨ya, yc, rfl, -⟩ := owns_news o2
      have HK := Lib.hid hK
      have HJ := Lib.hid hJ
      have hs := three_set (w2 := w') (b := b6) (x := .int .i64 3) (y := .slice xa tm.length xc) (z := .slice ya tc.length yc) k0 k1 k2
      have HS := Lib.hid hs
      have HT := Lib.hid (three_stT hh6 (.int .i64 3) (.slice xa tm.length xc) (.slice ya tc.length yc))
      have HH := Lib.hid (And.intro h6 h4)
      clear hK ev hd hJ o1 o2 hs h6 h4 hh6
      go_simp
      exact HK.out _ _ (fun _ => rfl) (((HJ.out.setCell (by dsimp only; omega) _).setCell (by dsimp only; omega) _).setCell (by dsimp only; omega) _) ⟨trivial, fun _ => ⟨b6, _, _, _, HH.out.1, hz6, HH.out.2, HS.out⟩⟩ ⟨fun h => absurd rfl h, fun _ => HT.out⟩
  case fin =>
    intro u w3 hJ hG
    obtain ⟨x1, y1, h4, o1, o2⟩ : (FactR.ix wz.heap.size 3 tm tc).holds (u 24) w3 := (hG 4 _ rfl).1
    have h5 : u 25 = .int .i64 0 := (hG 5 _ rfl).1
    obtain ⟨b6, c0, c1, c2, h6, hz6, h46, hs⟩ := (hG 7 _ rfl).2 rfl
    obtain ⟨xa, xc, rfl, -⟩ := owns_news o1
    obtain ⟨ya, yc, rfl, -⟩ := owns_news o2
    rw [h4] at h46
    cases h46
    have i1 : IsRow .i64 w3 xa tm := by obtain ⟨a', c', h, h2, -⟩ := row_of_owns o1; cases h; exact h2
    have i2 : IsRow .i64 w3 ya tc := by obtain ⟨a', c', h, h2, -⟩ := row_of_owns o2; cases h; exact h2
    have hlb : b6 < w3.heap.size := World.block_lt_of_cell? _ _ hs.1
    have hJ3 : Below wz.heap.size wz w3 := hJ
    clear hG o1 o2 hJ
    simp only [mixFrame, mixL, dstsOf, List.take_succ_cons, List.take_zero, List.filterMap_cons, List.filterMap_nil, List.contains_cons, List.contains_nil, Nat.reduceBEq, Bool.or_false, Bool.false_or, Bool.or_true, Bool.true_or, if_true, if_false, Bool.false_eq_true, Nat.reduceAdd, Nat.zero_add, List.drop_succ_cons, List.drop_zero, h4, h5, h6]
    clear h4 h5 h6
    have I1 := Lib.hid (fun W (hb : Below w3.heap.size w3 W) => i1.below hb)
    have I2 := Lib.hid (fun W (hb : Below w3.heap.size w3 W) => i2.below hb)
    have hB3 : Below w.heap.size w w3 := below_via hJ3 hBz hBz.size
    have hz3 := hB3.size
    have hB3' := Lib.hid hB3
    obtain ⟨c_y0, c_y1, c_y2⟩ := hs
    clear hJ3 i1 i2
    go_wp2_with fail
    refine (T5.out xa ya xc yc _ (I1.out _ (Below.refl _ _)) (I2.out _ (Below.refl _ _))).mono ?_
    rintro e w6 ⟨rfl, hb6⟩
    have hz_w6 := hb6.size
    try simp only [World.size_alloc, World.size_setCell] at hz_w6
    have c_y0 : w6.cell? ⟨b6, 0, none⟩ = some (.int .i64 3) := (hb6.cell (p := ⟨b6, 0, none⟩) (by (first | (with_reducible assumption) | omega | (simp only [World.size_alloc, World.size_setCell, World.size_drew, World.heap_drewN] <;> omega) | (simp <;> omega)))).trans (by (first | (with_reducible assumption) | ((try simp (disch := first | omega | (simp only [World.size_alloc, World.size_setCell, World.size_drew, World.heap_drewN] <;> omega) | fail) only [World.cell?_alloc_past, World.cell?_alloc_at, World.frozen?_alloc_past, World.frozen?_alloc_at, World.frozen?_setCell, World.cell?_drew, World.frozen?_drew]) <;> first | (with_reducible assumption) | rfl)))
    have c_y1 : w6.cell? ⟨b6, 1, none⟩ = some (.slice xa tm.length xc) := (hb6.cell (p := ⟨b6, 1, none⟩) (by (first | (with_reducible assumption) | omega | (simp only [World.size_alloc, World.size_setCell, World.size_drew, World.heap_drewN] <;> omega) | (simp <;> omega)))).trans (by (first | (with_reducible assumption) | ((try simp (disch := first | omega | (simp only [World.size_alloc, World.size_setCell, World.size_drew, World.heap_drewN] <;> omega) | fail) only [World.cell?_alloc_past, World.cell?_alloc_at, World.frozen?_alloc_past, World.frozen?_alloc_at, World.frozen?_setCell, World.cell?_drew, World.frozen?_drew]) <;> first | (with_reducible assumption) | rfl)))
    have c_y2 : w6.cell? ⟨b6, 2, none⟩ = some (.slice ya tc.length yc) := (hb6.cell (p := ⟨b6, 2, none⟩) (by (first | (with_reducible assumption) | omega | (simp only [World.size_alloc, World.size_setCell, World.size_drew, World.heap_drewN] <;> omega) | (simp <;> omega)))).trans (by (first | (with_reducible assumption) | ((try simp (disch := first | omega | (simp only [World.size_alloc, World.size_setCell, World.size_drew, World.heap_drewN] <;> omega) | fail) only [World.cell?_alloc_past, World.cell?_alloc_at, World.frozen?_alloc_past, World.frozen?_alloc_at, World.frozen?_setCell, World.cell?_drew, World.frozen?_drew]) <;> first | (with_reducible assumption) | rfl)))
    have z_y : b6 < w6.heap.size := by omega
    go_wp2_with fail
    refine (T2.out xa ya xc yc _ (I1.out _ hb6) (I2.out _ hb6)).mono ?_
    rintro e w7 ⟨rfl, hb7⟩
    have hz_w7 := hb7.size
    try simp only [World.size_alloc, World.size_setCell] at hz_w7
    replace c_y0 : w7.cell? ⟨b6, 0, none⟩ = some (.int .i64 3) := (hb7.cell (p := ⟨b6, 0, none⟩) (by (first | (with_reducible assumption) | omega | (simp only [World.size_alloc, World.size_setCell, World.size_drew, World.heap_drewN] <;> omega) | (simp <;> omega)))).trans (by (first | (with_reducible assumption) | ((try simp (disch := first | omega | (simp only [World.size_alloc, World.size_setCell, World.size_drew, World.heap_drewN] <;> omega) | fail) only [World.cell?_alloc_past, World.cell?_alloc_at, World.frozen?_alloc_past, World.frozen?_alloc_at, World.frozen?_setCell, World.cell?_drew, World.frozen?_drew]) <;> first | (with_reducible assumption) | rfl)))
    replace c_y1 : w7.cell? ⟨b6, 1, none⟩ = some (.slice xa tm.length xc) := (hb7.cell (p := ⟨b6, 1, none⟩) (by (first | (with_reducible assumption) | omega | (simp only [World.size_alloc, World.size_setCell, World.size_drew, World.heap_drewN] <;> omega) | (simp <;> omega)))).trans (by (first | (with_reducible assumption) | ((try simp (disch := first | omega | (simp only [World.size_alloc, World.size_setCell, World.size_drew, World.heap_drewN] <;> omega) | fail) only [World.cell?_alloc_past, World.cell?_alloc_at, World.frozen?_alloc_past, World.frozen?_alloc_at, World.frozen?_setCell, World.cell?_drew, World.frozen?_drew]) <;> first | (with_reducible assumption) | rfl)))
    replace c_y2 : w7.cell? ⟨b6, 2, none⟩ = some (.slice ya tc.length yc) := (hb7.cell (p := ⟨b6, 2, none⟩) (by (first | (with_reducible assumption) | omega | (simp only [World.size_alloc, World.size_setCell, World.size_drew, World.heap_drewN] <;> omega) | (simp <;> omega)))).trans (by (first | (with_reducible assumption) | ((try simp (disch := first | omega | (simp only [World.size_alloc, World.size_setCell, World.size_drew, World.heap_drewN] <;> omega) | fail) only [World.cell?_alloc_past, World.cell?_alloc_at, World.frozen?_alloc_past, World.frozen?_alloc_at, World.frozen?_setCell, World.cell?_drew, World.frozen?_drew]) <;> first | (with_reducible assumption) | rfl)))
    replace z_y : b6 < w7.heap.size := by omega
    have h7 : Below w3.heap.size w3 w7 := below_via hb7 hb6 (by omega)
    go_wp2_with fail
    refine (T1.out xa ya xc yc _ (I1.out _ h7) (I2.out _ h7)).mono ?_
    rintro e w8 ⟨rfl, hb8⟩
    have hz_w8 := hb8.size
    try simp only [World.size_alloc, World.size_setCell] at hz_w8
    replace c_y0 : w8.cell? ⟨b6, 0, none⟩ = some (.int .i64 3) := (hb8.cell (p := ⟨b6, 0, none⟩) (by (first | (with_reducible assumption) | omega | (simp only [World.size_alloc, World.size_setCell, World.size_drew, World.heap_drewN] <;> omega) | (simp <;> omega)))).trans (by (first | (with_reducible assumption) | ((try simp (disch := first | omega | (simp only [World.size_alloc, World.size_setCell, World.size_drew, World.heap_drewN] <;> omega) | fail) only [World.cell?_alloc_past, World.cell?_alloc_at, World.frozen?_alloc_past, World.frozen?_alloc_at, World.frozen?_setCell, World.cell?_drew, World.frozen?_drew]) <;> first | (with_reducible assumption) | rfl)))
    replace c_y1 : w8.cell? ⟨b6, 1, none⟩ = some (.slice xa tm.length xc) := (hb8.cell (p := ⟨b6, 1, none⟩) (by (first | (with_reducible assumption) | omega | (simp only [World.size_alloc, World.size_setCell, World.size_drew, World.heap_drewN] <;> omega) | (simp <;> omega)))).trans (by (first | (with_reducible assumption) | ((try simp (disch := first | omega | (simp only [World.size_alloc, World.size_setCell, World.size_drew, World.heap_drewN] <;> omega) | fail) only [World.cell?_alloc_past, World.cell?_alloc_at, World.frozen?_alloc_past, World.frozen?_alloc_at, World.frozen?_setCell, World.cell?_drew, World.frozen?_drew]) <;> first | (with_reducible assumption) | rfl)))
    replace c_y2 : w8.cell? ⟨b6, 2, none⟩ = some (.slice ya tc.length yc) := (hb8.cell (p := ⟨b6, 2, none⟩) (by (first | (with_reducible assumption) | omega | (simp only [World.size_alloc, World.size_setCell, World.size_drew, World.heap_drewN] <;> omega) | (simp <;> omega)))).trans (by (first | (with_reducible assumption) | ((try simp (disch := first | omega | (simp only [World.size_alloc, World.size_setCell, World.size_drew, World.heap_drewN] <;> omega) | fail) only [World.cell?_alloc_past, World.cell?_alloc_at, World.frozen?_alloc_past, World.frozen?_alloc_at, World.frozen?_setCell, World.cell?_drew, World.frozen?_drew]) <;> first | (with_reducible assumption) | rfl)))
    replace z_y : b6 < w8.heap.size := by omega
    have h8 : Below w3.heap.size w3 w8 := below_via hb8 h7 (by omega)
    go_wp2
    go_ret
    exact ⟨rfl, below_via h8 hB3'.out (by omega)⟩
end Go.Proofs.Ytbmibaafkgleeaa

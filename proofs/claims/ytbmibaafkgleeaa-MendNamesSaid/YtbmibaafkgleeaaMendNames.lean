/-
  MendNames: the errors' numbers, and more examples.
  No condition.
-/
import Derived.Test.YtbmibaafkgleeaaAlive20
namespace Go.Proofs.Ytbmibaafkgleeaa
open Go.RowKit Go.Shelf
attribute [local go_sem] Oper.semAt_some
set_option linter.unusedVariables false
set_option linter.unusedSimpArgs false

def wdC : SlC := zeroSl 4 32 1 8
def noC : SlC := ⟨0, [], [], [], [], 0⟩
theorem noC_in {W : World} : SlIn W noC ⟨none, none, none, none, 0, 0, 0, 0⟩ := ⟨fun i hi => by simp [noC] at hi, fun i hi => by simp [noC] at hi, fun i hi => by simp [noC] at hi, fun i hi => by simp [noC] at hi, fun x hx => by simp [noC] at hx⟩
theorem nil_in {W : World} : IsRow .i64 W none [] := fun i hi => by simp at hi
theorem wdC_u : U64s wdC.ws := okC_u (by decide +kernel)
theorem wdC_bld : bldE wdC = 0 ∧ bldL wdC = 4 := by decide +kernel
theorem tu_wd : tuV chC wdC = (0, 0, 2) := by rw [chC_eq]; decide +kernel
theorem tu_no : tuV chC noC = (0, 0, 8) := by rw [chC_eq]; decide +kernel
theorem tu_cc : tuV chC chC = (0, 0, 0) := by rw [chC_eq]; decide +kernel
theorem noC_bld : bldE noC = 8 := by decide +kernel
theorem wd_a : wndE 3 (bldM chC) (bldC chC) wdC 0 1 = 2 := by rw [chC_eq]; decide +kernel
theorem wd_b : wndE 3 (bldM chC) (bldC chC) chC 2 1 = 2 := by rw [chC_eq]; decide +kernel
theorem wd_c : wndE 3 (bldM chC) (bldC chC) chC 0 5 = 2 := by rw [chC_eq]; decide +kernel
theorem wd_n : wndE 0 [] [] chC 0 0 = 8 := by rw [chC_eq]; decide +kernel

set_option maxRecDepth 100000 in
set_option maxHeartbeats 8000000 in
theorem MN_in (c d t : SlC) (bm bc tm tc fm fc m1 kk1 m2 kk2 m3 kk3 m4 kk4 m5 kk5 : List Int) (l1 l2 l3 l4 l5 : Int) (w : World) (HU : Hid (U64s c.ws)) (HUD : Hid (U64s d.ws)) (HUT : Hid (U64s t.ws))
    (AL : Hid (∀ W, Calls Try.prog 22 #[] W (AnsB W (.bool true))))
    (CH : Hid (∀ W, Calls Try.prog 29 #[] W (FreshSl W c)))
    (CT : Hid (∀ W, Calls Try.prog 30 #[] W (FreshSl W t)))
    (NW : Hid (∀ W, Calls Try.prog 28 #[.int .i64 4, .int .i64 32] W (FreshSl2 W d (.int .i64 0))))
    (BI : Hid (∀ a W, SlIn W c a → Calls Try.prog 23 #[slV c a] W (FreshIx2 W 3 bm bc (.int .i64 0))))
    (TUa : Hid (∀ a b W, SlIn W c a → SlIn W d b → c.ks.length ≤ a.kc → c.vs.length ≤ a.vc → d.ks.length ≤ b.kc → d.vs.length ≤ b.vc → Calls Try.prog 13 #[slV c a, slV d b] W (AnsB W (.tuple #[.int .i64 0, .int .i64 0, .int .i64 2]))))
    (TUn : Hid (∀ a W, SlIn W c a → c.ks.length ≤ a.kc → c.vs.length ≤ a.vc → Calls Try.prog 13 #[slV c a, .agg #[.int .i64 0, .slice none 0 0, .slice none 0 0, .slice none 0 0, .slice none 0 0, .int .u64 0]] W (AnsB W (.tuple #[.int .i64 0, .int .i64 0, .int .i64 8]))))
    (TUs : Hid (∀ a b W, SlIn W c a → SlIn W c b → c.ks.length ≤ a.kc → c.vs.length ≤ a.vc → c.ks.length ≤ b.kc → c.vs.length ≤ b.vc → Calls Try.prog 13 #[slV c a, slV c b] W (AnsB W (.tuple #[.int .i64 0, .int .i64 0, .int .i64 0]))))
    (WDa : Hid (∀ xa xb xc xd a W, IsRow .i64 W xa bm → IsRow .i64 W xb bc → SlIn W d a → Calls Try.prog 15 #[ixV 3 xa bm.length xc xb bc.length xd, slV d a, .int .i64 0, .int .i64 1] W (FreshIx2 W l1 m1 kk1 (.int .i64 2))))
    (WDb : Hid (∀ xa xb xc xd a W, IsRow .i64 W xa bm → IsRow .i64 W xb bc → SlIn W c a → Calls Try.prog 15 #[ixV 3 xa bm.length xc xb bc.length xd, slV c a, .int .i64 2, .int .i64 1] W (FreshIx2 W l2 m2 kk2 (.int .i64 2))))
    (WDc : Hid (∀ xa xb xc xd a W, IsRow .i64 W xa bm → IsRow .i64 W xb bc → SlIn W c a → Calls Try.prog 15 #[ixV 3 xa bm.length xc xb bc.length xd, slV c a, .int .i64 0, .int .i64 5] W (FreshIx2 W l3 m3 kk3 (.int .i64 2))))
    (WDn : Hid (∀ a W, SlIn W c a → Calls Try.prog 15 #[.agg #[.int .i64 0, .slice none 0 0, .slice none 0 0], slV c a, .int .i64 0, .int .i64 0] W (FreshIx2 W l4 m4 kk4 (.int .i64 8))))
    (FTa : Hid (∀ xa xb xc xd a b W, IsRow .i64 W xa bm → IsRow .i64 W xb bc → SlIn W c a → SlIn W d b → c.ks.length ≤ a.kc → c.vs.length ≤ a.vc → d.ks.length ≤ b.kc → d.vs.length ≤ b.vc → Calls Try.prog 20 #[ixV 3 xa bm.length xc xb bc.length xd, slV c a, slV d b] W (FreshIx2 W 4 fm fc (.int .i64 0))))
    (FTb : Hid (∀ a b W, SlIn W c a → SlIn W t b → c.ks.length ≤ a.kc → c.vs.length ≤ a.vc → t.ks.length ≤ b.kc → t.vs.length ≤ b.vc → Calls Try.prog 20 #[.agg #[.int .i64 0, .slice none 0 0, .slice none 0 0], slV c a, slV t b] W (FreshIx2 W 3 tm tc (.int .i64 0))))
    (FTn : Hid (∀ xa xb xc xd a W, IsRow .i64 W xa bm → IsRow .i64 W xb bc → SlIn W c a → c.ks.length ≤ a.kc → c.vs.length ≤ a.vc → Calls Try.prog 20 #[ixV 3 xa bm.length xc xb bc.length xd, slV c a, .agg #[.int .i64 0, .slice none 0 0, .slice none 0 0, .slice none 0 0, .slice none 0 0, .int .u64 0]] W (FreshIx2 W l5 m5 kk5 (.int .i64 8))))
    (TL : Hid (∀ xa xb xc xd W, IsRow .i64 W xa tm → IsRow .i64 W xb tc → Calls Try.prog 31 #[ixV 3 xa tm.length xc xb tc.length xd, .int .i64 1, .int .i64 12, .int .i64 6] W (AnsB W (.bool true)))) :
    Calls Try.prog 7 #[] w (AnsB w (.bool true)) := by
  go_enter Try.func7, Try.ntmps7
  go_wp2_with fail
  refine (NW.out _).mono ?_
  rintro e w1 ⟨v1, v2, v3, v4, rfl, o1, o2, o3, o4, hb1⟩
  have hz_w1 := hb1.size
  try simp only [World.size_alloc, World.size_setCell] at hz_w1
  obtain ⟨d1, dc1, rfl, i1, -, -, -, -⟩ := row_of_owns o1
  obtain ⟨d2, dc2, rfl, i2, -, -, nd2, -⟩ := row_of_owns o2
  obtain ⟨d3, dc3, rfl, i3, -, -, nd3, -⟩ := row_of_owns o3
  obtain ⟨d4, dc4, rfl, i4, -, -, -, -⟩ := row_of_owns o4
  have hin : SlIn w1 d ⟨d1, d2, d3, d4, dc1, dc2, dc3, dc4⟩ := ⟨i1, i2, i3, i4, HUD.out⟩
  have HD1 := Lib.hid (fun W (hb : Below w1.heap.size w1 W) => hin.below hb)
  have hd1 : Below w1.heap.size w1 (w1.alloc (.cells #[.int .i64 d.seg, .slice d1 d.ws.length dc1, .slice d2 d.ks.length dc2, .slice d3 d.vs.length dc3, .slice d4 d.cs.length dc4, .int .u64 d.laid] 29)) := (Below.refl _ _).alloc (Nat.le_refl _) _
  clear o1 o2 o3 o4 i1 i2 i3 i4 hin
  go_wp2_with fail
  refine (CH.out _).mono ?_
  rintro e w2 ⟨v1, v2, v3, v4, rfl, o1, o2, o3, o4, hb2⟩
  have hz_w2 := hb2.size
  try simp only [World.size_alloc, World.size_setCell] at hz_w2
  have all_c : w2.cell? ⟨w1.heap.size, 0, none⟩ = some (.int .i64 d.seg) ∧ w2.cell? ⟨w1.heap.size, 1, none⟩ = some (.slice d1 d.ws.length dc1) ∧ w2.cell? ⟨w1.heap.size, 2, none⟩ = some (.slice d2 d.ks.length dc2) ∧ w2.cell? ⟨w1.heap.size, 3, none⟩ = some (.slice d3 d.vs.length dc3) ∧ w2.cell? ⟨w1.heap.size, 4, none⟩ = some (.slice d4 d.cs.length dc4) ∧ w2.cell? ⟨w1.heap.size, 5, none⟩ = some (.int .u64 d.laid) := by refine ⟨?_, ?_, ?_, ?_, ?_, ?_⟩ <;> (refine (hb2.cell ?_).trans ?_ <;> first | (first | (with_reducible assumption) | omega | (simp only [World.size_alloc, World.size_setCell, World.size_drew, World.heap_drewN] <;> omega) | (simp <;> omega)) | (first | (with_reducible assumption) | ((try simp (disch := first | omega | (simp only [World.size_alloc, World.size_setCell, World.size_drew, World.heap_drewN] <;> omega) | fail) only [World.cell?_alloc_past, World.cell?_alloc_at, World.frozen?_alloc_past, World.frozen?_alloc_at, World.frozen?_setCell, World.cell?_drew, World.frozen?_drew]) <;> first | (with_reducible assumption) | rfl)))
  have all_z : w1.heap.size < w2.heap.size := by omega
  obtain ⟨c_d0, c_d1, c_d2, c_d3, c_d4, c_d5⟩ := all_c
  try clear all_c
  have z_d := all_z
  try clear all_z
  have h2 : Below w1.heap.size w1 w2 := below_via hb2 hd1 (by simp)
  obtain ⟨a1, c1, rfl, i1, -, -, -, -⟩ := row_of_owns o1
  obtain ⟨a2, c2, rfl, i2, -, -, na2, -⟩ := row_of_owns o2
  obtain ⟨a3, c3, rfl, i3, -, -, na3, -⟩ := row_of_owns o3
  obtain ⟨a4, c4, rfl, i4, -, -, -, -⟩ := row_of_owns o4
  have BI1 := Lib.hid (BI.out ⟨a1, a2, a3, a4, c1, c2, c3, c4⟩ w2 ⟨i1, i2, i3, i4, HU.out⟩)
  dsimp only [slV] at BI1
  clear o1 o2 o3 o4 i1 i2 i3 i4 na2 na3 hb2 hd1 BI
  go_wp2_with fail
  refine (BI1.out).mono ?_
  rintro e w3 ⟨v, u, rfl, o1, o2, hb3⟩
  have hz_w3 := hb3.size
  try simp only [World.size_alloc, World.size_setCell] at hz_w3
  have all_c : w3.cell? ⟨w1.heap.size, 0, none⟩ = some (.int .i64 d.seg) ∧ w3.cell? ⟨w1.heap.size, 1, none⟩ = some (.slice d1 d.ws.length dc1) ∧ w3.cell? ⟨w1.heap.size, 2, none⟩ = some (.slice d2 d.ks.length dc2) ∧ w3.cell? ⟨w1.heap.size, 3, none⟩ = some (.slice d3 d.vs.length dc3) ∧ w3.cell? ⟨w1.heap.size, 4, none⟩ = some (.slice d4 d.cs.length dc4) ∧ w3.cell? ⟨w1.heap.size, 5, none⟩ = some (.int .u64 d.laid) := by refine ⟨?_, ?_, ?_, ?_, ?_, ?_⟩ <;> (refine (hb3.cell ?_).trans ?_ <;> first | (first | (with_reducible assumption) | omega | (simp only [World.size_alloc, World.size_setCell, World.size_drew, World.heap_drewN] <;> omega) | (simp <;> omega)) | (first | (with_reducible assumption) | ((try simp (disch := first | omega | (simp only [World.size_alloc, World.size_setCell, World.size_drew, World.heap_drewN] <;> omega) | fail) only [World.cell?_alloc_past, World.cell?_alloc_at, World.frozen?_alloc_past, World.frozen?_alloc_at, World.frozen?_setCell, World.cell?_drew, World.frozen?_drew]) <;> first | (with_reducible assumption) | rfl)))
  have all_z : w1.heap.size < w3.heap.size := by omega
  clear c_d0 c_d1 c_d2 c_d3 c_d4 c_d5 z_d
  obtain ⟨c_d0, c_d1, c_d2, c_d3, c_d4, c_d5⟩ := all_c
  try clear all_c
  have z_d := all_z
  try clear all_z
  have h3 : Below w1.heap.size w1 w3 := below_via hb3 h2 (by omega)
  have hB3 : Below w.heap.size w w3 := below_via h3 hb1 (by omega)
  obtain ⟨ma, mc, rfl, i1, -, -, -, -⟩ := row_of_owns o1
  obtain ⟨ca, cc, rfl, i2, -, -, -, -⟩ := row_of_owns o2
  have hx3 : Below w3.heap.size w3 (w3.alloc (.cells #[.int .i64 3, .slice ma bm.length mc, .slice ca bc.length cc] 25)) := (Below.refl _ _).alloc (Nat.le_refl _) _
  have hx1 := below_via hx3 h3 (by omega)
  have hBz := below_via hx3 hB3 (by omega)
  have hsz : (w3.alloc (.cells #[.int .i64 3, .slice ma bm.length mc, .slice ca bc.length cc] 25)).heap.size = w3.heap.size + 1 := by simp
  have c_x0 : (w3.alloc (.cells #[.int .i64 3, .slice ma bm.length mc, .slice ca bc.length cc] 25)).cell? ⟨w3.heap.size, 0, none⟩ = some (.int .i64 3) := by (first | (with_reducible assumption) | ((try simp (disch := first | omega | (simp only [World.size_alloc, World.size_setCell, World.size_drew, World.heap_drewN] <;> omega) | fail) only [World.cell?_alloc_past, World.cell?_alloc_at, World.frozen?_alloc_past, World.frozen?_alloc_at, World.frozen?_setCell, World.cell?_drew, World.frozen?_drew]) <;> first | (with_reducible assumption) | rfl))
  have c_x1 : (w3.alloc (.cells #[.int .i64 3, .slice ma bm.length mc, .slice ca bc.length cc] 25)).cell? ⟨w3.heap.size, 1, none⟩ = some (.slice ma bm.length mc) := by (first | (with_reducible assumption) | ((try simp (disch := first | omega | (simp only [World.size_alloc, World.size_setCell, World.size_drew, World.heap_drewN] <;> omega) | fail) only [World.cell?_alloc_past, World.cell?_alloc_at, World.frozen?_alloc_past, World.frozen?_alloc_at, World.frozen?_setCell, World.cell?_drew, World.frozen?_drew]) <;> first | (with_reducible assumption) | rfl))
  have c_x2 : (w3.alloc (.cells #[.int .i64 3, .slice ma bm.length mc, .slice ca bc.length cc] 25)).cell? ⟨w3.heap.size, 2, none⟩ = some (.slice ca bc.length cc) := by (first | (with_reducible assumption) | ((try simp (disch := first | omega | (simp only [World.size_alloc, World.size_setCell, World.size_drew, World.heap_drewN] <;> omega) | fail) only [World.cell?_alloc_past, World.cell?_alloc_at, World.frozen?_alloc_past, World.frozen?_alloc_at, World.frozen?_setCell, World.cell?_drew, World.frozen?_drew]) <;> first | (with_reducible assumption) | rfl))
  have j1 := i1.below hx3
  have j2 := i2.below hx3
  go_upto_region 3 with (fail)
  generalize (w3.alloc (.cells #[.int .i64 3, .slice ma bm.length mc, .slice ca bc.length cc] 25)) = wz at *
  have hz_wz := hx3.size
  try simp only [World.size_alloc, World.size_setCell] at hz_wz
  have all_c : wz.cell? ⟨w1.heap.size, 0, none⟩ = some (.int .i64 d.seg) ∧ wz.cell? ⟨w1.heap.size, 1, none⟩ = some (.slice d1 d.ws.length dc1) ∧ wz.cell? ⟨w1.heap.size, 2, none⟩ = some (.slice d2 d.ks.length dc2) ∧ wz.cell? ⟨w1.heap.size, 3, none⟩ = some (.slice d3 d.vs.length dc3) ∧ wz.cell? ⟨w1.heap.size, 4, none⟩ = some (.slice d4 d.cs.length dc4) ∧ wz.cell? ⟨w1.heap.size, 5, none⟩ = some (.int .u64 d.laid) := by refine ⟨?_, ?_, ?_, ?_, ?_, ?_⟩ <;> (refine (hx3.cell ?_).trans ?_ <;> first | (first | (with_reducible assumption) | omega | (simp only [World.size_alloc, World.size_setCell, World.size_drew, World.heap_drewN] <;> omega) | (simp <;> omega)) | (first | (with_reducible assumption) | ((try simp (disch := first | omega | (simp only [World.size_alloc, World.size_setCell, World.size_drew, World.heap_drewN] <;> omega) | fail) only [World.cell?_alloc_past, World.cell?_alloc_at, World.frozen?_alloc_past, World.frozen?_alloc_at, World.frozen?_setCell, World.cell?_drew, World.frozen?_drew]) <;> first | (with_reducible assumption) | rfl)))
  have all_z : w1.heap.size < wz.heap.size := by omega
  clear c_d0 c_d1 c_d2 c_d3 c_d4 c_d5 z_d
  obtain ⟨c_d0, c_d1, c_d2, c_d3, c_d4, c_d5⟩ := all_c
  try clear all_c
  have z_d := all_z
  try clear all_z
  have I1 := Lib.hid (fun W (hb : Below wz.heap.size wz W) => j1.below hb)
  have I2 := Lib.hid (fun W (hb : Below wz.heap.size wz W) => j2.below hb)
  have HD := Lib.hid (fun W (hb : Below wz.heap.size wz W) => HD1.out W (below_via hb hx1 hx1.size))
  have HBz := Lib.hid hBz
  have z_x : w3.heap.size < wz.heap.size := by omega
  have z_d : w1.heap.size < wz.heap.size := by omega
  generalize w3.heap.size = bx at *
  generalize w1.heap.size = bd at *
  clear o1 o2 i1 i2 j1 j2 hx1 hx3 hBz hsz HD1 h2 h3 hb3 hb1 hB3 BI1
  refine wp_region_late 10 (by kernel_rfl) (N := 171) rfl (by kernel_rfl) (by kernel_rfl) (by decide) (fun w' => Below wz.heap.size wz w') RB (factRAt [.sl wz.heap.size c, .is (.agg #[.int .i64 d.seg, .slice d1 d.ws.length dc1, .slice d2 d.ks.length dc2, .slice d3 d.vs.length dc3, .slice d4 d.cs.length dc4, .int .u64 d.laid]), .is (.tuple #[.int .i64 0, .int .i64 0, .int .i64 2]), .is (.tuple #[.int .i64 0, .int .i64 0, .int .i64 2]), .is (.int .i64 0), .is (.int .i64 0), .is (.int .i64 2), .is (.int .i64 0), .is (.int .i64 0), .is (.int .i64 2)]) (factRAt_stays _) (Below.refl _ _).drew ?steps3 ?fin3
  case steps3 =>
    refine ⟨?o0, ?o1, ?o2, ?o3, ?o4, ?o5, ?o6, ?o7, ?o8, ?o9, trivial⟩
    case o0 =>
      intro u a w' ev hJ hd K hK
      have HK := Lib.hid hK
      have HC := Lib.hid (CH.out w')
      have hzJ := hJ.size
      clear hK ev hd
      go_simp
      refine HC.out.mono ?_
      rintro e w'' ⟨v1, v2, v3, v4, rfl, o1, o2, o3, o4, hb⟩
      exact HK.out _ _ (fun h => by cases h) (hJ.trans (hb.mono hzJ)) ⟨_, _, _, _, rfl, owns_base o1 hzJ, owns_base o2 hzJ, owns_base o3 hzJ, owns_base o4 hzJ⟩ hb
    case o1 =>
      intro u a w' ev hJ hd K hK
      have e1 : a.tmps.getD 1 undef = .pointer (some ⟨bd, 0, none⟩) := ev 1 (by decide)
      have g0 := (hJ.cell (p := ⟨bd, 0, none⟩) (by dsimp only; omega)).trans c_d0
      have g1 := (hJ.cell (p := ⟨bd, 1, none⟩) (by dsimp only; omega)).trans c_d1
      have g2 := (hJ.cell (p := ⟨bd, 2, none⟩) (by dsimp only; omega)).trans c_d2
      have g3 := (hJ.cell (p := ⟨bd, 3, none⟩) (by dsimp only; omega)).trans c_d3
      have g4 := (hJ.cell (p := ⟨bd, 4, none⟩) (by dsimp only; omega)).trans c_d4
      have g5 := (hJ.cell (p := ⟨bd, 5, none⟩) (by dsimp only; omega)).trans c_d5
      have HK := Lib.hid hK
      clear hK ev hd
      go_simp
      exact HK.out _ _ (fun h => by cases h) hJ rfl (Below.refl _ _)
    case o2 =>
      intro u a w' ev hJ hd K hK
      obtain ⟨v1, v2, v3, v4, h2, o1, o2, o3, o4⟩ : (FactR.sl wz.heap.size c).holds (u 38) w' := hd 0 _ (by kernel_rfl) rfl
      obtain ⟨q1, k1, rfl, i1, -, -, -, -⟩ := row_of_owns o1
      obtain ⟨q2, k2, rfl, i2, -, -, n2, -⟩ := row_of_owns o2
      obtain ⟨q3, k3, rfl, i3, -, -, n3, -⟩ := row_of_owns o3
      obtain ⟨q4, k4, rfl, i4, -, -, -, -⟩ := row_of_owns o4
      have e38 : a.tmps.getD 38 undef = _ := (ev 38 (by decide)).trans h2
      have e39 : a.tmps.getD 39 undef = .agg #[.int .i64 d.seg, .slice d1 d.ws.length dc1, .slice d2 d.ks.length dc2, .slice d3 d.vs.length dc3, .slice d4 d.cs.length dc4, .int .u64 d.laid] := (ev 39 (by decide)).trans (hd 1 _ (by kernel_rfl) rfl)
      have HK := Lib.hid hK
      have HC := Lib.hid (TUa.out ⟨q1, q2, q3, q4, k1, k2, k3, k4⟩ ⟨d1, d2, d3, d4, dc1, dc2, dc3, dc4⟩ w' ⟨i1, i2, i3, i4, HU.out⟩ (HD.out _ hJ) n2 n3 nd2 nd3)
      have hzJ := hJ.size
      clear hK ev hd h2 o1 o2 o3 o4 i1 i2 i3 i4 n2 n3
      dsimp only [slV] at HC
      go_simp
      refine HC.out.mono ?_
      rintro e w'' ⟨rfl, hb⟩
      exact HK.out _ _ (fun h => by cases h) (hJ.trans (hb.mono hzJ)) rfl hb
    case o3 =>
      intro u a w' ev hJ hd K hK
      have e40 : a.tmps.getD 40 undef = .tuple #[.int .i64 0, .int .i64 0, .int .i64 2] := (ev 40 (by decide)).trans (hd 2 _ (by kernel_rfl) rfl)
      have HK := Lib.hid hK
      clear hK ev hd
      go_simp
      exact HK.out _ _ (fun h => by cases h) hJ rfl (Below.refl _ _)
    case o4 =>
      intro u a w' ev hJ hd K hK
      have e37 : a.tmps.getD 37 undef = .tuple #[.int .i64 0, .int .i64 0, .int .i64 2] := (ev 37 (by decide)).trans (hd 3 _ (by kernel_rfl) rfl)
      have HK := Lib.hid hK
      clear hK ev hd
      go_simp
      exact HK.out _ _ (fun h => by cases h) hJ rfl (Below.refl _ _)
    case o5 =>
      intro u a w' ev hJ hd K hK
      have e37 : a.tmps.getD 37 undef = .tuple #[.int .i64 0, .int .i64 0, .int .i64 2] := (ev 37 (by decide)).trans (hd 3 _ (by kernel_rfl) rfl)
      have HK := Lib.hid hK
      clear hK ev hd
      go_simp
      exact HK.out _ _ (fun h => by cases h) hJ rfl (Below.refl _ _)
    case o6 =>
      intro u a w' ev hJ hd K hK
      have e37 : a.tmps.getD 37 undef = .tuple #[.int .i64 0, .int .i64 0, .int .i64 2] := (ev 37 (by decide)).trans (hd 3 _ (by kernel_rfl) rfl)
      have HK := Lib.hid hK
      clear hK ev hd
      go_simp
      exact HK.out _ _ (fun h => by cases h) hJ rfl (Below.refl _ _)
    case o7 =>
      intro u a w' ev hJ hd K hK
      have e41 : a.tmps.getD 41 undef = .int .i64 0 := (ev 41 (by decide)).trans (hd 4 _ (by kernel_rfl) rfl)
      have HK := Lib.hid hK
      clear hK ev hd
      go_simp
      exact HK.out _ _ (fun h => by cases h) hJ rfl (Below.refl _ _)
    case o8 =>
      intro u a w' ev hJ hd K hK
      have e42 : a.tmps.getD 42 undef = .int .i64 0 := (ev 42 (by decide)).trans (hd 5 _ (by kernel_rfl) rfl)
      have HK := Lib.hid hK
      clear hK ev hd
      go_simp
      exact HK.out _ _ (fun h => by cases h) hJ rfl (Below.refl _ _)
    case o9 =>
      intro u a w' ev hJ hd K hK
      have e43 : a.tmps.getD 43 undef = .int .i64 2 := (ev 43 (by decide)).trans (hd 6 _ (by kernel_rfl) rfl)
      have HK := Lib.hid hK
      clear hK ev hd
      go_simp
      exact HK.out _ _ (fun h => by cases h) hJ rfl (Below.refl _ _)
  case fin3 =>
    intro u wa hJ hG
    have h7 : u 5 = .int .i64 0 := hG 7 _ rfl
    have h8 : u 6 = .int .i64 0 := hG 8 _ rfl
    have h9 : u 7 = .int .i64 2 := hG 9 _ rfl
    have hz_wa := hJ.size
    try simp only [World.size_alloc, World.size_setCell] at hz_wa
    have all_c : wa.cell? ⟨bd, 0, none⟩ = some (.int .i64 d.seg) ∧ wa.cell? ⟨bd, 1, none⟩ = some (.slice d1 d.ws.length dc1) ∧ wa.cell? ⟨bd, 2, none⟩ = some (.slice d2 d.ks.length dc2) ∧ wa.cell? ⟨bd, 3, none⟩ = some (.slice d3 d.vs.length dc3) ∧ wa.cell? ⟨bd, 4, none⟩ = some (.slice d4 d.cs.length dc4) ∧ wa.cell? ⟨bd, 5, none⟩ = some (.int .u64 d.laid) ∧ wa.cell? ⟨bx, 0, none⟩ = some (.int .i64 3) ∧ wa.cell? ⟨bx, 1, none⟩ = some (.slice ma bm.length mc) ∧ wa.cell? ⟨bx, 2, none⟩ = some (.slice ca bc.length cc) := by refine ⟨?_, ?_, ?_, ?_, ?_, ?_, ?_, ?_, ?_⟩ <;> (refine (hJ.cell ?_).trans ?_ <;> first | (first | (with_reducible assumption) | omega | (simp only [World.size_alloc, World.size_setCell, World.size_drew, World.heap_drewN] <;> omega) | (simp <;> omega)) | (first | (with_reducible assumption) | ((try simp (disch := first | omega | (simp only [World.size_alloc, World.size_setCell, World.size_drew, World.heap_drewN] <;> omega) | fail) only [World.cell?_alloc_past, World.cell?_alloc_at, World.frozen?_alloc_past, World.frozen?_alloc_at, World.frozen?_setCell, World.cell?_drew, World.frozen?_drew]) <;> first | (with_reducible assumption) | rfl)))
    have all_z : bd < wa.heap.size ∧ bx < wa.heap.size := by refine ⟨?_, ?_⟩ <;> (omega)
    clear c_d0 c_d1 c_d2 c_d3 c_d4 c_d5 z_d
    obtain ⟨c_d0, c_d1, c_d2, c_d3, c_d4, c_d5, c_x0, c_x1, c_x2⟩ := all_c
    try clear all_c
    obtain ⟨z_d, z_x⟩ := all_z
    try clear all_z
    have HJwa : Hid (Below wz.heap.size wz wa) := Lib.hid hJ
    clear hG hJ
    simp only [mixFrame, mixL, dstsOf, List.take_succ_cons, List.take_zero, List.filterMap_cons, List.filterMap_nil, List.contains_cons, List.contains_nil, Nat.reduceBEq, Bool.or_false, Bool.false_or, Bool.or_true, Bool.true_or, if_true, if_false, Bool.false_eq_true, Nat.reduceAdd, Nat.zero_add, List.drop_succ_cons, List.drop_zero, h7, h8, h9]
    clear h7 h8 h9
    have hzwa := HJwa.out.size
    go_wp2_with fail
    refine (CH.out _).mono ?_
    rintro e wb ⟨v1, v2, v3, v4, rfl, o1, o2, o3, o4, hbb⟩
    have hz_wb := hbb.size
    try simp only [World.size_alloc, World.size_setCell] at hz_wb
    have all_c : wb.cell? ⟨bd, 0, none⟩ = some (.int .i64 d.seg) ∧ wb.cell? ⟨bd, 1, none⟩ = some (.slice d1 d.ws.length dc1) ∧ wb.cell? ⟨bd, 2, none⟩ = some (.slice d2 d.ks.length dc2) ∧ wb.cell? ⟨bd, 3, none⟩ = some (.slice d3 d.vs.length dc3) ∧ wb.cell? ⟨bd, 4, none⟩ = some (.slice d4 d.cs.length dc4) ∧ wb.cell? ⟨bd, 5, none⟩ = some (.int .u64 d.laid) ∧ wb.cell? ⟨bx, 0, none⟩ = some (.int .i64 3) ∧ wb.cell? ⟨bx, 1, none⟩ = some (.slice ma bm.length mc) ∧ wb.cell? ⟨bx, 2, none⟩ = some (.slice ca bc.length cc) := by refine ⟨?_, ?_, ?_, ?_, ?_, ?_, ?_, ?_, ?_⟩ <;> (refine (hbb.cell ?_).trans ?_ <;> first | (first | (with_reducible assumption) | omega | (simp only [World.size_alloc, World.size_setCell, World.size_drew, World.heap_drewN] <;> omega) | (simp <;> omega)) | (first | (with_reducible assumption) | ((try simp (disch := first | omega | (simp only [World.size_alloc, World.size_setCell, World.size_drew, World.heap_drewN] <;> omega) | fail) only [World.cell?_alloc_past, World.cell?_alloc_at, World.frozen?_alloc_past, World.frozen?_alloc_at, World.frozen?_setCell, World.cell?_drew, World.frozen?_drew]) <;> first | (with_reducible assumption) | rfl)))
    have all_z : bd < wb.heap.size ∧ bx < wb.heap.size := by refine ⟨?_, ?_⟩ <;> (omega)
    clear c_d0 c_d1 c_d2 c_d3 c_d4 c_d5 c_x0 c_x1 c_x2 z_d z_x
    obtain ⟨c_d0, c_d1, c_d2, c_d3, c_d4, c_d5, c_x0, c_x1, c_x2⟩ := all_c
    try clear all_c
    obtain ⟨z_d, z_x⟩ := all_z
    try clear all_z
    obtain ⟨a1, c1, rfl, i1, -, -, -, -⟩ := row_of_owns o1
    obtain ⟨a2, c2, rfl, i2, -, -, na2, -⟩ := row_of_owns o2
    obtain ⟨a3, c3, rfl, i3, -, -, na3, -⟩ := row_of_owns o3
    obtain ⟨a4, c4, rfl, i4, -, -, -, -⟩ := row_of_owns o4
    have TN1 := Lib.hid (TUn.out ⟨a1, a2, a3, a4, c1, c2, c3, c4⟩ wb ⟨i1, i2, i3, i4, HU.out⟩ na2 na3)
    dsimp only [slV] at TN1
    have hWb : Below wz.heap.size wz wb := below_via hbb HJwa.out hzwa
    have hzwb := hWb.size
    clear o1 o2 o3 o4 i1 i2 i3 i4 na2 na3 hbb
    go_wp2_with fail
    refine (TN1.out).mono ?_
    rintro e wc ⟨rfl, hbc⟩
    have hz_wc := hbc.size
    try simp only [World.size_alloc, World.size_setCell] at hz_wc
    have all_c : wc.cell? ⟨bd, 0, none⟩ = some (.int .i64 d.seg) ∧ wc.cell? ⟨bd, 1, none⟩ = some (.slice d1 d.ws.length dc1) ∧ wc.cell? ⟨bd, 2, none⟩ = some (.slice d2 d.ks.length dc2) ∧ wc.cell? ⟨bd, 3, none⟩ = some (.slice d3 d.vs.length dc3) ∧ wc.cell? ⟨bd, 4, none⟩ = some (.slice d4 d.cs.length dc4) ∧ wc.cell? ⟨bd, 5, none⟩ = some (.int .u64 d.laid) ∧ wc.cell? ⟨bx, 0, none⟩ = some (.int .i64 3) ∧ wc.cell? ⟨bx, 1, none⟩ = some (.slice ma bm.length mc) ∧ wc.cell? ⟨bx, 2, none⟩ = some (.slice ca bc.length cc) := by refine ⟨?_, ?_, ?_, ?_, ?_, ?_, ?_, ?_, ?_⟩ <;> (refine (hbc.cell ?_).trans ?_ <;> first | (first | (with_reducible assumption) | omega | (simp only [World.size_alloc, World.size_setCell, World.size_drew, World.heap_drewN] <;> omega) | (simp <;> omega)) | (first | (with_reducible assumption) | ((try simp (disch := first | omega | (simp only [World.size_alloc, World.size_setCell, World.size_drew, World.heap_drewN] <;> omega) | fail) only [World.cell?_alloc_past, World.cell?_alloc_at, World.frozen?_alloc_past, World.frozen?_alloc_at, World.frozen?_setCell, World.cell?_drew, World.frozen?_drew]) <;> first | (with_reducible assumption) | rfl)))
    have all_z : bd < wc.heap.size ∧ bx < wc.heap.size := by refine ⟨?_, ?_⟩ <;> (omega)
    clear c_d0 c_d1 c_d2 c_d3 c_d4 c_d5 c_x0 c_x1 c_x2 z_d z_x
    obtain ⟨c_d0, c_d1, c_d2, c_d3, c_d4, c_d5, c_x0, c_x1, c_x2⟩ := all_c
    try clear all_c
    obtain ⟨z_d, z_x⟩ := all_z
    try clear all_z
    have hWc : Below wz.heap.size wz wc := below_via hbc hWb hzwb
    have hzwc := hWc.size
    clear hbc TN1 hWb
    go_wp2_with fail
    refine (CH.out _).mono ?_
    rintro e wd ⟨v1, v2, v3, v4, rfl, o1, o2, o3, o4, hbd⟩
    have hz_wd := hbd.size
    try simp only [World.size_alloc, World.size_setCell] at hz_wd
    have all_c : wd.cell? ⟨bd, 0, none⟩ = some (.int .i64 d.seg) ∧ wd.cell? ⟨bd, 1, none⟩ = some (.slice d1 d.ws.length dc1) ∧ wd.cell? ⟨bd, 2, none⟩ = some (.slice d2 d.ks.length dc2) ∧ wd.cell? ⟨bd, 3, none⟩ = some (.slice d3 d.vs.length dc3) ∧ wd.cell? ⟨bd, 4, none⟩ = some (.slice d4 d.cs.length dc4) ∧ wd.cell? ⟨bd, 5, none⟩ = some (.int .u64 d.laid) ∧ wd.cell? ⟨bx, 0, none⟩ = some (.int .i64 3) ∧ wd.cell? ⟨bx, 1, none⟩ = some (.slice ma bm.length mc) ∧ wd.cell? ⟨bx, 2, none⟩ = some (.slice ca bc.length cc) := by refine ⟨?_, ?_, ?_, ?_, ?_, ?_, ?_, ?_, ?_⟩ <;> (refine (hbd.cell ?_).trans ?_ <;> first | (first | (with_reducible assumption) | omega | (simp only [World.size_alloc, World.size_setCell, World.size_drew, World.heap_drewN] <;> omega) | (simp <;> omega)) | (first | (with_reducible assumption) | ((try simp (disch := first | omega | (simp only [World.size_alloc, World.size_setCell, World.size_drew, World.heap_drewN] <;> omega) | fail) only [World.cell?_alloc_past, World.cell?_alloc_at, World.frozen?_alloc_past, World.frozen?_alloc_at, World.frozen?_setCell, World.cell?_drew, World.frozen?_drew]) <;> first | (with_reducible assumption) | rfl)))
    have all_z : bd < wd.heap.size ∧ bx < wd.heap.size := by refine ⟨?_, ?_⟩ <;> (omega)
    clear c_d0 c_d1 c_d2 c_d3 c_d4 c_d5 c_x0 c_x1 c_x2 z_d z_x
    obtain ⟨c_d0, c_d1, c_d2, c_d3, c_d4, c_d5, c_x0, c_x1, c_x2⟩ := all_c
    try clear all_c
    obtain ⟨z_d, z_x⟩ := all_z
    try clear all_z
    obtain ⟨a1, c1, rfl, i1, -, -, -, -⟩ := row_of_owns o1
    obtain ⟨a2, c2, rfl, i2, -, -, na2, -⟩ := row_of_owns o2
    obtain ⟨a3, c3, rfl, i3, -, -, na3, -⟩ := row_of_owns o3
    obtain ⟨a4, c4, rfl, i4, -, -, -, -⟩ := row_of_owns o4
    have hWd : Below wz.heap.size wz wd := below_via hbd hWc hzwc
    have hzwd := hWd.size
    clear hbd hWc
    go_wp2_with fail
    refine (CH.out _).mono ?_
    rintro e we ⟨v1, v2, v3, v4, rfl, p1, p2, p3, p4, hbe⟩
    have hz_we := hbe.size
    try simp only [World.size_alloc, World.size_setCell] at hz_we
    have all_c : we.cell? ⟨bd, 0, none⟩ = some (.int .i64 d.seg) ∧ we.cell? ⟨bd, 1, none⟩ = some (.slice d1 d.ws.length dc1) ∧ we.cell? ⟨bd, 2, none⟩ = some (.slice d2 d.ks.length dc2) ∧ we.cell? ⟨bd, 3, none⟩ = some (.slice d3 d.vs.length dc3) ∧ we.cell? ⟨bd, 4, none⟩ = some (.slice d4 d.cs.length dc4) ∧ we.cell? ⟨bd, 5, none⟩ = some (.int .u64 d.laid) ∧ we.cell? ⟨bx, 0, none⟩ = some (.int .i64 3) ∧ we.cell? ⟨bx, 1, none⟩ = some (.slice ma bm.length mc) ∧ we.cell? ⟨bx, 2, none⟩ = some (.slice ca bc.length cc) := by refine ⟨?_, ?_, ?_, ?_, ?_, ?_, ?_, ?_, ?_⟩ <;> (refine (hbe.cell ?_).trans ?_ <;> first | (first | (with_reducible assumption) | omega | (simp only [World.size_alloc, World.size_setCell, World.size_drew, World.heap_drewN] <;> omega) | (simp <;> omega)) | (first | (with_reducible assumption) | ((try simp (disch := first | omega | (simp only [World.size_alloc, World.size_setCell, World.size_drew, World.heap_drewN] <;> omega) | fail) only [World.cell?_alloc_past, World.cell?_alloc_at, World.frozen?_alloc_past, World.frozen?_alloc_at, World.frozen?_setCell, World.cell?_drew, World.frozen?_drew]) <;> first | (with_reducible assumption) | rfl)))
    have all_z : bd < we.heap.size ∧ bx < we.heap.size := by refine ⟨?_, ?_⟩ <;> (omega)
    clear c_d0 c_d1 c_d2 c_d3 c_d4 c_d5 c_x0 c_x1 c_x2 z_d z_x
    obtain ⟨c_d0, c_d1, c_d2, c_d3, c_d4, c_d5, c_x0, c_x1, c_x2⟩ := all_c
    try clear all_c
    obtain ⟨z_d, z_x⟩ := all_z
    try clear all_z
    obtain ⟨e1, k1, rfl, j1, -, -, -, -⟩ := row_of_owns p1
    obtain ⟨e2, k2, rfl, j2, -, -, ne2, -⟩ := row_of_owns p2
    obtain ⟨e3, k3, rfl, j3, -, -, ne3, -⟩ := row_of_owns p3
    obtain ⟨e4, k4, rfl, j4, -, -, -, -⟩ := row_of_owns p4
    have TS1 := Lib.hid (TUs.out ⟨a1, a2, a3, a4, c1, c2, c3, c4⟩ ⟨e1, e2, e3, e4, k1, k2, k3, k4⟩ we ⟨i1.below hbe, i2.below hbe, i3.below hbe, i4.below hbe, HU.out⟩ ⟨j1, j2, j3, j4, HU.out⟩ na2 na3 ne2 ne3)
    dsimp only [slV] at TS1
    have hWe : Below wz.heap.size wz we := below_via hbe hWd hzwd
    have hzwe := hWe.size
    clear o1 o2 o3 o4 i1 i2 i3 i4 na2 na3 p1 p2 p3 p4 j1 j2 j3 j4 ne2 ne3 hbe hWd
    go_wp2_with fail
    refine (TS1.out).mono ?_
    rintro e wf ⟨rfl, hbf⟩
    have hz_wf := hbf.size
    try simp only [World.size_alloc, World.size_setCell] at hz_wf
    have all_c : wf.cell? ⟨bd, 0, none⟩ = some (.int .i64 d.seg) ∧ wf.cell? ⟨bd, 1, none⟩ = some (.slice d1 d.ws.length dc1) ∧ wf.cell? ⟨bd, 2, none⟩ = some (.slice d2 d.ks.length dc2) ∧ wf.cell? ⟨bd, 3, none⟩ = some (.slice d3 d.vs.length dc3) ∧ wf.cell? ⟨bd, 4, none⟩ = some (.slice d4 d.cs.length dc4) ∧ wf.cell? ⟨bd, 5, none⟩ = some (.int .u64 d.laid) ∧ wf.cell? ⟨bx, 0, none⟩ = some (.int .i64 3) ∧ wf.cell? ⟨bx, 1, none⟩ = some (.slice ma bm.length mc) ∧ wf.cell? ⟨bx, 2, none⟩ = some (.slice ca bc.length cc) := by refine ⟨?_, ?_, ?_, ?_, ?_, ?_, ?_, ?_, ?_⟩ <;> (refine (hbf.cell ?_).trans ?_ <;> first | (first | (with_reducible assumption) | omega | (simp only [World.size_alloc, World.size_setCell, World.size_drew, World.heap_drewN] <;> omega) | (simp <;> omega)) | (first | (with_reducible assumption) | ((try simp (disch := first | omega | (simp only [World.size_alloc, World.size_setCell, World.size_drew, World.heap_drewN] <;> omega) | fail) only [World.cell?_alloc_past, World.cell?_alloc_at, World.frozen?_alloc_past, World.frozen?_alloc_at, World.frozen?_setCell, World.cell?_drew, World.frozen?_drew]) <;> first | (with_reducible assumption) | rfl)))
    have all_z : bd < wf.heap.size ∧ bx < wf.heap.size := by refine ⟨?_, ?_⟩ <;> (omega)
    clear c_d0 c_d1 c_d2 c_d3 c_d4 c_d5 c_x0 c_x1 c_x2 z_d z_x
    obtain ⟨c_d0, c_d1, c_d2, c_d3, c_d4, c_d5, c_x0, c_x1, c_x2⟩ := all_c
    try clear all_c
    obtain ⟨z_d, z_x⟩ := all_z
    try clear all_z
    have hWf : Below wz.heap.size wz wf := below_via hbf hWe hzwe
    have hzwf := hWf.size
    clear hbf hWe TS1
    have WA := Lib.hid (WDa.out ma ca mc cc ⟨d1, d2, d3, d4, dc1, dc2, dc3, dc4⟩ wf (I1.out _ hWf) (I2.out _ hWf) (HD.out _ hWf))
    dsimp only [slV, ixV] at WA
    go_wp2_with fail
    refine (WA.out).mono ?_
    rintro e wg ⟨v, u, rfl, o1, o2, hbg⟩
    have hz_wg := hbg.size
    try simp only [World.size_alloc, World.size_setCell] at hz_wg
    have all_c : wg.cell? ⟨bd, 0, none⟩ = some (.int .i64 d.seg) ∧ wg.cell? ⟨bd, 1, none⟩ = some (.slice d1 d.ws.length dc1) ∧ wg.cell? ⟨bd, 2, none⟩ = some (.slice d2 d.ks.length dc2) ∧ wg.cell? ⟨bd, 3, none⟩ = some (.slice d3 d.vs.length dc3) ∧ wg.cell? ⟨bd, 4, none⟩ = some (.slice d4 d.cs.length dc4) ∧ wg.cell? ⟨bd, 5, none⟩ = some (.int .u64 d.laid) ∧ wg.cell? ⟨bx, 0, none⟩ = some (.int .i64 3) ∧ wg.cell? ⟨bx, 1, none⟩ = some (.slice ma bm.length mc) ∧ wg.cell? ⟨bx, 2, none⟩ = some (.slice ca bc.length cc) := by refine ⟨?_, ?_, ?_, ?_, ?_, ?_, ?_, ?_, ?_⟩ <;> (refine (hbg.cell ?_).trans ?_ <;> first | (first | (with_reducible assumption) | omega | (simp only [World.size_alloc, World.size_setCell, World.size_drew, World.heap_drewN] <;> omega) | (simp <;> omega)) | (first | (with_reducible assumption) | ((try simp (disch := first | omega | (simp only [World.size_alloc, World.size_setCell, World.size_drew, World.heap_drewN] <;> omega) | fail) only [World.cell?_alloc_past, World.cell?_alloc_at, World.frozen?_alloc_past, World.frozen?_alloc_at, World.frozen?_setCell, World.cell?_drew, World.frozen?_drew]) <;> first | (with_reducible assumption) | rfl)))
    have all_z : bd < wg.heap.size ∧ bx < wg.heap.size := by refine ⟨?_, ?_⟩ <;> (omega)
    clear c_d0 c_d1 c_d2 c_d3 c_d4 c_d5 c_x0 c_x1 c_x2 z_d z_x
    obtain ⟨c_d0, c_d1, c_d2, c_d3, c_d4, c_d5, c_x0, c_x1, c_x2⟩ := all_c
    try clear all_c
    obtain ⟨z_d, z_x⟩ := all_z
    try clear all_z
    have hWg : Below wz.heap.size wz wg := below_via hbg hWf hzwf
    obtain ⟨r1, rc1, rfl, -⟩ := owns_news o1
    obtain ⟨r2, rc2, rfl, -⟩ := owns_news o2
    clear o1 o2 hbg hWf WA
    have hal : Below wg.heap.size wg (wg.alloc (.cells #[.int .i64 l1, .slice r1 m1.length rc1, .slice r2 kk1.length rc2] 25)) := (Below.refl _ _).alloc (Nat.le_refl _) _
    have hWh := below_via hal hWg hWg.size
    go_upto_region 7 with (fail)
    generalize wg.alloc (.cells #[.int .i64 l1, .slice r1 m1.length rc1, .slice r2 kk1.length rc2] 25) = wh at *
    have hz_wh := hal.size
    try simp only [World.size_alloc, World.size_setCell] at hz_wh
    have all_c : wh.cell? ⟨bd, 0, none⟩ = some (.int .i64 d.seg) ∧ wh.cell? ⟨bd, 1, none⟩ = some (.slice d1 d.ws.length dc1) ∧ wh.cell? ⟨bd, 2, none⟩ = some (.slice d2 d.ks.length dc2) ∧ wh.cell? ⟨bd, 3, none⟩ = some (.slice d3 d.vs.length dc3) ∧ wh.cell? ⟨bd, 4, none⟩ = some (.slice d4 d.cs.length dc4) ∧ wh.cell? ⟨bd, 5, none⟩ = some (.int .u64 d.laid) ∧ wh.cell? ⟨bx, 0, none⟩ = some (.int .i64 3) ∧ wh.cell? ⟨bx, 1, none⟩ = some (.slice ma bm.length mc) ∧ wh.cell? ⟨bx, 2, none⟩ = some (.slice ca bc.length cc) := by refine ⟨?_, ?_, ?_, ?_, ?_, ?_, ?_, ?_, ?_⟩ <;> (refine (hal.cell ?_).trans ?_ <;> first | (first | (with_reducible assumption) | omega | (simp only [World.size_alloc, World.size_setCell, World.size_drew, World.heap_drewN] <;> omega) | (simp <;> omega)) | (first | (with_reducible assumption) | ((try simp (disch := first | omega | (simp only [World.size_alloc, World.size_setCell, World.size_drew, World.heap_drewN] <;> omega) | fail) only [World.cell?_alloc_past, World.cell?_alloc_at, World.frozen?_alloc_past, World.frozen?_alloc_at, World.frozen?_setCell, World.cell?_drew, World.frozen?_drew]) <;> first | (with_reducible assumption) | rfl)))
    have all_z : bd < wh.heap.size ∧ bx < wh.heap.size := by refine ⟨?_, ?_⟩ <;> (omega)
    clear c_d0 c_d1 c_d2 c_d3 c_d4 c_d5 c_x0 c_x1 c_x2 z_d z_x
    obtain ⟨c_d0, c_d1, c_d2, c_d3, c_d4, c_d5, c_x0, c_x1, c_x2⟩ := all_c
    try clear all_c
    obtain ⟨z_d, z_x⟩ := all_z
    try clear all_z
    have HJwh := Lib.hid hWh
    clear hal hWh hWg
    refine wp_region_eff 8 (by kernel_rfl) (N := 171) rfl (by kernel_rfl) (by kernel_rfl) (by decide) (fun w' => Below wh.heap.size wh w') (effExt 25 7) (effAt 7 [65, 66, 67, 64, 68, 69, 16] [.is (ixV 3 ma bm.length mc ca bc.length cc), .sl wh.heap.size c, .ixt wh.heap.size l2 m2 kk2 2, .ixt wh.heap.size l2 m2 kk2 2, .ix wh.heap.size l2 m2 kk2, .is (.int .i64 2), .box wh.heap.size 25 3] (boxX wh.heap.size 16 68)) (effAt_stays boxX_stays) (effAt_dep (n := 7) [16, 68] boxX_dep (by kernel_rfl) (by kernel_rfl) (Nat.le_refl 7) (by decide)) (Below.refl _ _).drew ?steps7 ?fin7
    case steps7 =>
      refine ⟨?o0, ?o1, ?o2, ?o3, ?o4, ?o5, ?o6, ?o7, trivial⟩
      case o0 =>
        intro u a w' ev hJ hd K hK
        have e3 : a.tmps.getD 3 undef = .pointer (some ⟨bx, 0, none⟩) := ev 3 (by decide)
        have g0 := (hJ.cell (p := ⟨bx, 0, none⟩) (by dsimp only; omega)).trans c_x0
        have g1 := (hJ.cell (p := ⟨bx, 1, none⟩) (by dsimp only; omega)).trans c_x1
        have g2 := (hJ.cell (p := ⟨bx, 2, none⟩) (by dsimp only; omega)).trans c_x2
        have HK := Lib.hid hK
        clear hK ev hd
        go_simp
        exact HK.out _ _ (fun h => by cases h) hJ ⟨rfl, fun h => absurd h (by decide)⟩ ⟨fun _ => Below.refl _ _, fun h => absurd h (by decide)⟩
      case o1 =>
        intro u a w' ev hJ hd K hK
        have HK := Lib.hid hK
        have HC := Lib.hid (CH.out w')
        have hzJ := hJ.size
        clear hK ev hd
        go_simp
        refine HC.out.mono ?_
        rintro e w'' ⟨v1, v2, v3, v4, rfl, o1, o2, o3, o4, hb⟩
        exact HK.out _ _ (fun h => by cases h) (hJ.trans (hb.mono hzJ)) ⟨⟨_, _, _, _, rfl, owns_base o1 hzJ, owns_base o2 hzJ, owns_base o3 hzJ, owns_base o4 hzJ⟩, fun h => absurd h (by decide)⟩ ⟨fun _ => hb, fun h => absurd h (by decide)⟩
      case o2 =>
        intro u a w' ev hJ hd K hK
        obtain ⟨v1, v2, v3, v4, h2, o1, o2, o3, o4⟩ : (FactR.sl wh.heap.size c).holds (u 66) w' := (hd 1 _ (by kernel_rfl) rfl).1
        obtain ⟨q1, k1, rfl, i1, -, -, -, -⟩ := row_of_owns o1
        obtain ⟨q2, k2, rfl, i2, -, -, n2, -⟩ := row_of_owns o2
        obtain ⟨q3, k3, rfl, i3, -, -, n3, -⟩ := row_of_owns o3
        obtain ⟨q4, k4, rfl, i4, -, -, -, -⟩ := row_of_owns o4
        have e65 : a.tmps.getD 65 undef = ixV 3 ma bm.length mc ca bc.length cc := (ev 65 (by decide)).trans (hd 0 _ (by kernel_rfl) rfl).1
        have e66 : a.tmps.getD 66 undef = _ := (ev 66 (by decide)).trans h2
        have HK := Lib.hid hK
        have HC := Lib.hid (WDb.out ma ca mc cc ⟨q1, q2, q3, q4, k1, k2, k3, k4⟩ w' (I1.out _ (below_via hJ HJwh.out HJwh.out.size)) (I2.out _ (below_via hJ HJwh.out HJwh.out.size)) ⟨i1, i2, i3, i4, HU.out⟩)
        have hzJ := hJ.size
        clear hK ev hd h2 o1 o2 o3 o4 i1 i2 i3 i4 n2 n3
        dsimp only [slV] at HC
        go_simp
        refine HC.out.mono ?_
        rintro e w'' ⟨v, u', rfl, o1, o2, hb⟩
        exact HK.out _ _ (fun h => by cases h) (hJ.trans (hb.mono hzJ)) ⟨⟨_, _, rfl, owns_base o1 hzJ, owns_base o2 hzJ⟩, fun h => absurd h (by decide)⟩ ⟨fun _ => hb, fun h => absurd h (by decide)⟩
      case o3 =>
        intro u a w' ev hJ hd K hK
        obtain ⟨y1, y2, h2, o1, o2⟩ : (FactR.ixt wh.heap.size l2 m2 kk2 2).holds (u 67) w' := (hd 2 _ (by kernel_rfl) rfl).1
        have e67 : a.tmps.getD 67 undef = _ := (ev 67 (by decide)).trans h2
        have HK := Lib.hid hK
        clear hK ev hd h2
        go_simp
        exact HK.out _ _ (fun h => by cases h) hJ ⟨⟨_, _, rfl, o1, o2⟩, fun h => absurd h (by decide)⟩ ⟨fun _ => Below.refl _ _, fun h => absurd h (by decide)⟩
      case o4 =>
        intro u a w' ev hJ hd K hK
        obtain ⟨y1, y2, h2, o1, o2⟩ : (FactR.ixt wh.heap.size l2 m2 kk2 2).holds (u 64) w' := (hd 3 _ (by kernel_rfl) rfl).1
        have e64 : a.tmps.getD 64 undef = _ := (ev 64 (by decide)).trans h2
        have HK := Lib.hid hK
        clear hK ev hd h2
        go_simp
        exact HK.out _ _ (fun h => by cases h) hJ ⟨⟨_, _, rfl, o1, o2⟩, fun h => absurd h (by decide)⟩ ⟨fun _ => Below.refl _ _, fun h => absurd h (by decide)⟩
      case o5 =>
        intro u a w' ev hJ hd K hK
        obtain ⟨y1, y2, h2, o1, o2⟩ : (FactR.ixt wh.heap.size l2 m2 kk2 2).holds (u 64) w' := (hd 3 _ (by kernel_rfl) rfl).1
        have e64 : a.tmps.getD 64 undef = _ := (ev 64 (by decide)).trans h2
        have HK := Lib.hid hK
        clear hK ev hd h2
        go_simp
        exact HK.out _ _ (fun h => by cases h) hJ ⟨rfl, fun h => absurd h (by decide)⟩ ⟨fun _ => Below.refl _ _, fun h => absurd h (by decide)⟩
      case o6 =>
        intro u a w' ev hJ hd K hK
        have HK := Lib.hid hK
        have hzJ := hJ.size
        have HJ := Lib.hid hJ
        clear hK ev hd hJ
        go_simp
        exact HK.out _ _ (fun h => by cases h) (HJ.out.alloc hzJ _) ⟨⟨_, _, rfl, hzJ, alloc_new _ _, rfl⟩, fun h => absurd h (by decide)⟩ ⟨fun _ => (Below.refl _ _).alloc (Nat.le_refl _) _, fun h => absurd h (by decide)⟩
      case o7 =>
        intro u a w' ev hJ hd K hK
        obtain ⟨b6, cs6, h6, hz6, hh6, hn6⟩ : (FactR.box wh.heap.size 25 3).holds (u 16) w' := (hd 6 _ (by kernel_rfl) rfl).1
        obtain ⟨x1, y1, h4, o1, o2⟩ : (FactR.ix wh.heap.size l2 m2 kk2).holds (u 68) w' := (hd 4 _ (by kernel_rfl) rfl).1
        obtain ⟨d0, d1, d2, k0, k1, k2, f0, f1, f2⟩ := box_three hh6 hn6
        have e6 : a.tmps.getD 16 undef = _ := (ev 16 (by decide)).trans h6
        have e4 : a.tmps.getD 68 undef = _ := (ev 68 (by decide)).trans h4
        obtain ⟨xa, xc, rfl, -⟩ := owns_news o1
        obtain ⟨ya, yc, rfl, -⟩ := owns_news o2
        have HK := Lib.hid hK
        have HJ := Lib.hid hJ
        have HS' := Lib.hid (three_set (w2 := w') (b := b6) (x := .int .i64 l2) (y := .slice xa m2.length xc) (z := .slice ya kk2.length yc) k0 k1 k2)
        have HT := Lib.hid (three_stT hh6 (.int .i64 l2) (.slice xa m2.length xc) (.slice ya kk2.length yc))
        have HH := Lib.hid (And.intro h6 h4)
        clear hK ev hd hJ o1 o2 h6 h4 hh6
        go_simp
        exact HK.out _ _ (fun _ => rfl) (((HJ.out.setCell (by dsimp only; omega) _).setCell (by dsimp only; omega) _).setCell (by dsimp only; omega) _) ⟨trivial, fun _ => ⟨b6, _, _, _, HH.out.1, hz6, HH.out.2, HS'.out⟩⟩ ⟨fun h => absurd rfl h, fun _ => HT.out⟩
    case fin7 =>
      intro u wi hJ hG
      obtain ⟨x1, y1, h4, o1, o2⟩ : (FactR.ix wh.heap.size l2 m2 kk2).holds (u 68) wi := (hG 4 _ rfl).1
      have h5 : u 69 = .int .i64 2 := (hG 5 _ rfl).1
      obtain ⟨bn, c0, c1, c2, h6, hz6, h46, hs⟩ := (hG 7 _ rfl).2 rfl
      obtain ⟨xan, xcn, rfl, -⟩ := owns_news o1
      obtain ⟨yan, ycn, rfl, -⟩ := owns_news o2
      rw [h4] at h46
      cases h46
      have hlb : bn < wi.heap.size := World.block_lt_of_cell? _ _ hs.1
      have hz_wi := hJ.size
      try simp only [World.size_alloc, World.size_setCell] at hz_wi
      have all_c : wi.cell? ⟨bd, 0, none⟩ = some (.int .i64 d.seg) ∧ wi.cell? ⟨bd, 1, none⟩ = some (.slice d1 d.ws.length dc1) ∧ wi.cell? ⟨bd, 2, none⟩ = some (.slice d2 d.ks.length dc2) ∧ wi.cell? ⟨bd, 3, none⟩ = some (.slice d3 d.vs.length dc3) ∧ wi.cell? ⟨bd, 4, none⟩ = some (.slice d4 d.cs.length dc4) ∧ wi.cell? ⟨bd, 5, none⟩ = some (.int .u64 d.laid) ∧ wi.cell? ⟨bx, 0, none⟩ = some (.int .i64 3) ∧ wi.cell? ⟨bx, 1, none⟩ = some (.slice ma bm.length mc) ∧ wi.cell? ⟨bx, 2, none⟩ = some (.slice ca bc.length cc) := by refine ⟨?_, ?_, ?_, ?_, ?_, ?_, ?_, ?_, ?_⟩ <;> (refine (hJ.cell ?_).trans ?_ <;> first | (first | (with_reducible assumption) | omega | (simp only [World.size_alloc, World.size_setCell, World.size_drew, World.heap_drewN] <;> omega) | (simp <;> omega)) | (first | (with_reducible assumption) | ((try simp (disch := first | omega | (simp only [World.size_alloc, World.size_setCell, World.size_drew, World.heap_drewN] <;> omega) | fail) only [World.cell?_alloc_past, World.cell?_alloc_at, World.frozen?_alloc_past, World.frozen?_alloc_at, World.frozen?_setCell, World.cell?_drew, World.frozen?_drew]) <;> first | (with_reducible assumption) | rfl)))
      have all_z : bd < wi.heap.size ∧ bx < wi.heap.size := by refine ⟨?_, ?_⟩ <;> (omega)
      clear c_d0 c_d1 c_d2 c_d3 c_d4 c_d5 c_x0 c_x1 c_x2 z_d z_x
      obtain ⟨c_d0, c_d1, c_d2, c_d3, c_d4, c_d5, c_x0, c_x1, c_x2⟩ := all_c
      try clear all_c
      obtain ⟨z_d, z_x⟩ := all_z
      try clear all_z
      have HJwi : Hid (Below wz.heap.size wz wi) := Lib.hid (below_via hJ HJwh.out HJwh.out.size)
      simp only [mixFrame, mixL, dstsOf, List.take_succ_cons, List.take_zero, List.filterMap_cons, List.filterMap_nil, List.contains_cons, List.contains_nil, Nat.reduceBEq, Bool.or_false, Bool.false_or, Bool.or_true, Bool.true_or, if_true, if_false, Bool.false_eq_true, Nat.reduceAdd, Nat.zero_add, List.drop_succ_cons, List.drop_zero, h4, h5, h6]
      clear h4 h5 h6 hG hJ
      clear o1 o2 hs
      go_upto_region 8 with (fail)
      refine wp_region_eff 8 (by kernel_rfl) (N := 171) rfl (by kernel_rfl) (by kernel_rfl) (by decide) (fun w' => Below wi.heap.size wi w') (effExt 25 7) (effAt 7 [71, 72, 73, 70, 74, 75, 18] [.is (ixV 3 ma bm.length mc ca bc.length cc), .sl wi.heap.size c, .ixt wi.heap.size l3 m3 kk3 2, .ixt wi.heap.size l3 m3 kk3 2, .ix wi.heap.size l3 m3 kk3, .is (.int .i64 2), .box wi.heap.size 25 3] (boxX wi.heap.size 18 74)) (effAt_stays boxX_stays) (effAt_dep (n := 7) [18, 74] boxX_dep (by kernel_rfl) (by kernel_rfl) (Nat.le_refl 7) (by decide)) (Below.refl _ _).drew ?steps8 ?fin8
      case steps8 =>
        refine ⟨?o0, ?o1, ?o2, ?o3, ?o4, ?o5, ?o6, ?o7, trivial⟩
        case o0 =>
          intro u a w' ev hJ hd K hK
          have e3 : a.tmps.getD 3 undef = .pointer (some ⟨bx, 0, none⟩) := ev 3 (by decide)
          have g0 := (hJ.cell (p := ⟨bx, 0, none⟩) (by dsimp only; omega)).trans c_x0
          have g1 := (hJ.cell (p := ⟨bx, 1, none⟩) (by dsimp only; omega)).trans c_x1
          have g2 := (hJ.cell (p := ⟨bx, 2, none⟩) (by dsimp only; omega)).trans c_x2
          have HK := Lib.hid hK
          clear hK ev hd
          go_simp
          exact HK.out _ _ (fun h => by cases h) hJ ⟨rfl, fun h => absurd h (by decide)⟩ ⟨fun _ => Below.refl _ _, fun h => absurd h (by decide)⟩
        case o1 =>
          intro u a w' ev hJ hd K hK
          have HK := Lib.hid hK
          have HC := Lib.hid (CH.out w')
          have hzJ := hJ.size
          clear hK ev hd
          go_simp
          refine HC.out.mono ?_
          rintro e w'' ⟨v1, v2, v3, v4, rfl, o1, o2, o3, o4, hb⟩
          exact HK.out _ _ (fun h => by cases h) (hJ.trans (hb.mono hzJ)) ⟨⟨_, _, _, _, rfl, owns_base o1 hzJ, owns_base o2 hzJ, owns_base o3 hzJ, owns_base o4 hzJ⟩, fun h => absurd h (by decide)⟩ ⟨fun _ => hb, fun h => absurd h (by decide)⟩
        case o2 =>
          intro u a w' ev hJ hd K hK
          obtain ⟨v1, v2, v3, v4, h2, o1, o2, o3, o4⟩ : (FactR.sl wi.heap.size c).holds (u 72) w' := (hd 1 _ (by kernel_rfl) rfl).1
          obtain ⟨q1, k1, rfl, i1, -, -, -, -⟩ := row_of_owns o1
          obtain ⟨q2, k2, rfl, i2, -, -, n2, -⟩ := row_of_owns o2
          obtain ⟨q3, k3, rfl, i3, -, -, n3, -⟩ := row_of_owns o3
          obtain ⟨q4, k4, rfl, i4, -, -, -, -⟩ := row_of_owns o4
          have e71 : a.tmps.getD 71 undef = ixV 3 ma bm.length mc ca bc.length cc := (ev 71 (by decide)).trans (hd 0 _ (by kernel_rfl) rfl).1
          have e72 : a.tmps.getD 72 undef = _ := (ev 72 (by decide)).trans h2
          have HK := Lib.hid hK
          have HC := Lib.hid (WDc.out ma ca mc cc ⟨q1, q2, q3, q4, k1, k2, k3, k4⟩ w' (I1.out _ (below_via hJ HJwi.out HJwi.out.size)) (I2.out _ (below_via hJ HJwi.out HJwi.out.size)) ⟨i1, i2, i3, i4, HU.out⟩)
          have hzJ := hJ.size
          clear hK ev hd h2 o1 o2 o3 o4 i1 i2 i3 i4 n2 n3
          dsimp only [slV] at HC
          go_simp
          refine HC.out.mono ?_
          rintro e w'' ⟨v, u', rfl, o1, o2, hb⟩
          exact HK.out _ _ (fun h => by cases h) (hJ.trans (hb.mono hzJ)) ⟨⟨_, _, rfl, owns_base o1 hzJ, owns_base o2 hzJ⟩, fun h => absurd h (by decide)⟩ ⟨fun _ => hb, fun h => absurd h (by decide)⟩
        case o3 =>
          intro u a w' ev hJ hd K hK
          obtain ⟨y1, y2, h2, o1, o2⟩ : (FactR.ixt wi.heap.size l3 m3 kk3 2).holds (u 73) w' := (hd 2 _ (by kernel_rfl) rfl).1
          have e73 : a.tmps.getD 73 undef = _ := (ev 73 (by decide)).trans h2
          have HK := Lib.hid hK
          clear hK ev hd h2
          go_simp
          exact HK.out _ _ (fun h => by cases h) hJ ⟨⟨_, _, rfl, o1, o2⟩, fun h => absurd h (by decide)⟩ ⟨fun _ => Below.refl _ _, fun h => absurd h (by decide)⟩
        case o4 =>
          intro u a w' ev hJ hd K hK
          obtain ⟨y1, y2, h2, o1, o2⟩ : (FactR.ixt wi.heap.size l3 m3 kk3 2).holds (u 70) w' := (hd 3 _ (by kernel_rfl) rfl).1
          have e70 : a.tmps.getD 70 undef = _ := (ev 70 (by decide)).trans h2
          have HK := Lib.hid hK
          clear hK ev hd h2
          go_simp
          exact HK.out _ _ (fun h => by cases h) hJ ⟨⟨_, _, rfl, o1, o2⟩, fun h => absurd h (by decide)⟩ ⟨fun _ => Below.refl _ _, fun h => absurd h (by decide)⟩
        case o5 =>
          intro u a w' ev hJ hd K hK
          obtain ⟨y1, y2, h2, o1, o2⟩ : (FactR.ixt wi.heap.size l3 m3 kk3 2).holds (u 70) w' := (hd 3 _ (by kernel_rfl) rfl).1
          have e70 : a.tmps.getD 70 undef = _ := (ev 70 (by decide)).trans h2
          have HK := Lib.hid hK
          clear hK ev hd h2
          go_simp
          exact HK.out _ _ (fun h => by cases h) hJ ⟨rfl, fun h => absurd h (by decide)⟩ ⟨fun _ => Below.refl _ _, fun h => absurd h (by decide)⟩
        case o6 =>
          intro u a w' ev hJ hd K hK
          have HK := Lib.hid hK
          have hzJ := hJ.size
          have HJ := Lib.hid hJ
          clear hK ev hd hJ
          go_simp
          exact HK.out _ _ (fun h => by cases h) (HJ.out.alloc hzJ _) ⟨⟨_, _, rfl, hzJ, alloc_new _ _, rfl⟩, fun h => absurd h (by decide)⟩ ⟨fun _ => (Below.refl _ _).alloc (Nat.le_refl _) _, fun h => absurd h (by decide)⟩
        case o7 =>
          intro u a w' ev hJ hd K hK
          obtain ⟨b6, cs6, h6, hz6, hh6, hn6⟩ : (FactR.box wi.heap.size 25 3).holds (u 18) w' := (hd 6 _ (by kernel_rfl) rfl).1
          obtain ⟨x1, y1, h4, o1, o2⟩ : (FactR.ix wi.heap.size l3 m3 kk3).holds (u 74) w' := (hd 4 _ (by kernel_rfl) rfl).1
          obtain ⟨d0, d1, d2, k0, k1, k2, f0, f1, f2⟩ := box_three hh6 hn6
          have e6 : a.tmps.getD 18 undef = _ := (ev 18 (by decide)).trans h6
          have e4 : a.tmps.getD 74 undef = _ := (ev 74 (by decide)).trans h4
          obtain ⟨xa, xc, rfl, -⟩ := owns_news o1
          obtain ⟨ya, yc, rfl, -⟩ := owns_news o2
          have HK := Lib.hid hK
          have HJ := Lib.hid hJ
          have HS' := Lib.hid (three_set (w2 := w') (b := b6) (x := .int .i64 l3) (y := .slice xa m3.length xc) (z := .slice ya kk3.length yc) k0 k1 k2)
          have HT := Lib.hid (three_stT hh6 (.int .i64 l3) (.slice xa m3.length xc) (.slice ya kk3.length yc))
          have HH := Lib.hid (And.intro h6 h4)
          clear hK ev hd hJ o1 o2 h6 h4 hh6
          go_simp
          exact HK.out _ _ (fun _ => rfl) (((HJ.out.setCell (by dsimp only; omega) _).setCell (by dsimp only; omega) _).setCell (by dsimp only; omega) _) ⟨trivial, fun _ => ⟨b6, _, _, _, HH.out.1, hz6, HH.out.2, HS'.out⟩⟩ ⟨fun h => absurd rfl h, fun _ => HT.out⟩
      case fin8 =>
        intro u wj hJ hG
        obtain ⟨x1, y1, h4, o1, o2⟩ : (FactR.ix wi.heap.size l3 m3 kk3).holds (u 74) wj := (hG 4 _ rfl).1
        have h5 : u 75 = .int .i64 2 := (hG 5 _ rfl).1
        obtain ⟨bn, c0, c1, c2, h6, hz6, h46, hs⟩ := (hG 7 _ rfl).2 rfl
        obtain ⟨xan, xcn, rfl, -⟩ := owns_news o1
        obtain ⟨yan, ycn, rfl, -⟩ := owns_news o2
        rw [h4] at h46
        cases h46
        have hlb : bn < wj.heap.size := World.block_lt_of_cell? _ _ hs.1
        have hz_wj := hJ.size
        try simp only [World.size_alloc, World.size_setCell] at hz_wj
        have all_c : wj.cell? ⟨bd, 0, none⟩ = some (.int .i64 d.seg) ∧ wj.cell? ⟨bd, 1, none⟩ = some (.slice d1 d.ws.length dc1) ∧ wj.cell? ⟨bd, 2, none⟩ = some (.slice d2 d.ks.length dc2) ∧ wj.cell? ⟨bd, 3, none⟩ = some (.slice d3 d.vs.length dc3) ∧ wj.cell? ⟨bd, 4, none⟩ = some (.slice d4 d.cs.length dc4) ∧ wj.cell? ⟨bd, 5, none⟩ = some (.int .u64 d.laid) ∧ wj.cell? ⟨bx, 0, none⟩ = some (.int .i64 3) ∧ wj.cell? ⟨bx, 1, none⟩ = some (.slice ma bm.length mc) ∧ wj.cell? ⟨bx, 2, none⟩ = some (.slice ca bc.length cc) := by refine ⟨?_, ?_, ?_, ?_, ?_, ?_, ?_, ?_, ?_⟩ <;> (refine (hJ.cell ?_).trans ?_ <;> first | (first | (with_reducible assumption) | omega | (simp only [World.size_alloc, World.size_setCell, World.size_drew, World.heap_drewN] <;> omega) | (simp <;> omega)) | (first | (with_reducible assumption) | ((try simp (disch := first | omega | (simp only [World.size_alloc, World.size_setCell, World.size_drew, World.heap_drewN] <;> omega) | fail) only [World.cell?_alloc_past, World.cell?_alloc_at, World.frozen?_alloc_past, World.frozen?_alloc_at, World.frozen?_setCell, World.cell?_drew, World.frozen?_drew]) <;> first | (with_reducible assumption) | rfl)))
        have all_z : bd < wj.heap.size ∧ bx < wj.heap.size := by refine ⟨?_, ?_⟩ <;> (omega)
        clear c_d0 c_d1 c_d2 c_d3 c_d4 c_d5 c_x0 c_x1 c_x2 z_d z_x
        obtain ⟨c_d0, c_d1, c_d2, c_d3, c_d4, c_d5, c_x0, c_x1, c_x2⟩ := all_c
        try clear all_c
        obtain ⟨z_d, z_x⟩ := all_z
        try clear all_z
        have HJwj : Hid (Below wz.heap.size wz wj) := Lib.hid (below_via hJ HJwi.out HJwi.out.size)
        simp only [mixFrame, mixL, dstsOf, List.take_succ_cons, List.take_zero, List.filterMap_cons, List.filterMap_nil, List.contains_cons, List.contains_nil, Nat.reduceBEq, Bool.or_false, Bool.false_or, Bool.or_true, Bool.true_or, if_true, if_false, Bool.false_eq_true, Nat.reduceAdd, Nat.zero_add, List.drop_succ_cons, List.drop_zero, h4, h5, h6]
        clear h4 h5 h6 hG hJ
        clear o1 o2 hs
        have hzwj := HJwj.out.size
        go_wp2_with fail
        refine (CH.out _).mono ?_
        rintro e wk ⟨v1, v2, v3, v4, rfl, o1, o2, o3, o4, hbk⟩
        have hz_wk := hbk.size
        try simp only [World.size_alloc, World.size_setCell] at hz_wk
        have all_c : wk.cell? ⟨bd, 0, none⟩ = some (.int .i64 d.seg) ∧ wk.cell? ⟨bd, 1, none⟩ = some (.slice d1 d.ws.length dc1) ∧ wk.cell? ⟨bd, 2, none⟩ = some (.slice d2 d.ks.length dc2) ∧ wk.cell? ⟨bd, 3, none⟩ = some (.slice d3 d.vs.length dc3) ∧ wk.cell? ⟨bd, 4, none⟩ = some (.slice d4 d.cs.length dc4) ∧ wk.cell? ⟨bd, 5, none⟩ = some (.int .u64 d.laid) ∧ wk.cell? ⟨bx, 0, none⟩ = some (.int .i64 3) ∧ wk.cell? ⟨bx, 1, none⟩ = some (.slice ma bm.length mc) ∧ wk.cell? ⟨bx, 2, none⟩ = some (.slice ca bc.length cc) := by refine ⟨?_, ?_, ?_, ?_, ?_, ?_, ?_, ?_, ?_⟩ <;> (refine (hbk.cell ?_).trans ?_ <;> first | (first | (with_reducible assumption) | omega | (simp only [World.size_alloc, World.size_setCell, World.size_drew, World.heap_drewN] <;> omega) | (simp <;> omega)) | (first | (with_reducible assumption) | ((try simp (disch := first | omega | (simp only [World.size_alloc, World.size_setCell, World.size_drew, World.heap_drewN] <;> omega) | fail) only [World.cell?_alloc_past, World.cell?_alloc_at, World.frozen?_alloc_past, World.frozen?_alloc_at, World.frozen?_setCell, World.cell?_drew, World.frozen?_drew]) <;> first | (with_reducible assumption) | rfl)))
        have all_z : bd < wk.heap.size ∧ bx < wk.heap.size := by refine ⟨?_, ?_⟩ <;> (omega)
        clear c_d0 c_d1 c_d2 c_d3 c_d4 c_d5 c_x0 c_x1 c_x2 z_d z_x
        obtain ⟨c_d0, c_d1, c_d2, c_d3, c_d4, c_d5, c_x0, c_x1, c_x2⟩ := all_c
        try clear all_c
        obtain ⟨z_d, z_x⟩ := all_z
        try clear all_z
        obtain ⟨a1, c1, rfl, i1, -, -, -, -⟩ := row_of_owns o1
        obtain ⟨a2, c2, rfl, i2, -, -, na2, -⟩ := row_of_owns o2
        obtain ⟨a3, c3, rfl, i3, -, -, na3, -⟩ := row_of_owns o3
        obtain ⟨a4, c4, rfl, i4, -, -, -, -⟩ := row_of_owns o4
        have WN1 := Lib.hid (WDn.out ⟨a1, a2, a3, a4, c1, c2, c3, c4⟩ wk ⟨i1, i2, i3, i4, HU.out⟩)
        dsimp only [slV] at WN1
        have hWk : Below wz.heap.size wz wk := below_via hbk HJwj.out hzwj
        have hzwk := hWk.size
        clear o1 o2 o3 o4 i1 i2 i3 i4 na2 na3 hbk
        go_wp2_with fail
        refine (WN1.out).mono ?_
        rintro e wl ⟨v, u, rfl, o1, o2, hbl⟩
        have hz_wl := hbl.size
        try simp only [World.size_alloc, World.size_setCell] at hz_wl
        have all_c : wl.cell? ⟨bd, 0, none⟩ = some (.int .i64 d.seg) ∧ wl.cell? ⟨bd, 1, none⟩ = some (.slice d1 d.ws.length dc1) ∧ wl.cell? ⟨bd, 2, none⟩ = some (.slice d2 d.ks.length dc2) ∧ wl.cell? ⟨bd, 3, none⟩ = some (.slice d3 d.vs.length dc3) ∧ wl.cell? ⟨bd, 4, none⟩ = some (.slice d4 d.cs.length dc4) ∧ wl.cell? ⟨bd, 5, none⟩ = some (.int .u64 d.laid) ∧ wl.cell? ⟨bx, 0, none⟩ = some (.int .i64 3) ∧ wl.cell? ⟨bx, 1, none⟩ = some (.slice ma bm.length mc) ∧ wl.cell? ⟨bx, 2, none⟩ = some (.slice ca bc.length cc) := by refine ⟨?_, ?_, ?_, ?_, ?_, ?_, ?_, ?_, ?_⟩ <;> (refine (hbl.cell ?_).trans ?_ <;> first | (first | (with_reducible assumption) | omega | (simp only [World.size_alloc, World.size_setCell, World.size_drew, World.heap_drewN] <;> omega) | (simp <;> omega)) | (first | (with_reducible assumption) | ((try simp (disch := first | omega | (simp only [World.size_alloc, World.size_setCell, World.size_drew, World.heap_drewN] <;> omega) | fail) only [World.cell?_alloc_past, World.cell?_alloc_at, World.frozen?_alloc_past, World.frozen?_alloc_at, World.frozen?_setCell, World.cell?_drew, World.frozen?_drew]) <;> first | (with_reducible assumption) | rfl)))
        have all_z : bd < wl.heap.size ∧ bx < wl.heap.size := by refine ⟨?_, ?_⟩ <;> (omega)
        clear c_d0 c_d1 c_d2 c_d3 c_d4 c_d5 c_x0 c_x1 c_x2 z_d z_x
        obtain ⟨c_d0, c_d1, c_d2, c_d3, c_d4, c_d5, c_x0, c_x1, c_x2⟩ := all_c
        try clear all_c
        obtain ⟨z_d, z_x⟩ := all_z
        try clear all_z
        have hWl : Below wz.heap.size wz wl := below_via hbl hWk hzwk
        obtain ⟨r3, rc3, rfl, -⟩ := owns_news o1
        obtain ⟨r4, rc4, rfl, -⟩ := owns_news o2
        clear o1 o2 hbl hWk WN1
        have hal : Below wl.heap.size wl (wl.alloc (.cells #[.int .i64 l4, .slice r3 m4.length rc3, .slice r4 kk4.length rc4] 25)) := (Below.refl _ _).alloc (Nat.le_refl _) _
        have hWm := below_via hal hWl hWl.size
        go_upto_region 10 with (fail)
        generalize wl.alloc (.cells #[.int .i64 l4, .slice r3 m4.length rc3, .slice r4 kk4.length rc4] 25) = wm at *
        have hz_wm := hal.size
        try simp only [World.size_alloc, World.size_setCell] at hz_wm
        have all_c : wm.cell? ⟨bd, 0, none⟩ = some (.int .i64 d.seg) ∧ wm.cell? ⟨bd, 1, none⟩ = some (.slice d1 d.ws.length dc1) ∧ wm.cell? ⟨bd, 2, none⟩ = some (.slice d2 d.ks.length dc2) ∧ wm.cell? ⟨bd, 3, none⟩ = some (.slice d3 d.vs.length dc3) ∧ wm.cell? ⟨bd, 4, none⟩ = some (.slice d4 d.cs.length dc4) ∧ wm.cell? ⟨bd, 5, none⟩ = some (.int .u64 d.laid) ∧ wm.cell? ⟨bx, 0, none⟩ = some (.int .i64 3) ∧ wm.cell? ⟨bx, 1, none⟩ = some (.slice ma bm.length mc) ∧ wm.cell? ⟨bx, 2, none⟩ = some (.slice ca bc.length cc) := by refine ⟨?_, ?_, ?_, ?_, ?_, ?_, ?_, ?_, ?_⟩ <;> (refine (hal.cell ?_).trans ?_ <;> first | (first | (with_reducible assumption) | omega | (simp only [World.size_alloc, World.size_setCell, World.size_drew, World.heap_drewN] <;> omega) | (simp <;> omega)) | (first | (with_reducible assumption) | ((try simp (disch := first | omega | (simp only [World.size_alloc, World.size_setCell, World.size_drew, World.heap_drewN] <;> omega) | fail) only [World.cell?_alloc_past, World.cell?_alloc_at, World.frozen?_alloc_past, World.frozen?_alloc_at, World.frozen?_setCell, World.cell?_drew, World.frozen?_drew]) <;> first | (with_reducible assumption) | rfl)))
        have all_z : bd < wm.heap.size ∧ bx < wm.heap.size := by refine ⟨?_, ?_⟩ <;> (omega)
        clear c_d0 c_d1 c_d2 c_d3 c_d4 c_d5 c_x0 c_x1 c_x2 z_d z_x
        obtain ⟨c_d0, c_d1, c_d2, c_d3, c_d4, c_d5, c_x0, c_x1, c_x2⟩ := all_c
        try clear all_c
        obtain ⟨z_d, z_x⟩ := all_z
        try clear all_z
        have HJwm := Lib.hid hWm
        clear hal hWm hWl
        refine wp_region_eff 9 (by kernel_rfl) (N := 171) rfl (by kernel_rfl) (by kernel_rfl) (by decide) (fun w' => Below wm.heap.size wm w') (effExt 25 8) (effAt 8 [83, 84, 85, 86, 82, 87, 88, 22] [.is (ixV 3 ma bm.length mc ca bc.length cc), .sl wm.heap.size c, .is (.agg #[.int .i64 d.seg, .slice d1 d.ws.length dc1, .slice d2 d.ks.length dc2, .slice d3 d.vs.length dc3, .slice d4 d.cs.length dc4, .int .u64 d.laid]), .ixt wm.heap.size 4 fm fc 0, .ixt wm.heap.size 4 fm fc 0, .ix wm.heap.size 4 fm fc, .is (.int .i64 0), .box wm.heap.size 25 3] (boxX wm.heap.size 22 87)) (effAt_stays boxX_stays) (effAt_dep (n := 8) [22, 87] boxX_dep (by kernel_rfl) (by kernel_rfl) (Nat.le_refl 8) (by decide)) (Below.refl _ _).drew ?steps10 ?fin10
        case steps10 =>
          refine ⟨?o0, ?o1, ?o2, ?o3, ?o4, ?o5, ?o6, ?o7, ?o8, trivial⟩
          case o0 =>
            intro u a w' ev hJ hd K hK
            have e3 : a.tmps.getD 3 undef = .pointer (some ⟨bx, 0, none⟩) := ev 3 (by decide)
            have g0 := (hJ.cell (p := ⟨bx, 0, none⟩) (by dsimp only; omega)).trans c_x0
            have g1 := (hJ.cell (p := ⟨bx, 1, none⟩) (by dsimp only; omega)).trans c_x1
            have g2 := (hJ.cell (p := ⟨bx, 2, none⟩) (by dsimp only; omega)).trans c_x2
            have HK := Lib.hid hK
            clear hK ev hd
            go_simp
            exact HK.out _ _ (fun h => by cases h) hJ ⟨rfl, fun h => absurd h (by decide)⟩ ⟨fun _ => Below.refl _ _, fun h => absurd h (by decide)⟩
          case o1 =>
            intro u a w' ev hJ hd K hK
            have HK := Lib.hid hK
            have HC := Lib.hid (CH.out w')
            have hzJ := hJ.size
            clear hK ev hd
            go_simp
            refine HC.out.mono ?_
            rintro e w'' ⟨v1, v2, v3, v4, rfl, o1, o2, o3, o4, hb⟩
            exact HK.out _ _ (fun h => by cases h) (hJ.trans (hb.mono hzJ)) ⟨⟨_, _, _, _, rfl, owns_base o1 hzJ, owns_base o2 hzJ, owns_base o3 hzJ, owns_base o4 hzJ⟩, fun h => absurd h (by decide)⟩ ⟨fun _ => hb, fun h => absurd h (by decide)⟩
          case o2 =>
            intro u a w' ev hJ hd K hK
            have e1 : a.tmps.getD 1 undef = .pointer (some ⟨bd, 0, none⟩) := ev 1 (by decide)
            have g0 := (hJ.cell (p := ⟨bd, 0, none⟩) (by dsimp only; omega)).trans c_d0
            have g1 := (hJ.cell (p := ⟨bd, 1, none⟩) (by dsimp only; omega)).trans c_d1
            have g2 := (hJ.cell (p := ⟨bd, 2, none⟩) (by dsimp only; omega)).trans c_d2
            have g3 := (hJ.cell (p := ⟨bd, 3, none⟩) (by dsimp only; omega)).trans c_d3
            have g4 := (hJ.cell (p := ⟨bd, 4, none⟩) (by dsimp only; omega)).trans c_d4
            have g5 := (hJ.cell (p := ⟨bd, 5, none⟩) (by dsimp only; omega)).trans c_d5
            have HK := Lib.hid hK
            clear hK ev hd
            go_simp
            exact HK.out _ _ (fun h => by cases h) hJ ⟨rfl, fun h => absurd h (by decide)⟩ ⟨fun _ => Below.refl _ _, fun h => absurd h (by decide)⟩
          case o3 =>
            intro u a w' ev hJ hd K hK
            obtain ⟨v1, v2, v3, v4, h2, o1, o2, o3, o4⟩ : (FactR.sl wm.heap.size c).holds (u 84) w' := (hd 1 _ (by kernel_rfl) rfl).1
            obtain ⟨q1, k1, rfl, i1, -, -, -, -⟩ := row_of_owns o1
            obtain ⟨q2, k2, rfl, i2, -, -, n2, -⟩ := row_of_owns o2
            obtain ⟨q3, k3, rfl, i3, -, -, n3, -⟩ := row_of_owns o3
            obtain ⟨q4, k4, rfl, i4, -, -, -, -⟩ := row_of_owns o4
            have e83 : a.tmps.getD 83 undef = ixV 3 ma bm.length mc ca bc.length cc := (ev 83 (by decide)).trans (hd 0 _ (by kernel_rfl) rfl).1
            have e84 : a.tmps.getD 84 undef = _ := (ev 84 (by decide)).trans h2
            have e85 : a.tmps.getD 85 undef = .agg #[.int .i64 d.seg, .slice d1 d.ws.length dc1, .slice d2 d.ks.length dc2, .slice d3 d.vs.length dc3, .slice d4 d.cs.length dc4, .int .u64 d.laid] := (ev 85 (by decide)).trans (hd 2 _ (by kernel_rfl) rfl).1
            have HK := Lib.hid hK
            have HC := Lib.hid (FTa.out ma ca mc cc ⟨q1, q2, q3, q4, k1, k2, k3, k4⟩ ⟨d1, d2, d3, d4, dc1, dc2, dc3, dc4⟩ w' (I1.out _ (below_via hJ HJwm.out HJwm.out.size)) (I2.out _ (below_via hJ HJwm.out HJwm.out.size)) ⟨i1, i2, i3, i4, HU.out⟩ (HD.out _ (below_via hJ HJwm.out HJwm.out.size)) n2 n3 nd2 nd3)
            have hzJ := hJ.size
            clear hK ev hd h2 o1 o2 o3 o4 i1 i2 i3 i4 n2 n3
            dsimp only [slV] at HC
            go_simp
            refine HC.out.mono ?_
            rintro e w'' ⟨v, u', rfl, o1, o2, hb⟩
            exact HK.out _ _ (fun h => by cases h) (hJ.trans (hb.mono hzJ)) ⟨⟨_, _, rfl, owns_base o1 hzJ, owns_base o2 hzJ⟩, fun h => absurd h (by decide)⟩ ⟨fun _ => hb, fun h => absurd h (by decide)⟩
          case o4 =>
            intro u a w' ev hJ hd K hK
            obtain ⟨y1, y2, h2, o1, o2⟩ : (FactR.ixt wm.heap.size 4 fm fc 0).holds (u 86) w' := (hd 3 _ (by kernel_rfl) rfl).1
            have e86 : a.tmps.getD 86 undef = _ := (ev 86 (by decide)).trans h2
            have HK := Lib.hid hK
            clear hK ev hd h2
            go_simp
            exact HK.out _ _ (fun h => by cases h) hJ ⟨⟨_, _, rfl, o1, o2⟩, fun h => absurd h (by decide)⟩ ⟨fun _ => Below.refl _ _, fun h => absurd h (by decide)⟩
          case o5 =>
            intro u a w' ev hJ hd K hK
            obtain ⟨y1, y2, h2, o1, o2⟩ : (FactR.ixt wm.heap.size 4 fm fc 0).holds (u 82) w' := (hd 4 _ (by kernel_rfl) rfl).1
            have e82 : a.tmps.getD 82 undef = _ := (ev 82 (by decide)).trans h2
            have HK := Lib.hid hK
            clear hK ev hd h2
            go_simp
            exact HK.out _ _ (fun h => by cases h) hJ ⟨⟨_, _, rfl, o1, o2⟩, fun h => absurd h (by decide)⟩ ⟨fun _ => Below.refl _ _, fun h => absurd h (by decide)⟩
          case o6 =>
            intro u a w' ev hJ hd K hK
            obtain ⟨y1, y2, h2, o1, o2⟩ : (FactR.ixt wm.heap.size 4 fm fc 0).holds (u 82) w' := (hd 4 _ (by kernel_rfl) rfl).1
            have e82 : a.tmps.getD 82 undef = _ := (ev 82 (by decide)).trans h2
            have HK := Lib.hid hK
            clear hK ev hd h2
            go_simp
            exact HK.out _ _ (fun h => by cases h) hJ ⟨rfl, fun h => absurd h (by decide)⟩ ⟨fun _ => Below.refl _ _, fun h => absurd h (by decide)⟩
          case o7 =>
            intro u a w' ev hJ hd K hK
            have HK := Lib.hid hK
            have hzJ := hJ.size
            have HJ := Lib.hid hJ
            clear hK ev hd hJ
            go_simp
            exact HK.out _ _ (fun h => by cases h) (HJ.out.alloc hzJ _) ⟨⟨_, _, rfl, hzJ, alloc_new _ _, rfl⟩, fun h => absurd h (by decide)⟩ ⟨fun _ => (Below.refl _ _).alloc (Nat.le_refl _) _, fun h => absurd h (by decide)⟩
          case o8 =>
            intro u a w' ev hJ hd K hK
            obtain ⟨b6, cs6, h6, hz6, hh6, hn6⟩ : (FactR.box wm.heap.size 25 3).holds (u 22) w' := (hd 7 _ (by kernel_rfl) rfl).1
            obtain ⟨x1, y1, h4, o1, o2⟩ : (FactR.ix wm.heap.size 4 fm fc).holds (u 87) w' := (hd 5 _ (by kernel_rfl) rfl).1
            obtain ⟨d0, d1, d2, k0, k1, k2, f0, f1, f2⟩ := box_three hh6 hn6
            have e6 : a.tmps.getD 22 undef = _ := (ev 22 (by decide)).trans h6
            have e4 : a.tmps.getD 87 undef = _ := (ev 87 (by decide)).trans h4
            obtain ⟨xa, xc, rfl, -⟩ := owns_news o1
            obtain ⟨ya, yc, rfl, -⟩ := owns_news o2
            have HK := Lib.hid hK
            have HJ := Lib.hid hJ
            have HS' := Lib.hid (three_set (w2 := w') (b := b6) (x := .int .i64 4) (y := .slice xa fm.length xc) (z := .slice ya fc.length yc) k0 k1 k2)
            have HT := Lib.hid (three_stT hh6 (.int .i64 4) (.slice xa fm.length xc) (.slice ya fc.length yc))
            have HH := Lib.hid (And.intro h6 h4)
            clear hK ev hd hJ o1 o2 h6 h4 hh6
            go_simp
            exact HK.out _ _ (fun _ => rfl) (((HJ.out.setCell (by dsimp only; omega) _).setCell (by dsimp only; omega) _).setCell (by dsimp only; omega) _) ⟨trivial, fun _ => ⟨b6, _, _, _, HH.out.1, hz6, HH.out.2, HS'.out⟩⟩ ⟨fun h => absurd rfl h, fun _ => HT.out⟩
        case fin10 =>
          intro u wn hJ hG
          obtain ⟨x1, y1, h4, o1, o2⟩ : (FactR.ix wm.heap.size 4 fm fc).holds (u 87) wn := (hG 5 _ rfl).1
          have h5 : u 88 = .int .i64 0 := (hG 6 _ rfl).1
          obtain ⟨bv, c0, c1, c2, h6, hz6, h46, hs⟩ := (hG 8 _ rfl).2 rfl
          obtain ⟨xav, xcv, rfl, -⟩ := owns_news o1
          obtain ⟨yav, ycv, rfl, -⟩ := owns_news o2
          rw [h4] at h46
          cases h46
          have hlb : bv < wn.heap.size := World.block_lt_of_cell? _ _ hs.1
          have hz_wn := hJ.size
          try simp only [World.size_alloc, World.size_setCell] at hz_wn
          have all_c : wn.cell? ⟨bd, 0, none⟩ = some (.int .i64 d.seg) ∧ wn.cell? ⟨bd, 1, none⟩ = some (.slice d1 d.ws.length dc1) ∧ wn.cell? ⟨bd, 2, none⟩ = some (.slice d2 d.ks.length dc2) ∧ wn.cell? ⟨bd, 3, none⟩ = some (.slice d3 d.vs.length dc3) ∧ wn.cell? ⟨bd, 4, none⟩ = some (.slice d4 d.cs.length dc4) ∧ wn.cell? ⟨bd, 5, none⟩ = some (.int .u64 d.laid) ∧ wn.cell? ⟨bx, 0, none⟩ = some (.int .i64 3) ∧ wn.cell? ⟨bx, 1, none⟩ = some (.slice ma bm.length mc) ∧ wn.cell? ⟨bx, 2, none⟩ = some (.slice ca bc.length cc) := by refine ⟨?_, ?_, ?_, ?_, ?_, ?_, ?_, ?_, ?_⟩ <;> (refine (hJ.cell ?_).trans ?_ <;> first | (first | (with_reducible assumption) | omega | (simp only [World.size_alloc, World.size_setCell, World.size_drew, World.heap_drewN] <;> omega) | (simp <;> omega)) | (first | (with_reducible assumption) | ((try simp (disch := first | omega | (simp only [World.size_alloc, World.size_setCell, World.size_drew, World.heap_drewN] <;> omega) | fail) only [World.cell?_alloc_past, World.cell?_alloc_at, World.frozen?_alloc_past, World.frozen?_alloc_at, World.frozen?_setCell, World.cell?_drew, World.frozen?_drew]) <;> first | (with_reducible assumption) | rfl)))
          have all_z : bd < wn.heap.size ∧ bx < wn.heap.size := by refine ⟨?_, ?_⟩ <;> (omega)
          clear c_d0 c_d1 c_d2 c_d3 c_d4 c_d5 c_x0 c_x1 c_x2 z_d z_x
          obtain ⟨c_d0, c_d1, c_d2, c_d3, c_d4, c_d5, c_x0, c_x1, c_x2⟩ := all_c
          try clear all_c
          obtain ⟨z_d, z_x⟩ := all_z
          try clear all_z
          have HJwn : Hid (Below wz.heap.size wz wn) := Lib.hid (below_via hJ HJwm.out HJwm.out.size)
          simp only [mixFrame, mixL, dstsOf, List.take_succ_cons, List.take_zero, List.filterMap_cons, List.filterMap_nil, List.contains_cons, List.contains_nil, Nat.reduceBEq, Bool.or_false, Bool.false_or, Bool.or_true, Bool.true_or, if_true, if_false, Bool.false_eq_true, Nat.reduceAdd, Nat.zero_add, List.drop_succ_cons, List.drop_zero, h4, h5, h6]
          clear h4 h5 h6 hG hJ
          obtain ⟨c_v0, c_v1, c_v2⟩ := hs
          have z_v := hlb
          clear o1 o2
          have hzwn := HJwn.out.size
          go_wp2_with fail
          refine (CH.out _).mono ?_
          rintro e wo ⟨v1, v2, v3, v4, rfl, o1, o2, o3, o4, hbo⟩
          have hz_wo := hbo.size
          try simp only [World.size_alloc, World.size_setCell] at hz_wo
          have all_c : wo.cell? ⟨bx, 0, none⟩ = some (.int .i64 3) ∧ wo.cell? ⟨bx, 1, none⟩ = some (.slice ma bm.length mc) ∧ wo.cell? ⟨bx, 2, none⟩ = some (.slice ca bc.length cc) ∧ wo.cell? ⟨bv, 0, none⟩ = some (.int .i64 4) ∧ wo.cell? ⟨bv, 1, none⟩ = some (.slice xav fm.length xcv) ∧ wo.cell? ⟨bv, 2, none⟩ = some (.slice yav fc.length ycv) := by refine ⟨?_, ?_, ?_, ?_, ?_, ?_⟩ <;> (refine (hbo.cell ?_).trans ?_ <;> first | (first | (with_reducible assumption) | omega | (simp only [World.size_alloc, World.size_setCell, World.size_drew, World.heap_drewN] <;> omega) | (simp <;> omega)) | (first | (with_reducible assumption) | ((try simp (disch := first | omega | (simp only [World.size_alloc, World.size_setCell, World.size_drew, World.heap_drewN] <;> omega) | fail) only [World.cell?_alloc_past, World.cell?_alloc_at, World.frozen?_alloc_past, World.frozen?_alloc_at, World.frozen?_setCell, World.cell?_drew, World.frozen?_drew]) <;> first | (with_reducible assumption) | rfl)))
          have all_z : bx < wo.heap.size ∧ bv < wo.heap.size := by refine ⟨?_, ?_⟩ <;> (omega)
          clear c_x0 c_x1 c_x2 z_x
          obtain ⟨c_x0, c_x1, c_x2, c_v0, c_v1, c_v2⟩ := all_c
          try clear all_c
          obtain ⟨z_x, z_v⟩ := all_z
          try clear all_z
          obtain ⟨a1, c1, rfl, i1, -, -, -, -⟩ := row_of_owns o1
          obtain ⟨a2, c2, rfl, i2, -, -, na2, -⟩ := row_of_owns o2
          obtain ⟨a3, c3, rfl, i3, -, -, na3, -⟩ := row_of_owns o3
          obtain ⟨a4, c4, rfl, i4, -, -, -, -⟩ := row_of_owns o4
          have hWo : Below wz.heap.size wz wo := below_via hbo HJwn.out hzwn
          have hzwo := hWo.size
          clear hbo
          go_wp2_with fail
          refine (CT.out _).mono ?_
          rintro e wp ⟨v1, v2, v3, v4, rfl, p1, p2, p3, p4, hbp⟩
          have hz_wp := hbp.size
          try simp only [World.size_alloc, World.size_setCell] at hz_wp
          have all_c : wp.cell? ⟨bx, 0, none⟩ = some (.int .i64 3) ∧ wp.cell? ⟨bx, 1, none⟩ = some (.slice ma bm.length mc) ∧ wp.cell? ⟨bx, 2, none⟩ = some (.slice ca bc.length cc) ∧ wp.cell? ⟨bv, 0, none⟩ = some (.int .i64 4) ∧ wp.cell? ⟨bv, 1, none⟩ = some (.slice xav fm.length xcv) ∧ wp.cell? ⟨bv, 2, none⟩ = some (.slice yav fc.length ycv) := by refine ⟨?_, ?_, ?_, ?_, ?_, ?_⟩ <;> (refine (hbp.cell ?_).trans ?_ <;> first | (first | (with_reducible assumption) | omega | (simp only [World.size_alloc, World.size_setCell, World.size_drew, World.heap_drewN] <;> omega) | (simp <;> omega)) | (first | (with_reducible assumption) | ((try simp (disch := first | omega | (simp only [World.size_alloc, World.size_setCell, World.size_drew, World.heap_drewN] <;> omega) | fail) only [World.cell?_alloc_past, World.cell?_alloc_at, World.frozen?_alloc_past, World.frozen?_alloc_at, World.frozen?_setCell, World.cell?_drew, World.frozen?_drew]) <;> first | (with_reducible assumption) | rfl)))
          have all_z : bx < wp.heap.size ∧ bv < wp.heap.size := by refine ⟨?_, ?_⟩ <;> (omega)
          clear c_x0 c_x1 c_x2 c_v0 c_v1 c_v2 z_x z_v
          obtain ⟨c_x0, c_x1, c_x2, c_v0, c_v1, c_v2⟩ := all_c
          try clear all_c
          obtain ⟨z_x, z_v⟩ := all_z
          try clear all_z
          obtain ⟨e1, k1, rfl, j1, -, -, -, -⟩ := row_of_owns p1
          obtain ⟨e2, k2, rfl, j2, -, -, ne2, -⟩ := row_of_owns p2
          obtain ⟨e3, k3, rfl, j3, -, -, ne3, -⟩ := row_of_owns p3
          obtain ⟨e4, k4, rfl, j4, -, -, -, -⟩ := row_of_owns p4
          have FB1 := Lib.hid (FTb.out ⟨a1, a2, a3, a4, c1, c2, c3, c4⟩ ⟨e1, e2, e3, e4, k1, k2, k3, k4⟩ wp ⟨i1.below hbp, i2.below hbp, i3.below hbp, i4.below hbp, HU.out⟩ ⟨j1, j2, j3, j4, HUT.out⟩ na2 na3 ne2 ne3)
          dsimp only [slV] at FB1
          have hWp : Below wz.heap.size wz wp := below_via hbp hWo hzwo
          have hzwp := hWp.size
          clear o1 o2 o3 o4 i1 i2 i3 i4 na2 na3 p1 p2 p3 p4 j1 j2 j3 j4 ne2 ne3 hbp hWo
          go_wp2_with fail
          refine (FB1.out).mono ?_
          rintro e wq ⟨v, u, rfl, o1, o2, hbq⟩
          have hz_wq := hbq.size
          try simp only [World.size_alloc, World.size_setCell] at hz_wq
          have all_c : wq.cell? ⟨bx, 0, none⟩ = some (.int .i64 3) ∧ wq.cell? ⟨bx, 1, none⟩ = some (.slice ma bm.length mc) ∧ wq.cell? ⟨bx, 2, none⟩ = some (.slice ca bc.length cc) ∧ wq.cell? ⟨bv, 0, none⟩ = some (.int .i64 4) ∧ wq.cell? ⟨bv, 1, none⟩ = some (.slice xav fm.length xcv) ∧ wq.cell? ⟨bv, 2, none⟩ = some (.slice yav fc.length ycv) := by refine ⟨?_, ?_, ?_, ?_, ?_, ?_⟩ <;> (refine (hbq.cell ?_).trans ?_ <;> first | (first | (with_reducible assumption) | omega | (simp only [World.size_alloc, World.size_setCell, World.size_drew, World.heap_drewN] <;> omega) | (simp <;> omega)) | (first | (with_reducible assumption) | ((try simp (disch := first | omega | (simp only [World.size_alloc, World.size_setCell, World.size_drew, World.heap_drewN] <;> omega) | fail) only [World.cell?_alloc_past, World.cell?_alloc_at, World.frozen?_alloc_past, World.frozen?_alloc_at, World.frozen?_setCell, World.cell?_drew, World.frozen?_drew]) <;> first | (with_reducible assumption) | rfl)))
          have all_z : bx < wq.heap.size ∧ bv < wq.heap.size := by refine ⟨?_, ?_⟩ <;> (omega)
          clear c_x0 c_x1 c_x2 c_v0 c_v1 c_v2 z_x z_v
          obtain ⟨c_x0, c_x1, c_x2, c_v0, c_v1, c_v2⟩ := all_c
          try clear all_c
          obtain ⟨z_x, z_v⟩ := all_z
          try clear all_z
          have hWq : Below wz.heap.size wz wq := below_via hbq hWp hzwp
          obtain ⟨r5, rc5, rfl, i1, -, -, -, -⟩ := row_of_owns o1
          obtain ⟨r6, rc6, rfl, i2, -, -, -, -⟩ := row_of_owns o2
          clear o1 o2 hbq hWp FB1
          have hal : Below wq.heap.size wq (wq.alloc (.cells #[.int .i64 3, .slice r5 tm.length rc5, .slice r6 tc.length rc6] 25)) := (Below.refl _ _).alloc (Nat.le_refl _) _
          have hWr := below_via hal hWq hWq.size
          have c_z0 : (wq.alloc (.cells #[.int .i64 3, .slice r5 tm.length rc5, .slice r6 tc.length rc6] 25)).cell? ⟨wq.heap.size, 0, none⟩ = some (.int .i64 3) := by (first | (with_reducible assumption) | ((try simp (disch := first | omega | (simp only [World.size_alloc, World.size_setCell, World.size_drew, World.heap_drewN] <;> omega) | fail) only [World.cell?_alloc_past, World.cell?_alloc_at, World.frozen?_alloc_past, World.frozen?_alloc_at, World.frozen?_setCell, World.cell?_drew, World.frozen?_drew]) <;> first | (with_reducible assumption) | rfl))
          have c_z1 : (wq.alloc (.cells #[.int .i64 3, .slice r5 tm.length rc5, .slice r6 tc.length rc6] 25)).cell? ⟨wq.heap.size, 1, none⟩ = some (.slice r5 tm.length rc5) := by (first | (with_reducible assumption) | ((try simp (disch := first | omega | (simp only [World.size_alloc, World.size_setCell, World.size_drew, World.heap_drewN] <;> omega) | fail) only [World.cell?_alloc_past, World.cell?_alloc_at, World.frozen?_alloc_past, World.frozen?_alloc_at, World.frozen?_setCell, World.cell?_drew, World.frozen?_drew]) <;> first | (with_reducible assumption) | rfl))
          have c_z2 : (wq.alloc (.cells #[.int .i64 3, .slice r5 tm.length rc5, .slice r6 tc.length rc6] 25)).cell? ⟨wq.heap.size, 2, none⟩ = some (.slice r6 tc.length rc6) := by (first | (with_reducible assumption) | ((try simp (disch := first | omega | (simp only [World.size_alloc, World.size_setCell, World.size_drew, World.heap_drewN] <;> omega) | fail) only [World.cell?_alloc_past, World.cell?_alloc_at, World.frozen?_alloc_past, World.frozen?_alloc_at, World.frozen?_setCell, World.cell?_drew, World.frozen?_drew]) <;> first | (with_reducible assumption) | rfl))
          have z_z : wq.heap.size < (wq.alloc (.cells #[.int .i64 3, .slice r5 tm.length rc5, .slice r6 tc.length rc6] 25)).heap.size := by simp
          have j1 := i1.below hal
          have j2 := i2.below hal
          go_upto_region 12 with (fail)
          generalize wq.alloc (.cells #[.int .i64 3, .slice r5 tm.length rc5, .slice r6 tc.length rc6] 25) = wr at *
          have hz_wr := hal.size
          try simp only [World.size_alloc, World.size_setCell] at hz_wr
          have all_c : wr.cell? ⟨bx, 0, none⟩ = some (.int .i64 3) ∧ wr.cell? ⟨bx, 1, none⟩ = some (.slice ma bm.length mc) ∧ wr.cell? ⟨bx, 2, none⟩ = some (.slice ca bc.length cc) ∧ wr.cell? ⟨bv, 0, none⟩ = some (.int .i64 4) ∧ wr.cell? ⟨bv, 1, none⟩ = some (.slice xav fm.length xcv) ∧ wr.cell? ⟨bv, 2, none⟩ = some (.slice yav fc.length ycv) := by refine ⟨?_, ?_, ?_, ?_, ?_, ?_⟩ <;> (refine (hal.cell ?_).trans ?_ <;> first | (first | (with_reducible assumption) | omega | (simp only [World.size_alloc, World.size_setCell, World.size_drew, World.heap_drewN] <;> omega) | (simp <;> omega)) | (first | (with_reducible assumption) | ((try simp (disch := first | omega | (simp only [World.size_alloc, World.size_setCell, World.size_drew, World.heap_drewN] <;> omega) | fail) only [World.cell?_alloc_past, World.cell?_alloc_at, World.frozen?_alloc_past, World.frozen?_alloc_at, World.frozen?_setCell, World.cell?_drew, World.frozen?_drew]) <;> first | (with_reducible assumption) | rfl)))
          have all_z : bx < wr.heap.size ∧ bv < wr.heap.size := by refine ⟨?_, ?_⟩ <;> (omega)
          clear c_x0 c_x1 c_x2 c_v0 c_v1 c_v2 z_x z_v
          obtain ⟨c_x0, c_x1, c_x2, c_v0, c_v1, c_v2⟩ := all_c
          try clear all_c
          obtain ⟨z_x, z_v⟩ := all_z
          try clear all_z
          have K1 := Lib.hid (fun W (hb : Below wr.heap.size wr W) => j1.below hb)
          have K2 := Lib.hid (fun W (hb : Below wr.heap.size wr W) => j2.below hb)
          have HJwr := Lib.hid hWr
          generalize wq.heap.size = bz at *
          clear hal hWr hWq i1 i2 j1 j2
          refine wp_region_eff 9 (by kernel_rfl) (N := 171) rfl (by kernel_rfl) (by kernel_rfl) (by decide) (fun w' => Below wr.heap.size wr w') (effExt 25 8) (effAt 8 [97, 98, 99, 100, 96, 101, 102, 26] [.is (ixV 3 ma bm.length mc ca bc.length cc), .sl wr.heap.size c, .is (.agg #[.int .i64 0, .slice none 0 0, .slice none 0 0, .slice none 0 0, .slice none 0 0, .int .u64 0]), .ixt wr.heap.size l5 m5 kk5 8, .ixt wr.heap.size l5 m5 kk5 8, .ix wr.heap.size l5 m5 kk5, .is (.int .i64 8), .box wr.heap.size 25 3] (boxX wr.heap.size 26 101)) (effAt_stays boxX_stays) (effAt_dep (n := 8) [26, 101] boxX_dep (by kernel_rfl) (by kernel_rfl) (Nat.le_refl 8) (by decide)) (Below.refl _ _).drew ?steps12 ?fin12
          case steps12 =>
            refine ⟨?o0, ?o1, ?o2, ?o3, ?o4, ?o5, ?o6, ?o7, ?o8, trivial⟩
            case o0 =>
              intro u a w' ev hJ hd K hK
              have e3 : a.tmps.getD 3 undef = .pointer (some ⟨bx, 0, none⟩) := ev 3 (by decide)
              have g0 := (hJ.cell (p := ⟨bx, 0, none⟩) (by dsimp only; omega)).trans c_x0
              have g1 := (hJ.cell (p := ⟨bx, 1, none⟩) (by dsimp only; omega)).trans c_x1
              have g2 := (hJ.cell (p := ⟨bx, 2, none⟩) (by dsimp only; omega)).trans c_x2
              have HK := Lib.hid hK
              clear hK ev hd
              go_simp
              exact HK.out _ _ (fun h => by cases h) hJ ⟨rfl, fun h => absurd h (by decide)⟩ ⟨fun _ => Below.refl _ _, fun h => absurd h (by decide)⟩
            case o1 =>
              intro u a w' ev hJ hd K hK
              have HK := Lib.hid hK
              have HC := Lib.hid (CH.out w')
              have hzJ := hJ.size
              clear hK ev hd
              go_simp
              refine HC.out.mono ?_
              rintro e w'' ⟨v1, v2, v3, v4, rfl, o1, o2, o3, o4, hb⟩
              exact HK.out _ _ (fun h => by cases h) (hJ.trans (hb.mono hzJ)) ⟨⟨_, _, _, _, rfl, owns_base o1 hzJ, owns_base o2 hzJ, owns_base o3 hzJ, owns_base o4 hzJ⟩, fun h => absurd h (by decide)⟩ ⟨fun _ => hb, fun h => absurd h (by decide)⟩
            case o2 =>
              intro u a w' ev hJ hd K hK
              have HK := Lib.hid hK
              clear hK ev hd
              go_simp
              exact HK.out _ _ (fun h => by cases h) hJ ⟨rfl, fun h => absurd h (by decide)⟩ ⟨fun _ => Below.refl _ _, fun h => absurd h (by decide)⟩
            case o3 =>
              intro u a w' ev hJ hd K hK
              obtain ⟨v1, v2, v3, v4, h2, o1, o2, o3, o4⟩ : (FactR.sl wr.heap.size c).holds (u 98) w' := (hd 1 _ (by kernel_rfl) rfl).1
              obtain ⟨q1, k1, rfl, i1, -, -, -, -⟩ := row_of_owns o1
              obtain ⟨q2, k2, rfl, i2, -, -, n2, -⟩ := row_of_owns o2
              obtain ⟨q3, k3, rfl, i3, -, -, n3, -⟩ := row_of_owns o3
              obtain ⟨q4, k4, rfl, i4, -, -, -, -⟩ := row_of_owns o4
              have e97 : a.tmps.getD 97 undef = ixV 3 ma bm.length mc ca bc.length cc := (ev 97 (by decide)).trans (hd 0 _ (by kernel_rfl) rfl).1
              have e98 : a.tmps.getD 98 undef = _ := (ev 98 (by decide)).trans h2
              have e99 : a.tmps.getD 99 undef = .agg #[.int .i64 0, .slice none 0 0, .slice none 0 0, .slice none 0 0, .slice none 0 0, .int .u64 0] := (ev 99 (by decide)).trans (hd 2 _ (by kernel_rfl) rfl).1
              have HK := Lib.hid hK
              have HC := Lib.hid (FTn.out ma ca mc cc ⟨q1, q2, q3, q4, k1, k2, k3, k4⟩ w' (I1.out _ (below_via hJ HJwr.out HJwr.out.size)) (I2.out _ (below_via hJ HJwr.out HJwr.out.size)) ⟨i1, i2, i3, i4, HU.out⟩ n2 n3)
              have hzJ := hJ.size
              clear hK ev hd h2 o1 o2 o3 o4 i1 i2 i3 i4 n2 n3
              dsimp only [slV] at HC
              go_simp
              refine HC.out.mono ?_
              rintro e w'' ⟨v, u', rfl, o1, o2, hb⟩
              exact HK.out _ _ (fun h => by cases h) (hJ.trans (hb.mono hzJ)) ⟨⟨_, _, rfl, owns_base o1 hzJ, owns_base o2 hzJ⟩, fun h => absurd h (by decide)⟩ ⟨fun _ => hb, fun h => absurd h (by decide)⟩
            case o4 =>
              intro u a w' ev hJ hd K hK
              obtain ⟨y1, y2, h2, o1, o2⟩ : (FactR.ixt wr.heap.size l5 m5 kk5 8).holds (u 100) w' := (hd 3 _ (by kernel_rfl) rfl).1
              have e100 : a.tmps.getD 100 undef = _ := (ev 100 (by decide)).trans h2
              have HK := Lib.hid hK
              clear hK ev hd h2
              go_simp
              exact HK.out _ _ (fun h => by cases h) hJ ⟨⟨_, _, rfl, o1, o2⟩, fun h => absurd h (by decide)⟩ ⟨fun _ => Below.refl _ _, fun h => absurd h (by decide)⟩
            case o5 =>
              intro u a w' ev hJ hd K hK
              obtain ⟨y1, y2, h2, o1, o2⟩ : (FactR.ixt wr.heap.size l5 m5 kk5 8).holds (u 96) w' := (hd 4 _ (by kernel_rfl) rfl).1
              have e96 : a.tmps.getD 96 undef = _ := (ev 96 (by decide)).trans h2
              have HK := Lib.hid hK
              clear hK ev hd h2
              go_simp
              exact HK.out _ _ (fun h => by cases h) hJ ⟨⟨_, _, rfl, o1, o2⟩, fun h => absurd h (by decide)⟩ ⟨fun _ => Below.refl _ _, fun h => absurd h (by decide)⟩
            case o6 =>
              intro u a w' ev hJ hd K hK
              obtain ⟨y1, y2, h2, o1, o2⟩ : (FactR.ixt wr.heap.size l5 m5 kk5 8).holds (u 96) w' := (hd 4 _ (by kernel_rfl) rfl).1
              have e96 : a.tmps.getD 96 undef = _ := (ev 96 (by decide)).trans h2
              have HK := Lib.hid hK
              clear hK ev hd h2
              go_simp
              exact HK.out _ _ (fun h => by cases h) hJ ⟨rfl, fun h => absurd h (by decide)⟩ ⟨fun _ => Below.refl _ _, fun h => absurd h (by decide)⟩
            case o7 =>
              intro u a w' ev hJ hd K hK
              have HK := Lib.hid hK
              have hzJ := hJ.size
              have HJ := Lib.hid hJ
              clear hK ev hd hJ
              go_simp
              exact HK.out _ _ (fun h => by cases h) (HJ.out.alloc hzJ _) ⟨⟨_, _, rfl, hzJ, alloc_new _ _, rfl⟩, fun h => absurd h (by decide)⟩ ⟨fun _ => (Below.refl _ _).alloc (Nat.le_refl _) _, fun h => absurd h (by decide)⟩
            case o8 =>
              intro u a w' ev hJ hd K hK
              obtain ⟨b6, cs6, h6, hz6, hh6, hn6⟩ : (FactR.box wr.heap.size 25 3).holds (u 26) w' := (hd 7 _ (by kernel_rfl) rfl).1
              obtain ⟨x1, y1, h4, o1, o2⟩ : (FactR.ix wr.heap.size l5 m5 kk5).holds (u 101) w' := (hd 5 _ (by kernel_rfl) rfl).1
              obtain ⟨d0, d1, d2, k0, k1, k2, f0, f1, f2⟩ := box_three hh6 hn6
              have e6 : a.tmps.getD 26 undef = _ := (ev 26 (by decide)).trans h6
              have e4 : a.tmps.getD 101 undef = _ := (ev 101 (by decide)).trans h4
              obtain ⟨xa, xc, rfl, -⟩ := owns_news o1
              obtain ⟨ya, yc, rfl, -⟩ := owns_news o2
              have HK := Lib.hid hK
              have HJ := Lib.hid hJ
              have HS' := Lib.hid (three_set (w2 := w') (b := b6) (x := .int .i64 l5) (y := .slice xa m5.length xc) (z := .slice ya kk5.length yc) k0 k1 k2)
              have HT := Lib.hid (three_stT hh6 (.int .i64 l5) (.slice xa m5.length xc) (.slice ya kk5.length yc))
              have HH := Lib.hid (And.intro h6 h4)
              clear hK ev hd hJ o1 o2 h6 h4 hh6
              go_simp
              exact HK.out _ _ (fun _ => rfl) (((HJ.out.setCell (by dsimp only; omega) _).setCell (by dsimp only; omega) _).setCell (by dsimp only; omega) _) ⟨trivial, fun _ => ⟨b6, _, _, _, HH.out.1, hz6, HH.out.2, HS'.out⟩⟩ ⟨fun h => absurd rfl h, fun _ => HT.out⟩
          case fin12 =>
            intro u ws hJ hG
            obtain ⟨x1, y1, h4, o1, o2⟩ : (FactR.ix wr.heap.size l5 m5 kk5).holds (u 101) ws := (hG 5 _ rfl).1
            have h5 : u 102 = .int .i64 8 := (hG 6 _ rfl).1
            obtain ⟨bn, c0, c1, c2, h6, hz6, h46, hs⟩ := (hG 8 _ rfl).2 rfl
            obtain ⟨xan, xcn, rfl, -⟩ := owns_news o1
            obtain ⟨yan, ycn, rfl, -⟩ := owns_news o2
            rw [h4] at h46
            cases h46
            have hlb : bn < ws.heap.size := World.block_lt_of_cell? _ _ hs.1
            have hz_ws := hJ.size
            try simp only [World.size_alloc, World.size_setCell] at hz_ws
            have all_c : ws.cell? ⟨bx, 0, none⟩ = some (.int .i64 3) ∧ ws.cell? ⟨bx, 1, none⟩ = some (.slice ma bm.length mc) ∧ ws.cell? ⟨bx, 2, none⟩ = some (.slice ca bc.length cc) ∧ ws.cell? ⟨bv, 0, none⟩ = some (.int .i64 4) ∧ ws.cell? ⟨bv, 1, none⟩ = some (.slice xav fm.length xcv) ∧ ws.cell? ⟨bv, 2, none⟩ = some (.slice yav fc.length ycv) ∧ ws.cell? ⟨bz, 0, none⟩ = some (.int .i64 3) ∧ ws.cell? ⟨bz, 1, none⟩ = some (.slice r5 tm.length rc5) ∧ ws.cell? ⟨bz, 2, none⟩ = some (.slice r6 tc.length rc6) := by refine ⟨?_, ?_, ?_, ?_, ?_, ?_, ?_, ?_, ?_⟩ <;> (refine (hJ.cell ?_).trans ?_ <;> first | (first | (with_reducible assumption) | omega | (simp only [World.size_alloc, World.size_setCell, World.size_drew, World.heap_drewN] <;> omega) | (simp <;> omega)) | (first | (with_reducible assumption) | ((try simp (disch := first | omega | (simp only [World.size_alloc, World.size_setCell, World.size_drew, World.heap_drewN] <;> omega) | fail) only [World.cell?_alloc_past, World.cell?_alloc_at, World.frozen?_alloc_past, World.frozen?_alloc_at, World.frozen?_setCell, World.cell?_drew, World.frozen?_drew]) <;> first | (with_reducible assumption) | rfl)))
            have all_z : bx < ws.heap.size ∧ bv < ws.heap.size ∧ bz < ws.heap.size := by refine ⟨?_, ?_, ?_⟩ <;> (omega)
            clear c_x0 c_x1 c_x2 c_v0 c_v1 c_v2 z_x z_v
            obtain ⟨c_x0, c_x1, c_x2, c_v0, c_v1, c_v2, c_z0, c_z1, c_z2⟩ := all_c
            try clear all_c
            obtain ⟨z_x, z_v, z_z⟩ := all_z
            try clear all_z
            have hrs : Below wr.heap.size wr ws := hJ
            have HJws : Hid (Below wz.heap.size wz ws) := Lib.hid (below_via hJ HJwr.out HJwr.out.size)
            simp only [mixFrame, mixL, dstsOf, List.take_succ_cons, List.take_zero, List.filterMap_cons, List.filterMap_nil, List.contains_cons, List.contains_nil, Nat.reduceBEq, Bool.or_false, Bool.false_or, Bool.or_true, Bool.true_or, if_true, if_false, Bool.false_eq_true, Nat.reduceAdd, Nat.zero_add, List.drop_succ_cons, List.drop_zero, h4, h5, h6]
            clear h4 h5 h6 hG hJ
            clear o1 o2 hs
            have hzws := HJws.out.size
            go_wp2_with fail
            refine (AL.out _).mono ?_
            rintro e wt ⟨rfl, hbt⟩
            have hz_wt := hbt.size
            try simp only [World.size_alloc, World.size_setCell] at hz_wt
            have all_c : wt.cell? ⟨bv, 0, none⟩ = some (.int .i64 4) ∧ wt.cell? ⟨bv, 1, none⟩ = some (.slice xav fm.length xcv) ∧ wt.cell? ⟨bv, 2, none⟩ = some (.slice yav fc.length ycv) ∧ wt.cell? ⟨bz, 0, none⟩ = some (.int .i64 3) ∧ wt.cell? ⟨bz, 1, none⟩ = some (.slice r5 tm.length rc5) ∧ wt.cell? ⟨bz, 2, none⟩ = some (.slice r6 tc.length rc6) := by refine ⟨?_, ?_, ?_, ?_, ?_, ?_⟩ <;> (refine (hbt.cell ?_).trans ?_ <;> first | (first | (with_reducible assumption) | omega | (simp only [World.size_alloc, World.size_setCell, World.size_drew, World.heap_drewN] <;> omega) | (simp <;> omega)) | (first | (with_reducible assumption) | ((try simp (disch := first | omega | (simp only [World.size_alloc, World.size_setCell, World.size_drew, World.heap_drewN] <;> omega) | fail) only [World.cell?_alloc_past, World.cell?_alloc_at, World.frozen?_alloc_past, World.frozen?_alloc_at, World.frozen?_setCell, World.cell?_drew, World.frozen?_drew]) <;> first | (with_reducible assumption) | rfl)))
            have all_z : bv < wt.heap.size ∧ bz < wt.heap.size := by refine ⟨?_, ?_⟩ <;> (omega)
            clear c_v0 c_v1 c_v2 c_z0 c_z1 c_z2 z_v z_z
            obtain ⟨c_v0, c_v1, c_v2, c_z0, c_z1, c_z2⟩ := all_c
            try clear all_c
            obtain ⟨z_v, z_z⟩ := all_z
            try clear all_z
            have TLz := Lib.hid (TL.out r5 r6 rc5 rc6 wt (K1.out _ (below_via hbt hrs hrs.size)) (K2.out _ (below_via hbt hrs hrs.size)))
            dsimp only [ixV] at TLz
            go_wp2_with fail
            refine (TLz.out).mono ?_
            rintro e wu ⟨rfl, hbu⟩
            have hz_wu := hbu.size
            try simp only [World.size_alloc, World.size_setCell] at hz_wu
            have all_c : wu.cell? ⟨bv, 0, none⟩ = some (.int .i64 4) ∧ wu.cell? ⟨bv, 1, none⟩ = some (.slice xav fm.length xcv) ∧ wu.cell? ⟨bv, 2, none⟩ = some (.slice yav fc.length ycv) ∧ wu.cell? ⟨bz, 0, none⟩ = some (.int .i64 3) ∧ wu.cell? ⟨bz, 1, none⟩ = some (.slice r5 tm.length rc5) ∧ wu.cell? ⟨bz, 2, none⟩ = some (.slice r6 tc.length rc6) := by refine ⟨?_, ?_, ?_, ?_, ?_, ?_⟩ <;> (refine (hbu.cell ?_).trans ?_ <;> first | (first | (with_reducible assumption) | omega | (simp only [World.size_alloc, World.size_setCell, World.size_drew, World.heap_drewN] <;> omega) | (simp <;> omega)) | (first | (with_reducible assumption) | ((try simp (disch := first | omega | (simp only [World.size_alloc, World.size_setCell, World.size_drew, World.heap_drewN] <;> omega) | fail) only [World.cell?_alloc_past, World.cell?_alloc_at, World.frozen?_alloc_past, World.frozen?_alloc_at, World.frozen?_setCell, World.cell?_drew, World.frozen?_drew]) <;> first | (with_reducible assumption) | rfl)))
            have all_z : bv < wu.heap.size ∧ bz < wu.heap.size := by refine ⟨?_, ?_⟩ <;> (omega)
            clear c_v0 c_v1 c_v2 c_z0 c_z1 c_z2 z_v z_z
            obtain ⟨c_v0, c_v1, c_v2, c_z0, c_z1, c_z2⟩ := all_c
            try clear all_c
            obtain ⟨z_v, z_z⟩ := all_z
            try clear all_z
            go_wp2
            go_ret
            exact ⟨rfl, below_via hbu (below_via hbt (below_via HJws.out HBz.out HBz.out.size) (by have := HBz.out.size; omega)) (by have := HBz.out.size; omega)⟩

theorem MendNames_walk (w : World) : Calls Try.prog 7 #[] w fun e w' => e = .returned (.bool true) ∧ Below w.heap.size w w' := by
  have hL := chC_lev
  have hl1 : chC.ws.length ≤ 1000000000000 ∧ chC.ks.length ≤ 1000000000000 := by rw [chC_eq]; decide
  have hl2 : chT.ws.length ≤ 1000000000000 ∧ chT.ks.length ≤ 1000000000000 := by rw [chT_eq]; decide
  have hl3 : wdC.ws.length ≤ 1000000000000 ∧ wdC.ks.length ≤ 1000000000000 := by decide
  have hl4 : noC.ws.length ≤ 1000000000000 ∧ noC.ks.length ≤ 1000000000000 := by decide
  have hb := bld_len chC
  refine MN_in chC wdC chT (bldM chC) (bldC chC) (bldM chT) (bldC chT) (bldM wdC) (bldC wdC) _ _ _ _ _ _ _ _ (bldM noC) (bldC noC) _ _ _ _ (bldL noC) w (Lib.hid chC_u) (Lib.hid wdC_u) (Lib.hid chT_u) (Lib.hid alive20_ok) (Lib.hid chapter_ok) (Lib.hid turned_ok)
    (Lib.hid fun W => slNew_core W 4 32 1 8 (by decide) (by decide) (by decide) (by decide) (by decide) (by decide) (by decide) (Lib.hid fun W' => fits_ok 4 32 W'))
    (Lib.hid fun a W h => by have := BuildIx_ok chC a hl1.1 hl1.2 W h; rw [chC_lev, chC_bld] at this; exact this)
    (Lib.hid fun a b W h h' q1 q2 q3 q4 => by have := Turned_ok chC wdC a b hl1.1 hl1.2 hl3.1 hl3.2 W h h' q1 q2 q3 q4; rw [tu_wd] at this; exact this)
    (Lib.hid fun a W h q1 q2 => by have := Turned_ok chC noC a ⟨none, none, none, none, 0, 0, 0, 0⟩ hl1.1 hl1.2 hl4.1 hl4.2 W h noC_in q1 q2 (Nat.le_refl _) (Nat.le_refl _); rw [tu_no] at this; exact this)
    (Lib.hid fun a b W h h' q1 q2 q3 q4 => by have := Turned_ok chC chC a b hl1.1 hl1.2 hl1.1 hl1.2 W h h' q1 q2 q3 q4; rw [tu_cc] at this; exact this)
    (Lib.hid fun xa xb xc xd a W h1 h2 h => by have := Window_ok 3 xa xb xc xd (bldM chC) (bldC chC) wdC a 0 1 hl3.1 hl3.2 W h h1 h2 hb.1 hb.2; rw [wd_a] at this; exact this)
    (Lib.hid fun xa xb xc xd a W h1 h2 h => by have := Window_ok 3 xa xb xc xd (bldM chC) (bldC chC) chC a 2 1 hl1.1 hl1.2 W h h1 h2 hb.1 hb.2; rw [wd_b] at this; exact this)
    (Lib.hid fun xa xb xc xd a W h1 h2 h => by have := Window_ok 3 xa xb xc xd (bldM chC) (bldC chC) chC a 0 5 hl1.1 hl1.2 W h h1 h2 hb.1 hb.2; rw [wd_c] at this; exact this)
    (Lib.hid fun a W h => by have := Window_ok 0 none none 0 0 [] [] chC a 0 0 hl1.1 hl1.2 W h nil_in nil_in (by decide) (by decide); rw [wd_n] at this; exact this)
    (Lib.hid fun xa xb xc xd a b W h1 h2 h h' q1 q2 q3 q4 => by have := Fit_ok 3 xa xb xc xd (bldM chC) (bldC chC) chC wdC a b hl1.1 hl1.2 hl3.1 hl3.2 hb.1 hb.2 W h1 h2 h h' q1 q2 q3 q4; rw [wdC_bld.1, wdC_bld.2] at this; exact this)
    (Lib.hid fun a b W h h' q1 q2 q3 q4 => by have := Fit_ok 0 none none 0 0 [] [] chC chT a b hl1.1 hl1.2 hl2.1 hl2.2 (by decide) (by decide) W nil_in nil_in h h' q1 q2 q3 q4; rw [chT_bld, chT_lev] at this; exact this)
    (Lib.hid fun xa xb xc xd a W h1 h2 h q1 q2 => by have := Fit_ok 3 xa xb xc xd (bldM chC) (bldC chC) chC noC a ⟨none, none, none, none, 0, 0, 0, 0⟩ hl1.1 hl1.2 hl4.1 hl4.2 hb.1 hb.2 W h1 h2 h noC_in q1 q2 (Nat.le_refl _) (Nat.le_refl _); rw [noC_bld] at this; exact this)
    (Lib.hid fun xa xb xc xd W h h' => tells20_ok 3 1 xa xb xc xd (bldM chT) (bldC chT) 12 6 th_1.1 th_1.2.1 th_1.2.2 W h h')
end Go.Proofs.Ytbmibaafkgleeaa

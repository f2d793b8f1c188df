/- Lists of handles copied. -/
import Derived.Test.YtjhpblejlchhjaaGreatOmBs
import Derived.Test.YtjhpblejlchhjaaGreatInvL
import Derived.Test.YtjhpblejlchhjaaGreatIdxFacts
namespace Go.Proofs.YtjhpblejlchhjaaGreat
set_option maxRecDepth 100000
set_option maxHeartbeats 4000000
open Go.RowKit Go.Shelf
attribute [local go_sem] Oper.semAt_some
set_option linter.unusedVariables false
set_option linter.unusedSimpArgs false

def setV : List Value → Nat → List Value → List Value
  | vs, _, [] => vs
  | vs, i, v :: l => setV (vs.set i v) (i + 1) l
theorem setCs_list {b : Nat} : ∀ (l : List Value) (W : World) (i : Nat) (vs : List Value), (∀ j v, vs[j]? = some v → W.cell? ⟨b, j, none⟩ = some v) → ∀ j v, (setV vs i l)[j]? = some v → (setCs W b i l).cell? ⟨b, j, none⟩ = some v
  | [], W, i, vs, hc, j, v, h => hc j v h
  | x :: l, W, i, vs, hc, j, v, h => by
    refine setCs_list l (W.setCell ⟨b, i, none⟩ x) (i + 1) (vs.set i x) (fun k u hk => ?_) j v h
    by_cases e : i = k
    · subst e
      rw [List.getElem?_set] at hk
      simp only [if_true] at hk
      split at hk
      · rename_i hi
        cases hk
        exact World.cell?_setCell_same _ _ _ (hc i _ (List.getElem?_eq_getElem hi))
      · cases hk
    · rw [List.getElem?_set_ne e] at hk
      rw [World.cell?_setCell_other _ _ _ _ (by intro q; simp at q <;> omega)]
      exact hc k u hk
def FreshOm (w : World) (c : Cfg) (s : SlC) (gs ps : List Int) (mv : Int) (e : Ending) (w' : World) : Prop :=
  ∃ v1 v2 v3 v4 v5 v6, e = .returned (.agg #[.int .u8 c.tag, .int .i64 c.most, .int .i64 c.seg, .int .i64 c.least, .int .i64 c.den, .int .i64 c.ll, .int .i64 c.rl, .int .i64 c.rh, .int .i64 c.lh, .int .i64 s.seg, v1, v2, v3, v4, .int .u64 s.laid, v5, v6, .int .u64 mv]) ∧ w'.ownsRow w.heap.size 27 1 v1 s.ws.length (s.ws.map (Value.int .u64)) ∧ w'.ownsRow w.heap.size 2 1 v2 s.ks.length (s.ks.map (Value.int .i64)) ∧ w'.ownsRow w.heap.size 2 1 v3 s.vs.length (s.vs.map (Value.int .i64)) ∧ w'.ownsRow w.heap.size 3 1 v4 s.cs.length (s.cs.map (Value.int .i64)) ∧ w'.ownsRow w.heap.size 3 1 v5 gs.length (gs.map (Value.int .i64)) ∧ w'.ownsRow w.heap.size 3 1 v6 ps.length (ps.map (Value.int .i64)) ∧ Below w.heap.size w w'
def FactR.tab (base : Nat) (gs ps : List Int) : FactR RB :=
  ⟨fun v w => ∃ x y, v = .agg #[x, y] ∧ w.ownsRow base 3 1 x gs.length (gs.map (Value.int .i64)) ∧ w.ownsRow base 3 1 y ps.length (ps.map (Value.int .i64)), fun _ _ _ h ⟨x, y, e, h1, h2⟩ => ⟨x, y, e, owns_below h1 h, owns_below h2 h⟩⟩
def FreshOm2 (w : World) (c : Cfg) (s : SlC) (gs ps : List Int) (mv : Int) (x : Value) (e : Ending) (w' : World) : Prop :=
  ∃ v1 v2 v3 v4 v5 v6, e = .returned (.tuple #[.agg #[.int .u8 c.tag, .int .i64 c.most, .int .i64 c.seg, .int .i64 c.least, .int .i64 c.den, .int .i64 c.ll, .int .i64 c.rl, .int .i64 c.rh, .int .i64 c.lh, .int .i64 s.seg, v1, v2, v3, v4, .int .u64 s.laid, v5, v6, .int .u64 mv], x]) ∧ w'.ownsRow w.heap.size 27 1 v1 s.ws.length (s.ws.map (Value.int .u64)) ∧ w'.ownsRow w.heap.size 2 1 v2 s.ks.length (s.ks.map (Value.int .i64)) ∧ w'.ownsRow w.heap.size 2 1 v3 s.vs.length (s.vs.map (Value.int .i64)) ∧ w'.ownsRow w.heap.size 3 1 v4 s.cs.length (s.cs.map (Value.int .i64)) ∧ w'.ownsRow w.heap.size 3 1 v5 gs.length (gs.map (Value.int .i64)) ∧ w'.ownsRow w.heap.size 3 1 v6 ps.length (ps.map (Value.int .i64)) ∧ Below w.heap.size w w'
theorem omTwin_ok (c : Cfg) (s : SlC) (wa ka va ca : Option Addr) (wc kc vc cc : Nat) (gs ps : List Int) (mv : Int) (ga pa : Option Addr) (gc pc : Nat) (w : World) (TW : Hid (∀ W, Below w.heap.size w W → Calls Tryz.prog 24 #[.agg #[.int .i64 s.seg, .slice wa s.ws.length wc, .slice ka s.ks.length kc, .slice va s.vs.length vc, .slice ca s.cs.length cc, .int .u64 s.laid]] W (FreshSl W s))) (HT : Hid (∀ W, Below w.heap.size w W → Calls Tryz.prog 25 #[.agg #[.slice ga gs.length gc, .slice pa ps.length pc]] W (FreshTab W gs ps))) :
    Calls Tryz.prog 6 #[.agg #[.int .u8 c.tag, .int .i64 c.most, .int .i64 c.seg, .int .i64 c.least, .int .i64 c.den, .int .i64 c.ll, .int .i64 c.rl, .int .i64 c.rh, .int .i64 c.lh, .int .i64 s.seg, .slice wa s.ws.length wc, .slice ka s.ks.length kc, .slice va s.vs.length vc, .slice ca s.cs.length cc, .int .u64 s.laid, .slice ga gs.length gc, .slice pa ps.length pc, .int .u64 mv]] w (FreshOm w c s gs ps mv) := by
  go_enter Tryz.func6, Tryz.ntmps6
  go_upto_region 1 with (fail)
  generalize hwz : ((w.alloc (.cells #[.int .u8 c.tag, .int .i64 c.most, .int .i64 c.seg, .int .i64 c.least, .int .i64 c.den, .int .i64 c.ll, .int .i64 c.rl, .int .i64 c.rh, .int .i64 c.lh, .int .i64 s.seg, .slice wa s.ws.length wc, .slice ka s.ks.length kc, .slice va s.vs.length vc, .slice ca s.cs.length cc, .int .u64 s.laid, .slice ga gs.length gc, .slice pa ps.length pc, .int .u64 mv] 33)).alloc (.cells #[.int .u8 0, .int .i64 0, .int .i64 0, .int .i64 0, .int .i64 0, .int .i64 0, .int .i64 0, .int .i64 0, .int .i64 0, .int .i64 0, .slice none 0 0, .slice none 0 0, .slice none 0 0, .slice none 0 0, .int .u64 0, .slice none 0 0, .slice none 0 0, .int .u64 0] 33)) = wz
  have hh := ec18 hwz (au18 (al18 (b := w.heap.size) (by simp)))
  obtain ⟨c_t0, c_t1, c_t2, c_t3, c_t4, c_t5, c_t6, c_t7, c_t8, c_t9, c_t10, c_t11, c_t12, c_t13, c_t14, c_t15, c_t16, c_t17⟩ := hh
  have hh := ef18 hwz (auf18 (alz (b := w.heap.size) (by simp)) (alf18 (b := w.heap.size) (by simp)))
  obtain ⟨f_t0, f_t1, f_t2, f_t3, f_t4, f_t5, f_t6, f_t7, f_t8, f_t9, f_t10, f_t11, f_t12, f_t13, f_t14, f_t15, f_t16, f_t17⟩ := hh
  have z_t := elt hwz (auz (alz (b := w.heap.size) (by simp)))
  have hh := ec18 hwz (al18 (b := w.heap.size + 1) (by simp))
  obtain ⟨c_r0, c_r1, c_r2, c_r3, c_r4, c_r5, c_r6, c_r7, c_r8, c_r9, c_r10, c_r11, c_r12, c_r13, c_r14, c_r15, c_r16, c_r17⟩ := hh
  have hh := ef18 hwz (alf18 (b := w.heap.size + 1) (by simp))
  obtain ⟨f_r0, f_r1, f_r2, f_r3, f_r4, f_r5, f_r6, f_r7, f_r8, f_r9, f_r10, f_r11, f_r12, f_r13, f_r14, f_r15, f_r16, f_r17⟩ := hh
  have z_r := elt hwz (alz (b := w.heap.size + 1) (by simp))
  have HS : Hid (Below w.heap.size w wz) := by rw [← hwz]; exact Lib.hid (((Below.refl _ _).alloc (Nat.le_refl _) _).alloc (by simp) _)
  have hzz : w.heap.size + 2 = wz.heap.size := by rw [← hwz]; simp
  clear hwz
  refine wp_region_late 7 (by kernel_rfl) (N := 12) rfl (by kernel_rfl) (by kernel_rfl) (by decide) (fun w' => Below wz.heap.size wz w') RB (factRAt [.is (.pointer (some ⟨w.heap.size, 9, none⟩)), .is (.agg #[.int .i64 s.seg, .slice wa s.ws.length wc, .slice ka s.ks.length kc, .slice va s.vs.length vc, .slice ca s.cs.length cc, .int .u64 s.laid]), .sl wz.heap.size s, .is (.pointer (some ⟨w.heap.size, 15, none⟩)), .is (.agg #[.slice ga gs.length gc, .slice pa ps.length pc]), .tab wz.heap.size gs ps, .is (.pointer (some ⟨w.heap.size, 9, none⟩))]) (factRAt_stays _) (Below.refl _ _).drew ?steps ?fin
  case steps =>
    refine ⟨?o0, ?o1, ?o2, ?o3, ?o4, ?o5, ?o6, trivial⟩
    case o0 =>
      intro u a w' ev hJ hd K hK
      have e1 : a.tmps.getD 1 undef = .pointer (some ⟨w.heap.size, 0, none⟩) := ev 1 (by decide)
      have HK := Lib.hid hK
      clear hK ev hd
      go_simp
      exact HK.out _ _ (fun h => by cases h) hJ rfl (Below.refl _ _)
    case o1 =>
      intro u a w' ev hJ hd K hK
      have e3 : a.tmps.getD 3 undef = .pointer (some ⟨w.heap.size, 9, none⟩) := (ev 3 (by decide)).trans (hd 0 _ (by kernel_rfl) rfl)
      have g9 := (hJ.cell (p := ⟨w.heap.size, 9, none⟩) (by dsimp only; omega)).trans c_t9
      have g10 := (hJ.cell (p := ⟨w.heap.size, 10, none⟩) (by dsimp only; omega)).trans c_t10
      have g11 := (hJ.cell (p := ⟨w.heap.size, 11, none⟩) (by dsimp only; omega)).trans c_t11
      have g12 := (hJ.cell (p := ⟨w.heap.size, 12, none⟩) (by dsimp only; omega)).trans c_t12
      have g13 := (hJ.cell (p := ⟨w.heap.size, 13, none⟩) (by dsimp only; omega)).trans c_t13
      have g14 := (hJ.cell (p := ⟨w.heap.size, 14, none⟩) (by dsimp only; omega)).trans c_t14
      have HK := Lib.hid hK
      clear hK ev hd
      go_simp
      exact HK.out _ _ (fun h => by cases h) hJ rfl (Below.refl _ _)
    case o2 =>
      intro u a w' ev hJ hd K hK
      have e4 : a.tmps.getD 4 undef = .agg #[.int .i64 s.seg, .slice wa s.ws.length wc, .slice ka s.ks.length kc, .slice va s.vs.length vc, .slice ca s.cs.length cc, .int .u64 s.laid] := (ev 4 (by decide)).trans (hd 1 _ (by kernel_rfl) rfl)
      have HK := Lib.hid hK
      have HC := Lib.hid (TW.out w' (below_via hJ HS.out HS.out.size))
      have hzJ := hJ.size
      have HJ := Lib.hid hJ
      clear hK ev hd hJ
      go_simp
      refine HC.out.mono ?_
      rintro e w'' ⟨v1, v2, v3, v4, rfl, o1, o2, o3, o4, hb⟩
      exact HK.out _ _ (fun h => by cases h) (HJ.out.trans (hb.mono hzJ)) ⟨v1, v2, v3, v4, rfl, owns_base o1 hzJ, owns_base o2 hzJ, owns_base o3 hzJ, owns_base o4 hzJ⟩ hb
    case o3 =>
      intro u a w' ev hJ hd K hK
      have e1 : a.tmps.getD 1 undef = .pointer (some ⟨w.heap.size, 0, none⟩) := ev 1 (by decide)
      have HK := Lib.hid hK
      clear hK ev hd
      go_simp
      exact HK.out _ _ (fun h => by cases h) hJ rfl (Below.refl _ _)
    case o4 =>
      intro u a w' ev hJ hd K hK
      have e6 : a.tmps.getD 6 undef = .pointer (some ⟨w.heap.size, 15, none⟩) := (ev 6 (by decide)).trans (hd 3 _ (by kernel_rfl) rfl)
      have g15 := (hJ.cell (p := ⟨w.heap.size, 15, none⟩) (by dsimp only; omega)).trans c_t15
      have g16 := (hJ.cell (p := ⟨w.heap.size, 16, none⟩) (by dsimp only; omega)).trans c_t16
      have HK := Lib.hid hK
      clear hK ev hd
      go_simp
      exact HK.out _ _ (fun h => by cases h) hJ rfl (Below.refl _ _)
    case o5 =>
      intro u a w' ev hJ hd K hK
      have e7 : a.tmps.getD 7 undef = .agg #[.slice ga gs.length gc, .slice pa ps.length pc] := (ev 7 (by decide)).trans (hd 4 _ (by kernel_rfl) rfl)
      have HK := Lib.hid hK
      have HC := Lib.hid (HT.out w' (below_via hJ HS.out HS.out.size))
      have hzJ := hJ.size
      have HJ := Lib.hid hJ
      clear hK ev hd hJ
      go_simp
      refine HC.out.mono ?_
      rintro e w'' ⟨v1, v2, rfl, o1, o2, hne, hb⟩
      exact HK.out _ _ (fun h => by cases h) (HJ.out.trans (hb.mono hzJ)) ⟨v1, v2, rfl, owns_base o1 hzJ, owns_base o2 hzJ⟩ hb
    case o6 =>
      intro u a w' ev hJ hd K hK
      have e1 : a.tmps.getD 1 undef = .pointer (some ⟨w.heap.size, 0, none⟩) := ev 1 (by decide)
      have HK := Lib.hid hK
      clear hK ev hd
      go_simp
      exact HK.out _ _ (fun h => by cases h) hJ rfl (Below.refl _ _)
  case fin =>
    intro u w2 hJ hG
    have h9 : u 9 = .pointer (some ⟨w.heap.size, 9, none⟩) := hG 6 _ rfl
    obtain ⟨v1, v2, v3, v4, h5, p1, p2, p3, p4⟩ : (FactR.sl wz.heap.size s).holds (u 5) w2 := hG 2 _ rfl
    obtain ⟨v5, v6, h8, p5, p6⟩ : (FactR.tab wz.heap.size gs ps).holds (u 8) w2 := hG 5 _ rfl
    obtain ⟨a1, k1, rfl, -⟩ := owns_news p1
    obtain ⟨a2, k2, rfl, -⟩ := owns_news p2
    obtain ⟨a3, k3, rfl, -⟩ := owns_news p3
    obtain ⟨a4, k4, rfl, -⟩ := owns_news p4
    obtain ⟨a5, k5, rfl, -⟩ := owns_news p5
    obtain ⟨a6, k6, rfl, -⟩ := owns_news p6
    have hz_w2 := hJ.size
    try simp only [World.size_alloc, World.size_setCell] at hz_w2
    have hh := bc18 hJ ⟨c_t0, c_t1, c_t2, c_t3, c_t4, c_t5, c_t6, c_t7, c_t8, c_t9, c_t10, c_t11, c_t12, c_t13, c_t14, c_t15, c_t16, c_t17⟩
    clear c_t0 c_t1 c_t2 c_t3 c_t4 c_t5 c_t6 c_t7 c_t8 c_t9 c_t10 c_t11 c_t12 c_t13 c_t14 c_t15 c_t16 c_t17
    obtain ⟨c_t0, c_t1, c_t2, c_t3, c_t4, c_t5, c_t6, c_t7, c_t8, c_t9, c_t10, c_t11, c_t12, c_t13, c_t14, c_t15, c_t16, c_t17⟩ := hh
    have hh := bf18 hJ z_t ⟨f_t0, f_t1, f_t2, f_t3, f_t4, f_t5, f_t6, f_t7, f_t8, f_t9, f_t10, f_t11, f_t12, f_t13, f_t14, f_t15, f_t16, f_t17⟩
    clear f_t0 f_t1 f_t2 f_t3 f_t4 f_t5 f_t6 f_t7 f_t8 f_t9 f_t10 f_t11 f_t12 f_t13 f_t14 f_t15 f_t16 f_t17
    obtain ⟨f_t0, f_t1, f_t2, f_t3, f_t4, f_t5, f_t6, f_t7, f_t8, f_t9, f_t10, f_t11, f_t12, f_t13, f_t14, f_t15, f_t16, f_t17⟩ := hh
    replace z_t := blt hJ z_t
    have hh := bc18 hJ ⟨c_r0, c_r1, c_r2, c_r3, c_r4, c_r5, c_r6, c_r7, c_r8, c_r9, c_r10, c_r11, c_r12, c_r13, c_r14, c_r15, c_r16, c_r17⟩
    clear c_r0 c_r1 c_r2 c_r3 c_r4 c_r5 c_r6 c_r7 c_r8 c_r9 c_r10 c_r11 c_r12 c_r13 c_r14 c_r15 c_r16 c_r17
    obtain ⟨c_r0, c_r1, c_r2, c_r3, c_r4, c_r5, c_r6, c_r7, c_r8, c_r9, c_r10, c_r11, c_r12, c_r13, c_r14, c_r15, c_r16, c_r17⟩ := hh
    have hh := bf18 hJ z_r ⟨f_r0, f_r1, f_r2, f_r3, f_r4, f_r5, f_r6, f_r7, f_r8, f_r9, f_r10, f_r11, f_r12, f_r13, f_r14, f_r15, f_r16, f_r17⟩
    clear f_r0 f_r1 f_r2 f_r3 f_r4 f_r5 f_r6 f_r7 f_r8 f_r9 f_r10 f_r11 f_r12 f_r13 f_r14 f_r15 f_r16 f_r17
    obtain ⟨f_r0, f_r1, f_r2, f_r3, f_r4, f_r5, f_r6, f_r7, f_r8, f_r9, f_r10, f_r11, f_r12, f_r13, f_r14, f_r15, f_r16, f_r17⟩ := hh
    replace z_r := blt hJ z_r
    have hB2 : Below w.heap.size w w2 := below_via hJ HS.out (by omega)
    have HP := Lib.hid (And.intro p1 (And.intro p2 (And.intro p3 (And.intro p4 (And.intro p5 p6)))))
    have HB2 := Lib.hid hB2
    clear hG hJ p1 p2 p3 p4 p5 p6 hB2
    simp only [mixFrame, mixL, dstsOf, List.take_succ_cons, List.take_zero, List.filterMap_cons, List.filterMap_nil, List.contains_cons, List.contains_nil, Nat.reduceBEq, Bool.or_false, Bool.false_or, Bool.or_true, Bool.true_or, if_true, if_false, Bool.false_eq_true, Nat.reduceAdd, Nat.zero_add, List.drop_succ_cons, List.drop_zero, h9, h5, h8]
    go_upto_region 2 with (fail)
    have HL := Lib.hid (setCs_list (b := w.heap.size) [.int .i64 s.seg, .slice a1 s.ws.length k1, .slice a2 s.ks.length k2, .slice a3 s.vs.length k3, .slice a4 s.cs.length k4, .int .u64 s.laid, .slice a5 gs.length k5, .slice a6 ps.length k6] w2 9 [.int .u8 c.tag, .int .i64 c.most, .int .i64 c.seg, .int .i64 c.least, .int .i64 c.den, .int .i64 c.ll, .int .i64 c.rl, .int .i64 c.rh, .int .i64 c.lh, .int .i64 s.seg, .slice wa s.ws.length wc, .slice ka s.ks.length kc, .slice va s.vs.length vc, .slice ca s.cs.length cc, .int .u64 s.laid, .slice ga gs.length gc, .slice pa ps.length pc, .int .u64 mv] (list18 ⟨c_t0, c_t1, c_t2, c_t3, c_t4, c_t5, c_t6, c_t7, c_t8, c_t9, c_t10, c_t11, c_t12, c_t13, c_t14, c_t15, c_t16, c_t17⟩))
    have HR := Lib.hid (some18 ⟨c_r0, c_r1, c_r2, c_r3, c_r4, c_r5, c_r6, c_r7, c_r8, c_r9, c_r10, c_r11, c_r12, c_r13, c_r14, c_r15, c_r16, c_r17⟩)
    have HR2 : Hid (∀ j, j < 18 → ∃ u, (setCs w2 w.heap.size 9 [.int .i64 s.seg, .slice a1 s.ws.length k1, .slice a2 s.ks.length k2, .slice a3 s.vs.length k3, .slice a4 s.cs.length k4, .int .u64 s.laid, .slice a5 gs.length k5, .slice a6 ps.length k6]).cell? ⟨w.heap.size + 1, j, none⟩ = some u) := Lib.hid fun j hj => by
      obtain ⟨u, hu⟩ := HR.out j hj
      exact ⟨u, (setCs_other (by simp) _ _ _).trans hu⟩
    have hz0 : w.heap.size < wz.heap.size := by omega
    have hz1 : w.heap.size + 1 < wz.heap.size := by omega
    go_wp2_with (refine wpl_load 33 (.tmp 1) (w.heap.size) [.int .u8 c.tag, .int .i64 c.most, .int .i64 c.seg, .int .i64 c.least, .int .i64 c.den, .int .i64 c.ll, .int .i64 c.rl, .int .i64 c.rh, .int .i64 c.lh, .int .i64 s.seg, .slice a1 s.ws.length k1, .slice a2 s.ks.length k2, .slice a3 s.vs.length k3, .slice a4 s.cs.length k4, .int .u64 s.laid, .slice a5 gs.length k5, .slice a6 ps.length k6, .int .u64 mv] rfl rfl rfl Tryz.underlying33 rfl (by kernel_rfl) HL.out ?_)
    go_wp2
    refine bodyPost_ret (results_c rfl rfl (run_loadVar_many _ Tryz.underlying33 rfl (by kernel_rfl) (setCs_all (W := (setCs w2 w.heap.size 9 [.int .i64 s.seg, .slice a1 s.ws.length k1, .slice a2 s.ks.length k2, .slice a3 s.vs.length k3, .slice a4 s.cs.length k4, .int .u64 s.laid, .slice a5 gs.length k5, .slice a6 ps.length k6])) (b := w.heap.size + 1) (l := [.int .u8 c.tag, .int .i64 c.most, .int .i64 c.seg, .int .i64 c.least, .int .i64 c.den, .int .i64 c.ll, .int .i64 c.rl, .int .i64 c.rh, .int .i64 c.lh, .int .i64 s.seg, .slice a1 s.ws.length k1, .slice a2 s.ks.length k2, .slice a3 s.vs.length k3, .slice a4 s.cs.length k4, .int .u64 s.laid, .slice a5 gs.length k5, .slice a6 ps.length k6, .int .u64 mv]) HR2.out))) rfl ⟨_, _, _, _, _, _, rfl, ?_, ?_, ?_, ?_, ?_, ?_, ?_⟩
    · exact owns_base (setCs_owns (b := w.heap.size + 1) (i := 0) hz1 [.int .u8 c.tag, .int .i64 c.most, .int .i64 c.seg, .int .i64 c.least, .int .i64 c.den, .int .i64 c.ll, .int .i64 c.rl, .int .i64 c.rh, .int .i64 c.lh, .int .i64 s.seg, .slice a1 s.ws.length k1, .slice a2 s.ks.length k2, .slice a3 s.vs.length k3, .slice a4 s.cs.length k4, .int .u64 s.laid, .slice a5 gs.length k5, .slice a6 ps.length k6, .int .u64 mv] (setCs_owns (b := w.heap.size) (i := 9) hz0 [.int .i64 s.seg, .slice a1 s.ws.length k1, .slice a2 s.ks.length k2, .slice a3 s.vs.length k3, .slice a4 s.cs.length k4, .int .u64 s.laid, .slice a5 gs.length k5, .slice a6 ps.length k6] HP.out.1)) (by omega)
    · exact owns_base (setCs_owns (b := w.heap.size + 1) (i := 0) hz1 [.int .u8 c.tag, .int .i64 c.most, .int .i64 c.seg, .int .i64 c.least, .int .i64 c.den, .int .i64 c.ll, .int .i64 c.rl, .int .i64 c.rh, .int .i64 c.lh, .int .i64 s.seg, .slice a1 s.ws.length k1, .slice a2 s.ks.length k2, .slice a3 s.vs.length k3, .slice a4 s.cs.length k4, .int .u64 s.laid, .slice a5 gs.length k5, .slice a6 ps.length k6, .int .u64 mv] (setCs_owns (b := w.heap.size) (i := 9) hz0 [.int .i64 s.seg, .slice a1 s.ws.length k1, .slice a2 s.ks.length k2, .slice a3 s.vs.length k3, .slice a4 s.cs.length k4, .int .u64 s.laid, .slice a5 gs.length k5, .slice a6 ps.length k6] HP.out.2.1)) (by omega)
    · exact owns_base (setCs_owns (b := w.heap.size + 1) (i := 0) hz1 [.int .u8 c.tag, .int .i64 c.most, .int .i64 c.seg, .int .i64 c.least, .int .i64 c.den, .int .i64 c.ll, .int .i64 c.rl, .int .i64 c.rh, .int .i64 c.lh, .int .i64 s.seg, .slice a1 s.ws.length k1, .slice a2 s.ks.length k2, .slice a3 s.vs.length k3, .slice a4 s.cs.length k4, .int .u64 s.laid, .slice a5 gs.length k5, .slice a6 ps.length k6, .int .u64 mv] (setCs_owns (b := w.heap.size) (i := 9) hz0 [.int .i64 s.seg, .slice a1 s.ws.length k1, .slice a2 s.ks.length k2, .slice a3 s.vs.length k3, .slice a4 s.cs.length k4, .int .u64 s.laid, .slice a5 gs.length k5, .slice a6 ps.length k6] HP.out.2.2.1)) (by omega)
    · exact owns_base (setCs_owns (b := w.heap.size + 1) (i := 0) hz1 [.int .u8 c.tag, .int .i64 c.most, .int .i64 c.seg, .int .i64 c.least, .int .i64 c.den, .int .i64 c.ll, .int .i64 c.rl, .int .i64 c.rh, .int .i64 c.lh, .int .i64 s.seg, .slice a1 s.ws.length k1, .slice a2 s.ks.length k2, .slice a3 s.vs.length k3, .slice a4 s.cs.length k4, .int .u64 s.laid, .slice a5 gs.length k5, .slice a6 ps.length k6, .int .u64 mv] (setCs_owns (b := w.heap.size) (i := 9) hz0 [.int .i64 s.seg, .slice a1 s.ws.length k1, .slice a2 s.ks.length k2, .slice a3 s.vs.length k3, .slice a4 s.cs.length k4, .int .u64 s.laid, .slice a5 gs.length k5, .slice a6 ps.length k6] HP.out.2.2.2.1)) (by omega)
    · exact owns_base (setCs_owns (b := w.heap.size + 1) (i := 0) hz1 [.int .u8 c.tag, .int .i64 c.most, .int .i64 c.seg, .int .i64 c.least, .int .i64 c.den, .int .i64 c.ll, .int .i64 c.rl, .int .i64 c.rh, .int .i64 c.lh, .int .i64 s.seg, .slice a1 s.ws.length k1, .slice a2 s.ks.length k2, .slice a3 s.vs.length k3, .slice a4 s.cs.length k4, .int .u64 s.laid, .slice a5 gs.length k5, .slice a6 ps.length k6, .int .u64 mv] (setCs_owns (b := w.heap.size) (i := 9) hz0 [.int .i64 s.seg, .slice a1 s.ws.length k1, .slice a2 s.ks.length k2, .slice a3 s.vs.length k3, .slice a4 s.cs.length k4, .int .u64 s.laid, .slice a5 gs.length k5, .slice a6 ps.length k6] HP.out.2.2.2.2.1)) (by omega)
    · exact owns_base (setCs_owns (b := w.heap.size + 1) (i := 0) hz1 [.int .u8 c.tag, .int .i64 c.most, .int .i64 c.seg, .int .i64 c.least, .int .i64 c.den, .int .i64 c.ll, .int .i64 c.rl, .int .i64 c.rh, .int .i64 c.lh, .int .i64 s.seg, .slice a1 s.ws.length k1, .slice a2 s.ks.length k2, .slice a3 s.vs.length k3, .slice a4 s.cs.length k4, .int .u64 s.laid, .slice a5 gs.length k5, .slice a6 ps.length k6, .int .u64 mv] (setCs_owns (b := w.heap.size) (i := 9) hz0 [.int .i64 s.seg, .slice a1 s.ws.length k1, .slice a2 s.ks.length k2, .slice a3 s.vs.length k3, .slice a4 s.cs.length k4, .int .u64 s.laid, .slice a5 gs.length k5, .slice a6 ps.length k6] HP.out.2.2.2.2.2)) (by omega)
    · exact setCs_below (b := w.heap.size + 1) (by omega) [.int .u8 c.tag, .int .i64 c.most, .int .i64 c.seg, .int .i64 c.least, .int .i64 c.den, .int .i64 c.ll, .int .i64 c.rl, .int .i64 c.rh, .int .i64 c.lh, .int .i64 s.seg, .slice a1 s.ws.length k1, .slice a2 s.ks.length k2, .slice a3 s.vs.length k3, .slice a4 s.cs.length k4, .int .u64 s.laid, .slice a5 gs.length k5, .slice a6 ps.length k6, .int .u64 mv] _ 0 (setCs_below (b := w.heap.size) (Nat.le_refl _) [.int .i64 s.seg, .slice a1 s.ws.length k1, .slice a2 s.ks.length k2, .slice a3 s.vs.length k3, .slice a4 s.cs.length k4, .int .u64 s.laid, .slice a5 gs.length k5, .slice a6 ps.length k6] _ 9 HB2.out)
theorem Twin15_ok (c : Cfg) (s : SlC) (wa ka va ca : Option Addr) (wc kc vc cc : Nat) (gs ps : List Int) (mv : Int) (ga pa : Option Addr) (gc pc : Nat) (w : World) (TW : Hid (∀ W, Below w.heap.size w W → Calls Tryz.prog 22 #[.agg #[.int .i64 s.seg, .slice wa s.ws.length wc, .slice ka s.ks.length kc, .slice va s.vs.length vc, .slice ca s.cs.length cc, .int .u64 s.laid]] W (FreshSl W s))) (HT : Hid (∀ W, Below w.heap.size w W → Calls Tryz.prog 23 #[.agg #[.slice ga gs.length gc, .slice pa ps.length pc]] W (FreshTab W gs ps))) :
    Calls Tryz.prog 5 #[.agg #[.int .u8 c.tag, .int .i64 c.most, .int .i64 c.seg, .int .i64 c.least, .int .i64 c.den, .int .i64 c.ll, .int .i64 c.rl, .int .i64 c.rh, .int .i64 c.lh, .int .i64 s.seg, .slice wa s.ws.length wc, .slice ka s.ks.length kc, .slice va s.vs.length vc, .slice ca s.cs.length cc, .int .u64 s.laid, .slice ga gs.length gc, .slice pa ps.length pc, .int .u64 mv]] w (FreshOm w c s gs ps mv) := by
  go_enter Tryz.func5, Tryz.ntmps5
  go_upto_region 1 with (fail)
  generalize hwz : ((w.alloc (.cells #[.int .u8 c.tag, .int .i64 c.most, .int .i64 c.seg, .int .i64 c.least, .int .i64 c.den, .int .i64 c.ll, .int .i64 c.rl, .int .i64 c.rh, .int .i64 c.lh, .int .i64 s.seg, .slice wa s.ws.length wc, .slice ka s.ks.length kc, .slice va s.vs.length vc, .slice ca s.cs.length cc, .int .u64 s.laid, .slice ga gs.length gc, .slice pa ps.length pc, .int .u64 mv] 33)).alloc (.cells #[.int .u8 0, .int .i64 0, .int .i64 0, .int .i64 0, .int .i64 0, .int .i64 0, .int .i64 0, .int .i64 0, .int .i64 0, .int .i64 0, .slice none 0 0, .slice none 0 0, .slice none 0 0, .slice none 0 0, .int .u64 0, .slice none 0 0, .slice none 0 0, .int .u64 0] 33)) = wz
  have hh := ec18 hwz (au18 (al18 (b := w.heap.size) (by simp)))
  obtain ⟨c_t0, c_t1, c_t2, c_t3, c_t4, c_t5, c_t6, c_t7, c_t8, c_t9, c_t10, c_t11, c_t12, c_t13, c_t14, c_t15, c_t16, c_t17⟩ := hh
  have hh := ef18 hwz (auf18 (alz (b := w.heap.size) (by simp)) (alf18 (b := w.heap.size) (by simp)))
  obtain ⟨f_t0, f_t1, f_t2, f_t3, f_t4, f_t5, f_t6, f_t7, f_t8, f_t9, f_t10, f_t11, f_t12, f_t13, f_t14, f_t15, f_t16, f_t17⟩ := hh
  have z_t := elt hwz (auz (alz (b := w.heap.size) (by simp)))
  have hh := ec18 hwz (al18 (b := w.heap.size + 1) (by simp))
  obtain ⟨c_r0, c_r1, c_r2, c_r3, c_r4, c_r5, c_r6, c_r7, c_r8, c_r9, c_r10, c_r11, c_r12, c_r13, c_r14, c_r15, c_r16, c_r17⟩ := hh
  have hh := ef18 hwz (alf18 (b := w.heap.size + 1) (by simp))
  obtain ⟨f_r0, f_r1, f_r2, f_r3, f_r4, f_r5, f_r6, f_r7, f_r8, f_r9, f_r10, f_r11, f_r12, f_r13, f_r14, f_r15, f_r16, f_r17⟩ := hh
  have z_r := elt hwz (alz (b := w.heap.size + 1) (by simp))
  have HS : Hid (Below w.heap.size w wz) := by rw [← hwz]; exact Lib.hid (((Below.refl _ _).alloc (Nat.le_refl _) _).alloc (by simp) _)
  have hzz : w.heap.size + 2 = wz.heap.size := by rw [← hwz]; simp
  clear hwz
  refine wp_region_late 10 (by kernel_rfl) (N := 14) rfl (by kernel_rfl) (by kernel_rfl) (by decide) (fun w' => Below wz.heap.size wz w') RB (factRAt [.is (.pointer (some ⟨w.heap.size, 0, none⟩)), .is (.agg #[.int .u8 c.tag, .int .i64 c.most, .int .i64 c.seg, .int .i64 c.least, .int .i64 c.den, .int .i64 c.ll, .int .i64 c.rl, .int .i64 c.rh, .int .i64 c.lh]), .is (.pointer (some ⟨w.heap.size, 9, none⟩)), .is (.agg #[.int .i64 s.seg, .slice wa s.ws.length wc, .slice ka s.ks.length kc, .slice va s.vs.length vc, .slice ca s.cs.length cc, .int .u64 s.laid]), .sl wz.heap.size s, .is (.pointer (some ⟨w.heap.size, 15, none⟩)), .is (.agg #[.slice ga gs.length gc, .slice pa ps.length pc]), .tab wz.heap.size gs ps, .is (.pointer (some ⟨w.heap.size, 17, none⟩)), .is (.int .u64 mv)]) (factRAt_stays _) (Below.refl _ _).drew ?steps ?fin
  case steps =>
    refine ⟨?o0, ?o1, ?o2, ?o3, ?o4, ?o5, ?o6, ?o7, ?o8, ?o9, trivial⟩
    case o0 =>
      intro u a w' ev hJ hd K hK
      have e1 : a.tmps.getD 1 undef = .pointer (some ⟨w.heap.size, 0, none⟩) := ev 1 (by decide)
      have HK := Lib.hid hK
      clear hK ev hd
      go_simp
      exact HK.out _ _ (fun h => by cases h) hJ rfl (Below.refl _ _)
    case o1 =>
      intro u a w' ev hJ hd K hK
      have e3 : a.tmps.getD 3 undef = .pointer (some ⟨w.heap.size, 0, none⟩) := (ev 3 (by decide)).trans (hd 0 _ (by kernel_rfl) rfl)
      have g0 := (hJ.cell (p := ⟨w.heap.size, 0, none⟩) (by dsimp only; omega)).trans c_t0
      have g1 := (hJ.cell (p := ⟨w.heap.size, 1, none⟩) (by dsimp only; omega)).trans c_t1
      have g2 := (hJ.cell (p := ⟨w.heap.size, 2, none⟩) (by dsimp only; omega)).trans c_t2
      have g3 := (hJ.cell (p := ⟨w.heap.size, 3, none⟩) (by dsimp only; omega)).trans c_t3
      have g4 := (hJ.cell (p := ⟨w.heap.size, 4, none⟩) (by dsimp only; omega)).trans c_t4
      have g5 := (hJ.cell (p := ⟨w.heap.size, 5, none⟩) (by dsimp only; omega)).trans c_t5
      have g6 := (hJ.cell (p := ⟨w.heap.size, 6, none⟩) (by dsimp only; omega)).trans c_t6
      have g7 := (hJ.cell (p := ⟨w.heap.size, 7, none⟩) (by dsimp only; omega)).trans c_t7
      have g8 := (hJ.cell (p := ⟨w.heap.size, 8, none⟩) (by dsimp only; omega)).trans c_t8
      have HK := Lib.hid hK
      clear hK ev hd
      go_simp
      exact HK.out _ _ (fun h => by cases h) hJ rfl (Below.refl _ _)
    case o2 =>
      intro u a w' ev hJ hd K hK
      have e1 : a.tmps.getD 1 undef = .pointer (some ⟨w.heap.size, 0, none⟩) := ev 1 (by decide)
      have HK := Lib.hid hK
      clear hK ev hd
      go_simp
      exact HK.out _ _ (fun h => by cases h) hJ rfl (Below.refl _ _)
    case o3 =>
      intro u a w' ev hJ hd K hK
      have e5 : a.tmps.getD 5 undef = .pointer (some ⟨w.heap.size, 9, none⟩) := (ev 5 (by decide)).trans (hd 2 _ (by kernel_rfl) rfl)
      have g9 := (hJ.cell (p := ⟨w.heap.size, 9, none⟩) (by dsimp only; omega)).trans c_t9
      have g10 := (hJ.cell (p := ⟨w.heap.size, 10, none⟩) (by dsimp only; omega)).trans c_t10
      have g11 := (hJ.cell (p := ⟨w.heap.size, 11, none⟩) (by dsimp only; omega)).trans c_t11
      have g12 := (hJ.cell (p := ⟨w.heap.size, 12, none⟩) (by dsimp only; omega)).trans c_t12
      have g13 := (hJ.cell (p := ⟨w.heap.size, 13, none⟩) (by dsimp only; omega)).trans c_t13
      have g14 := (hJ.cell (p := ⟨w.heap.size, 14, none⟩) (by dsimp only; omega)).trans c_t14
      have HK := Lib.hid hK
      clear hK ev hd
      go_simp
      exact HK.out _ _ (fun h => by cases h) hJ rfl (Below.refl _ _)
    case o4 =>
      intro u a w' ev hJ hd K hK
      have e6 : a.tmps.getD 6 undef = .agg #[.int .i64 s.seg, .slice wa s.ws.length wc, .slice ka s.ks.length kc, .slice va s.vs.length vc, .slice ca s.cs.length cc, .int .u64 s.laid] := (ev 6 (by decide)).trans (hd 3 _ (by kernel_rfl) rfl)
      have HK := Lib.hid hK
      have HC := Lib.hid (TW.out w' (below_via hJ HS.out HS.out.size))
      have hzJ := hJ.size
      have HJ := Lib.hid hJ
      clear hK ev hd hJ
      go_simp
      refine HC.out.mono ?_
      rintro e w'' ⟨v1, v2, v3, v4, rfl, o1, o2, o3, o4, hb⟩
      exact HK.out _ _ (fun h => by cases h) (HJ.out.trans (hb.mono hzJ)) ⟨v1, v2, v3, v4, rfl, owns_base o1 hzJ, owns_base o2 hzJ, owns_base o3 hzJ, owns_base o4 hzJ⟩ hb
    case o5 =>
      intro u a w' ev hJ hd K hK
      have e1 : a.tmps.getD 1 undef = .pointer (some ⟨w.heap.size, 0, none⟩) := ev 1 (by decide)
      have HK := Lib.hid hK
      clear hK ev hd
      go_simp
      exact HK.out _ _ (fun h => by cases h) hJ rfl (Below.refl _ _)
    case o6 =>
      intro u a w' ev hJ hd K hK
      have e8 : a.tmps.getD 8 undef = .pointer (some ⟨w.heap.size, 15, none⟩) := (ev 8 (by decide)).trans (hd 5 _ (by kernel_rfl) rfl)
      have g15 := (hJ.cell (p := ⟨w.heap.size, 15, none⟩) (by dsimp only; omega)).trans c_t15
      have g16 := (hJ.cell (p := ⟨w.heap.size, 16, none⟩) (by dsimp only; omega)).trans c_t16
      have HK := Lib.hid hK
      clear hK ev hd
      go_simp
      exact HK.out _ _ (fun h => by cases h) hJ rfl (Below.refl _ _)
    case o7 =>
      intro u a w' ev hJ hd K hK
      have e9 : a.tmps.getD 9 undef = .agg #[.slice ga gs.length gc, .slice pa ps.length pc] := (ev 9 (by decide)).trans (hd 6 _ (by kernel_rfl) rfl)
      have HK := Lib.hid hK
      have HC := Lib.hid (HT.out w' (below_via hJ HS.out HS.out.size))
      have hzJ := hJ.size
      have HJ := Lib.hid hJ
      clear hK ev hd hJ
      go_simp
      refine HC.out.mono ?_
      rintro e w'' ⟨v1, v2, rfl, o1, o2, hne, hb⟩
      exact HK.out _ _ (fun h => by cases h) (HJ.out.trans (hb.mono hzJ)) ⟨v1, v2, rfl, owns_base o1 hzJ, owns_base o2 hzJ⟩ hb
    case o8 =>
      intro u a w' ev hJ hd K hK
      have e1 : a.tmps.getD 1 undef = .pointer (some ⟨w.heap.size, 0, none⟩) := ev 1 (by decide)
      have HK := Lib.hid hK
      clear hK ev hd
      go_simp
      exact HK.out _ _ (fun h => by cases h) hJ rfl (Below.refl _ _)
    case o9 =>
      intro u a w' ev hJ hd K hK
      have e11 : a.tmps.getD 11 undef = .pointer (some ⟨w.heap.size, 17, none⟩) := (ev 11 (by decide)).trans (hd 8 _ (by kernel_rfl) rfl)
      have g17 := (hJ.cell (p := ⟨w.heap.size, 17, none⟩) (by dsimp only; omega)).trans c_t17
      have HK := Lib.hid hK
      clear hK ev hd
      go_simp
      exact HK.out _ _ (fun h => by cases h) hJ rfl (Below.refl _ _)
  case fin =>
    intro u w2 hJ hG
    have h4 : u 4 = .agg #[.int .u8 c.tag, .int .i64 c.most, .int .i64 c.seg, .int .i64 c.least, .int .i64 c.den, .int .i64 c.ll, .int .i64 c.rl, .int .i64 c.rh, .int .i64 c.lh] := hG 1 _ rfl
    have h12 : u 12 = .int .u64 mv := hG 9 _ rfl
    obtain ⟨v1, v2, v3, v4, h7, p1, p2, p3, p4⟩ : (FactR.sl wz.heap.size s).holds (u 7) w2 := hG 4 _ rfl
    obtain ⟨v5, v6, h10, p5, p6⟩ : (FactR.tab wz.heap.size gs ps).holds (u 10) w2 := hG 7 _ rfl
    obtain ⟨a1, k1, rfl, -⟩ := owns_news p1
    obtain ⟨a2, k2, rfl, -⟩ := owns_news p2
    obtain ⟨a3, k3, rfl, -⟩ := owns_news p3
    obtain ⟨a4, k4, rfl, -⟩ := owns_news p4
    obtain ⟨a5, k5, rfl, -⟩ := owns_news p5
    obtain ⟨a6, k6, rfl, -⟩ := owns_news p6
    have hz_w2 := hJ.size
    try simp only [World.size_alloc, World.size_setCell] at hz_w2
    have hh := bc18 hJ ⟨c_t0, c_t1, c_t2, c_t3, c_t4, c_t5, c_t6, c_t7, c_t8, c_t9, c_t10, c_t11, c_t12, c_t13, c_t14, c_t15, c_t16, c_t17⟩
    clear c_t0 c_t1 c_t2 c_t3 c_t4 c_t5 c_t6 c_t7 c_t8 c_t9 c_t10 c_t11 c_t12 c_t13 c_t14 c_t15 c_t16 c_t17
    obtain ⟨c_t0, c_t1, c_t2, c_t3, c_t4, c_t5, c_t6, c_t7, c_t8, c_t9, c_t10, c_t11, c_t12, c_t13, c_t14, c_t15, c_t16, c_t17⟩ := hh
    have hh := bf18 hJ z_t ⟨f_t0, f_t1, f_t2, f_t3, f_t4, f_t5, f_t6, f_t7, f_t8, f_t9, f_t10, f_t11, f_t12, f_t13, f_t14, f_t15, f_t16, f_t17⟩
    clear f_t0 f_t1 f_t2 f_t3 f_t4 f_t5 f_t6 f_t7 f_t8 f_t9 f_t10 f_t11 f_t12 f_t13 f_t14 f_t15 f_t16 f_t17
    obtain ⟨f_t0, f_t1, f_t2, f_t3, f_t4, f_t5, f_t6, f_t7, f_t8, f_t9, f_t10, f_t11, f_t12, f_t13, f_t14, f_t15, f_t16, f_t17⟩ := hh
    replace z_t := blt hJ z_t
    have hh := bc18 hJ ⟨c_r0, c_r1, c_r2, c_r3, c_r4, c_r5, c_r6, c_r7, c_r8, c_r9, c_r10, c_r11, c_r12, c_r13, c_r14, c_r15, c_r16, c_r17⟩
    clear c_r0 c_r1 c_r2 c_r3 c_r4 c_r5 c_r6 c_r7 c_r8 c_r9 c_r10 c_r11 c_r12 c_r13 c_r14 c_r15 c_r16 c_r17
    obtain ⟨c_r0, c_r1, c_r2, c_r3, c_r4, c_r5, c_r6, c_r7, c_r8, c_r9, c_r10, c_r11, c_r12, c_r13, c_r14, c_r15, c_r16, c_r17⟩ := hh
    have hh := bf18 hJ z_r ⟨f_r0, f_r1, f_r2, f_r3, f_r4, f_r5, f_r6, f_r7, f_r8, f_r9, f_r10, f_r11, f_r12, f_r13, f_r14, f_r15, f_r16, f_r17⟩
    clear f_r0 f_r1 f_r2 f_r3 f_r4 f_r5 f_r6 f_r7 f_r8 f_r9 f_r10 f_r11 f_r12 f_r13 f_r14 f_r15 f_r16 f_r17
    obtain ⟨f_r0, f_r1, f_r2, f_r3, f_r4, f_r5, f_r6, f_r7, f_r8, f_r9, f_r10, f_r11, f_r12, f_r13, f_r14, f_r15, f_r16, f_r17⟩ := hh
    replace z_r := blt hJ z_r
    have hB2 : Below w.heap.size w w2 := below_via hJ HS.out (by omega)
    have HP := Lib.hid (And.intro p1 (And.intro p2 (And.intro p3 (And.intro p4 (And.intro p5 p6)))))
    have HB2 := Lib.hid hB2
    clear hG hJ p1 p2 p3 p4 p5 p6 hB2
    simp only [mixFrame, mixL, dstsOf, List.take_succ_cons, List.take_zero, List.filterMap_cons, List.filterMap_nil, List.contains_cons, List.contains_nil, Nat.reduceBEq, Bool.or_false, Bool.false_or, Bool.or_true, Bool.true_or, if_true, if_false, Bool.false_eq_true, Nat.reduceAdd, Nat.zero_add, List.drop_succ_cons, List.drop_zero, h4, h12, h7, h10]
    have HR := Lib.hid (some18 ⟨c_r0, c_r1, c_r2, c_r3, c_r4, c_r5, c_r6, c_r7, c_r8, c_r9, c_r10, c_r11, c_r12, c_r13, c_r14, c_r15, c_r16, c_r17⟩)
    have hz1 : w.heap.size + 1 < wz.heap.size := by omega
    go_wp2
    refine bodyPost_ret (results_c rfl rfl (run_loadVar_many _ Tryz.underlying33 rfl (by kernel_rfl) (setCs_all (W := w2) (b := w.heap.size + 1) (l := [.int .u8 c.tag, .int .i64 c.most, .int .i64 c.seg, .int .i64 c.least, .int .i64 c.den, .int .i64 c.ll, .int .i64 c.rl, .int .i64 c.rh, .int .i64 c.lh, .int .i64 s.seg, .slice a1 s.ws.length k1, .slice a2 s.ks.length k2, .slice a3 s.vs.length k3, .slice a4 s.cs.length k4, .int .u64 s.laid, .slice a5 gs.length k5, .slice a6 ps.length k6, .int .u64 mv]) HR.out))) rfl ⟨_, _, _, _, _, _, rfl, ?_, ?_, ?_, ?_, ?_, ?_, ?_⟩
    · exact owns_base (setCs_owns (b := w.heap.size + 1) (i := 0) hz1 [.int .u8 c.tag, .int .i64 c.most, .int .i64 c.seg, .int .i64 c.least, .int .i64 c.den, .int .i64 c.ll, .int .i64 c.rl, .int .i64 c.rh, .int .i64 c.lh, .int .i64 s.seg, .slice a1 s.ws.length k1, .slice a2 s.ks.length k2, .slice a3 s.vs.length k3, .slice a4 s.cs.length k4, .int .u64 s.laid, .slice a5 gs.length k5, .slice a6 ps.length k6, .int .u64 mv] HP.out.1) (by omega)
    · exact owns_base (setCs_owns (b := w.heap.size + 1) (i := 0) hz1 [.int .u8 c.tag, .int .i64 c.most, .int .i64 c.seg, .int .i64 c.least, .int .i64 c.den, .int .i64 c.ll, .int .i64 c.rl, .int .i64 c.rh, .int .i64 c.lh, .int .i64 s.seg, .slice a1 s.ws.length k1, .slice a2 s.ks.length k2, .slice a3 s.vs.length k3, .slice a4 s.cs.length k4, .int .u64 s.laid, .slice a5 gs.length k5, .slice a6 ps.length k6, .int .u64 mv] HP.out.2.1) (by omega)
    · exact owns_base (setCs_owns (b := w.heap.size + 1) (i := 0) hz1 [.int .u8 c.tag, .int .i64 c.most, .int .i64 c.seg, .int .i64 c.least, .int .i64 c.den, .int .i64 c.ll, .int .i64 c.rl, .int .i64 c.rh, .int .i64 c.lh, .int .i64 s.seg, .slice a1 s.ws.length k1, .slice a2 s.ks.length k2, .slice a3 s.vs.length k3, .slice a4 s.cs.length k4, .int .u64 s.laid, .slice a5 gs.length k5, .slice a6 ps.length k6, .int .u64 mv] HP.out.2.2.1) (by omega)
    · exact owns_base (setCs_owns (b := w.heap.size + 1) (i := 0) hz1 [.int .u8 c.tag, .int .i64 c.most, .int .i64 c.seg, .int .i64 c.least, .int .i64 c.den, .int .i64 c.ll, .int .i64 c.rl, .int .i64 c.rh, .int .i64 c.lh, .int .i64 s.seg, .slice a1 s.ws.length k1, .slice a2 s.ks.length k2, .slice a3 s.vs.length k3, .slice a4 s.cs.length k4, .int .u64 s.laid, .slice a5 gs.length k5, .slice a6 ps.length k6, .int .u64 mv] HP.out.2.2.2.1) (by omega)
    · exact owns_base (setCs_owns (b := w.heap.size + 1) (i := 0) hz1 [.int .u8 c.tag, .int .i64 c.most, .int .i64 c.seg, .int .i64 c.least, .int .i64 c.den, .int .i64 c.ll, .int .i64 c.rl, .int .i64 c.rh, .int .i64 c.lh, .int .i64 s.seg, .slice a1 s.ws.length k1, .slice a2 s.ks.length k2, .slice a3 s.vs.length k3, .slice a4 s.cs.length k4, .int .u64 s.laid, .slice a5 gs.length k5, .slice a6 ps.length k6, .int .u64 mv] HP.out.2.2.2.2.1) (by omega)
    · exact owns_base (setCs_owns (b := w.heap.size + 1) (i := 0) hz1 [.int .u8 c.tag, .int .i64 c.most, .int .i64 c.seg, .int .i64 c.least, .int .i64 c.den, .int .i64 c.ll, .int .i64 c.rl, .int .i64 c.rh, .int .i64 c.lh, .int .i64 s.seg, .slice a1 s.ws.length k1, .slice a2 s.ks.length k2, .slice a3 s.vs.length k3, .slice a4 s.cs.length k4, .int .u64 s.laid, .slice a5 gs.length k5, .slice a6 ps.length k6, .int .u64 mv] HP.out.2.2.2.2.2) (by omega)
    · exact setCs_below (b := w.heap.size + 1) (by omega) [.int .u8 c.tag, .int .i64 c.most, .int .i64 c.seg, .int .i64 c.least, .int .i64 c.den, .int .i64 c.ll, .int .i64 c.rl, .int .i64 c.rh, .int .i64 c.lh, .int .i64 s.seg, .slice a1 s.ws.length k1, .slice a2 s.ks.length k2, .slice a3 s.vs.length k3, .slice a4 s.cs.length k4, .int .u64 s.laid, .slice a5 gs.length k5, .slice a6 ps.length k6, .int .u64 mv] _ 0 HB2.out
end Go.Proofs.YtjhpblejlchhjaaGreat
